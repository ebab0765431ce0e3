/- Generated. -/
import Derived.Test.YtkdociaoknmgbaaG1
namespace Go.Proofs.Ytkdociaoknmgbaa
open Go Go.AM Go.AM.AV
set_option maxRecDepth 20000
set_option maxHeartbeats 4000000
set_option linter.unusedVariables false
set_option linter.unusedSimpArgs false
noncomputable section
def i_PolarPart_k3 (v28 : Int) (w44 : Bool) (L45 : List F) (v46 : Int) (v47 : Int) : Option (LR ((List F) × Int × Int × Bool × Int) ((List F) × Int × Int × Bool) (Int × Int × Bool × (List F))) :=
 olet (IntKind.i64.wrap (v28 + 1)) fun (x48 : Int) =>
 some (LR.next (L45, v46, v47, w44, x48))
def i_PolarPart_b4 (a3 : Int) (L24 : List F) (v25 : Int) (v26 : Int) (w27 : Bool) (v28 : Int) : Option (LR ((List F) × Int × Int × Bool × Int) ((List F) × Int × Int × Bool) (Int × Int × Bool × (List F))) :=
 bsel (decide (v28 < a3)) (
  bsel w27 (
   obind3 (i_Matrix_flip v25 v26 L24) fun (r29 : Int) (r30 : Int) (r31 : List F) =>
   obind4 (i_MulMatrices r29 r30 r31 v25 v26 L24) fun (r32 : Int) (r33 : Int) (r34 : Bool) (r35 : List F) =>
   bsel r34 (
    obind4 (i_MulMatrices v25 v26 L24 r32 r33 r35) fun (r36 : Int) (r37 : Int) (r38 : Bool) (r39 : List F) =>
    bsel r38 (
     obind4 (i_WeighMatrices v25 v26 L24 r36 r37 r39 (some 1069547520) (some 3204448256)) fun (r40 : Int) (r41 : Int) (r42 : Bool) (r43 : List F) =>
     bsel r42 (
      i_PolarPart_k3 v28 true r43 r40 r41) (
      i_PolarPart_k3 v28 false r43 r40 r41)) (
     some (LR.ret (0, 0, false, ([] : List F))))) (
    some (LR.ret (0, 0, false, ([] : List F))))) (
   some (LR.ret (0, 0, false, ([] : List F))))) (
  some (LR.out (L24, v25, v26, w27)))
def i_PolarPart_s4 (a3 : Int) : ((List F) × Int × Int × Bool × Int) → Option (LR ((List F) × Int × Int × Bool × Int) ((List F) × Int × Int × Bool) (Int × Int × Bool × (List F))) := fun s => i_PolarPart_b4 a3 s.1 s.2.1 s.2.2.1 s.2.2.2.1 s.2.2.2.2
def i_PolarPart_k4 (L56 : List F) (v57 : Int) (v58 : Int) (w59 : Bool) : Option (Int × Int × Bool × (List F)) :=
 some (v57, v58, w59, L56)
def i_PolarPart_b5 (a3 : Int) : Option (LR (Unit) (Unit) (Int × Int × Bool × (List F))) :=
 bsel (decide (0 < a3)) (
  some (LR.ret (0, 0, false, ([] : List F)))) (
  some (LR.out ()))
def i_PolarPart_s5 (a3 : Int) : (Unit) → Option (LR (Unit) (Unit) (Int × Int × Bool × (List F))) := fun s => i_PolarPart_b5 a3
def i_PolarPart_k5 (r8 : Int) (r9 : Int) (r11 : List F) : Option (Int × Int × Bool × (List F)) :=
 some (r8, r9, false, r11)
def i_PolarPart_k8 (v72 : Int) (w88 : Bool) (L89 : List F) (v90 : Int) (v91 : Int) : Option (LR ((List F) × Int × Int × Bool × Int) ((List F) × Int × Int × Bool) (Int × Int × Bool × (List F))) :=
 olet (IntKind.i64.wrap (v72 + 1)) fun (x92 : Int) =>
 some (LR.next (L89, v90, v91, w88, x92))
def i_PolarPart_b9 (a3 : Int) (L68 : List F) (v69 : Int) (v70 : Int) (w71 : Bool) (v72 : Int) : Option (LR ((List F) × Int × Int × Bool × Int) ((List F) × Int × Int × Bool) (Int × Int × Bool × (List F))) :=
 bsel (decide (v72 < a3)) (
  bsel w71 (
   obind3 (i_Matrix_flip v69 v70 L68) fun (r73 : Int) (r74 : Int) (r75 : List F) =>
   obind4 (i_MulMatrices r73 r74 r75 v69 v70 L68) fun (r76 : Int) (r77 : Int) (r78 : Bool) (r79 : List F) =>
   bsel r78 (
    obind4 (i_MulMatrices v69 v70 L68 r76 r77 r79) fun (r80 : Int) (r81 : Int) (r82 : Bool) (r83 : List F) =>
    bsel r82 (
     obind4 (i_WeighMatrices v69 v70 L68 r80 r81 r83 (some 1069547520) (some 3204448256)) fun (r84 : Int) (r85 : Int) (r86 : Bool) (r87 : List F) =>
     bsel r86 (
      i_PolarPart_k8 v72 true r87 r84 r85) (
      i_PolarPart_k8 v72 false r87 r84 r85)) (
     some (LR.ret (0, 0, false, ([] : List F))))) (
    some (LR.ret (0, 0, false, ([] : List F))))) (
   some (LR.ret (0, 0, false, ([] : List F))))) (
  some (LR.out (L68, v69, v70, w71)))
def i_PolarPart_s9 (a3 : Int) : ((List F) × Int × Int × Bool × Int) → Option (LR ((List F) × Int × Int × Bool × Int) ((List F) × Int × Int × Bool) (Int × Int × Bool × (List F))) := fun s => i_PolarPart_b9 a3 s.1 s.2.1 s.2.2.1 s.2.2.2.1 s.2.2.2.2
def i_PolarPart_k9 (L100 : List F) (v101 : Int) (v102 : Int) (w103 : Bool) : Option (Int × Int × Bool × (List F)) :=
 some (v101, v102, w103, L100)
def i_PolarPart_b10 (a3 : Int) : Option (LR (Unit) (Unit) (Int × Int × Bool × (List F))) :=
 bsel (decide (0 < a3)) (
  some (LR.ret (0, 0, false, ([] : List F)))) (
  some (LR.out ()))
def i_PolarPart_s10 (a3 : Int) : (Unit) → Option (LR (Unit) (Unit) (Int × Int × Bool × (List F))) := fun s => i_PolarPart_b10 a3
def i_PolarPart_k10 (r12 : Int) (r13 : Int) (r16 : List F) : Option (Int × Int × Bool × (List F)) :=
 some (r12, r13, false, r16)
def i_PolarPart (a0 : Int) (a1 : Int) (a2 : List F) (a3 : Int) : Option (Int × Int × Bool × (List F)) :=
 obind (i_isSquare a0 a1 a2) fun (r1 : Bool) =>
 bsel r1 (
  obind (i_isRounds a3) fun (r2 : Bool) =>
  bsel r2 (
   obind2 (i_WholeNorm a0 a1 a2) fun (r3 : F) (r4 : Bool) =>
   bsel r4 (
    bsel (flt .f32 (some 0) r3) (
     obind3 (i_made_2Fi_PolarPart_1 a0 a0 a0 a1 a2 r3) fun (r5 : Int) (r6 : Int) (r7 : List F) =>
     obind (i_Matrix_valid_02o r5 r6 r7) (fun z => osum z (fun y => obind4 (some y) fun (r8 : Int) (r9 : Int) (r10 : Bool) (r11 : List F) =>
      need (decide (r11.length = r7.length)) <|
      bsel r10 (
       obind (loopM (i_PolarPart_s4 a3) (r11, r8, r9, true, 0)) fun z => osum z (fun e => i_PolarPart_k4 e.1 e.2.1 e.2.2.1 e.2.2.2) (fun r => some r)) (
       obind (loopM (i_PolarPart_s5 a3) ()) fun z => osum z (fun e => i_PolarPart_k5 r8 r9 r11) (fun r => some r))) (fun y => obind5 (some y) fun (r12 : Int) (r13 : Int) (r14 : Bool) (r15 : List F) (r16 : List F) =>
      need (decide (r15.length = r7.length)) <|
      bsel r14 (
       obind (loopM (i_PolarPart_s9 a3) (r16, r12, r13, true, 0)) fun z => osum z (fun e => i_PolarPart_k9 e.1 e.2.1 e.2.2.1 e.2.2.2) (fun r => some r)) (
       obind (loopM (i_PolarPart_s10 a3) ()) fun z => osum z (fun e => i_PolarPart_k10 r12 r13 r16) (fun r => some r))))) (
     some (0, 0, false, ([] : List F)))) (
    some (0, 0, false, ([] : List F)))) (
   some (0, 0, false, ([] : List F)))) (
  some (0, 0, false, ([] : List F)))
theorem i_PolarPart_ok (a0 : Int) (a1 : Int) (a2 : List F) (a3 : Int) (q0 : Int) (q1 : Int) (q2 : Bool) (q3 : List F) (h : i_PolarPart a0 a1 a2 a3 = some (q0, q1, q2, q3)) : Ev Try.prog 42 [agg (mXc a0 a1 a2), i64 a3] [] (tup [agg (oXc q0 q1 0 0 q3.length), b q2]) [⟨0, some (q3.map f32)⟩] := by
 refine yE Try.func42 7 157 0 [(0, agg (mXc a0 a1 a2)), (1, i64 a3)] [⟨0, none⟩, ⟨0, none⟩, ⟨0, none⟩, ⟨0, none⟩, ⟨0, none⟩, ⟨0, none⟩, ⟨0, none⟩] rfl ?_
 unfold i_PolarPart at h
 refine zQ<|yd rfl (ptr (mXc a0 a1 a2)) (TOp.box_s rfl rfl rfl)<|ye rfl (optr 0 1 0) [⟨1, some zMx⟩, ⟨0, none⟩, ⟨0, none⟩, ⟨0, none⟩, ⟨0, none⟩, ⟨0, none⟩, ⟨0, none⟩] (TOp.alloc_o (g := ⟨0, none⟩) 0 rfl zer33 zok33 rfl)<|ya rfl (b false)<|zN ?_
 refine yS<|yS ?_
 obtain ⟨r1, hf1, h⟩ := oS h
 rcases oB h with ⟨hc2, h⟩ | ⟨hc2, h⟩
 ·obtain ⟨r2, hf3, h⟩ := oS h
  rcases oB h with ⟨hc4, h⟩ | ⟨hc4, h⟩
  ·refine yW<|yl rfl (agg (mXc a0 a1 a2)) (yL agg33 siz33)<|yd rfl (b true) (TOp.eqb (TOp.callB (CallAs.func ent91 rfl rfl) (Bors.cons (Bor.agg (bP (bP (bS bN)))) bN) rfl rfl (i_isSquare_ok a0 a1 a2 r1 hf1)) hc2)<|yl rfl (b false) y1<|ym rfl (b false)<|ym rfl (i64 a3)<|yd rfl (b true) (TOp.eqb (yc ent108 rfl rfl bN0 (i_isRounds_ok a3 r2 hf3)) hc4)<|yl rfl (b false) y1<|yl rfl (b false) yp<|zN ?_
   refine yF<|RunC.skip<|yS ?_
   obtain ⟨r3, r4, hf5, h⟩ := obind2_some h
   rcases oB h with ⟨hc6, h⟩ | ⟨hc6, h⟩
   ·refine yW<|yl rfl (agg (mXc a0 a1 a2)) (yL agg33 siz33)<|yd rfl (tup [f32 r3, b r4]) (TOp.callB (CallAs.func ent109 rfl rfl) (Bors.cons (Bor.agg (bP (bP (bS bN)))) bN) rfl rfl (i_WholeNorm_ok a0 a1 a2 r3 r4 hf5))<|ym rfl (tup [f32 r3, b r4])<|yl rfl (f32 r3) y3<|yl rfl (b true) (LOp.eqb y3 hc6)<|ye rfl (optr 1 1 0) ([⟨1, some zMx⟩, ⟨1, some [f32 (some 0)]⟩, ⟨0, none⟩, ⟨0, none⟩, ⟨0, none⟩, ⟨0, none⟩, ⟨0, none⟩]) (TOp.alloc_o (g := ⟨0, none⟩) 1 rfl zer28 zok28 rfl)<|ys (f32 r3) [f32 r3] ([⟨1, some zMx⟩, ⟨1, some [f32 r3]⟩, ⟨0, none⟩, ⟨0, none⟩, ⟨0, none⟩, ⟨0, none⟩, ⟨0, none⟩]) siz28<|ya rfl (b true)<|zN ?_
    refine yS<|yS ?_
    rcases oB h with ⟨hc7, h⟩ | ⟨hc7, h⟩
    ·refine yW<|ym rfl (b true)<|yl rfl (b false) y1<|ym rfl (b false)<|yd rfl (f32 r3) (TOp.load1_o rfl rfl agg28 rfl rfl)<|yl rfl (b true) (LOp.eqb (LOp.fgt rfl (OpF.tmp rfl) (OpF.const rfl (by kernel_rfl) (by kernel_rfl))) hc7)<|yl rfl (b false) y1<|yl rfl (b false) yp<|zN ?_
     refine RunC.wl (τ' := [(1, i64 a3), (2, ptr (mXc a0 a1 a2)), (4, optr 0 1 0), (6, optr 1 1 0), (32, b false)]) (Γ' := [⟨1, some zMx⟩, ⟨1, some [f32 r3]⟩, ⟨0, none⟩, ⟨0, none⟩, ⟨0, none⟩, ⟨0, none⟩, ⟨0, none⟩]) ⟨aR, aR, aR, aR, aR, trivial⟩ ⟨⟨rfl, .inr rfl⟩, ⟨rfl, .inr rfl⟩, ⟨rfl, .inr rfl⟩, ⟨rfl, .inr rfl⟩, ⟨rfl, .inr rfl⟩, ⟨rfl, .inr rfl⟩, ⟨rfl, .inr rfl⟩, trivial⟩<|yF<|RunC.skip<|yS ?_
     obtain ⟨r5, r6, r7, hf8, h⟩ := obind3_some h
     obtain ⟨z11, hf9, h⟩ := oS h
     rcases z11 with z11 | z11
     ·replace h := (osum_inl _ _ _).symm.trans h
      obtain ⟨r8, r9, r10, r11, hz12, h⟩ := obind4_some h
      cases hz12
      obtain ⟨hn10, h⟩ := need_some h
      rcases oB h with ⟨hc11, h⟩ | ⟨hc11, h⟩
      ·refine yW<|yl rfl (ptr (mXc a0 a1 a2)) (LOp.fap und33 rfl siz2 rfl rfl rfl)<|yl rfl (i64 a0) (y2 agg2)<|yl rfl (ptr (mXc a0 a1 a2)) (LOp.fap und33 rfl siz2 rfl rfl rfl)<|yl rfl (i64 a0) (y2 agg2)<|yl rfl (fn (.func 110) [] [ptr (mXc a0 a1 a2), optr 1 1 0]) (LOp.makeFunc rfl rfl)<|ye rfl (agg (oXc r5 r6 2 1 r7.length)) ([⟨1, some zMx⟩, ⟨1, some [f32 r3]⟩, ⟨1, some (r7.map f32)⟩, ⟨0, none⟩, ⟨0, none⟩, ⟨0, none⟩, ⟨0, none⟩]) (TOp.callBN (ls := [(r7.map f32)]) [2] (CallAs.func ent64 rfl rfl) (bP (bP (Bors.cons (Bor.fn bN (Bors.cons (Bor.ptr (bP (bP (bS bN)))) (Bors.cons (Bor.optr rfl (Bors.p bN0) rfl) bN))) bN))) rfl (i_made_2Fi_PolarPart_1_ok a0 a0 a0 a1 a2 r3 r5 r6 r7 hf8) (and_all (lts0_map (f := f32) (fun _ => rfl) _) rfl) (and_all (noss_map (f := f32) (fun _ => rfl) _) rfl) rfl (by decide) (ns_of ⟨⟨_, rfl⟩, trivial⟩))<|ROps.callO (A := [agg (oXc r5 r6 2 1 r7.length)]) (args := [agg (oXc r5 r6 0 0 r7.length)]) (Γc := [⟨0, some (r7.map f32)⟩]) (Γc' := [⟨0, some (r11.map f32)⟩]) (r' := tup [agg (oXc r8 r9 2 1 r7.length), b r10]) (Γ' := [⟨1, some zMx⟩, ⟨1, some [f32 r3]⟩, ⟨1, some (r11.map f32)⟩, ⟨0, none⟩, ⟨0, none⟩, ⟨0, none⟩, ⟨0, none⟩]) [(2, 1)] [] rfl (CallAs.func ent107 rfl rfl) rfl rfl (SelOk.of (show List.Nodup [2] from by decide) (SelL.arr0 (f := f32) (fun _ => rfl) rfl trivial)) (live_of ⟨⟨_, _, rfl⟩, trivial⟩) (by simp [ren, rens, sigma, rens_f32, rens_f64, rens_i64, rens_ik, rens_str, rens_cp]) rfl (i_Matrix_valid_02o_ok0 r5 r6 r7 r8 r9 r10 r11 hf9) rfl (news_of trivial) (show List.Nodup [2] from by decide) (by simp [ren, rens, sigma, of_decide_eq_true hn10]) (by simp [backOb, sigma, ren, rens, rens_f32, rens_f64, rens_i64, rens_ik, rens_str, rens_cp])<|ym rfl (tup [agg (oXc r8 r9 2 1 r7.length), b r10])<|yl rfl (agg (oXc r8 r9 2 1 r7.length)) y3<|yl rfl (b true) (LOp.eqb y3 hc11)<|ye rfl (optr 3 1 0) ([⟨1, some zMx⟩, ⟨1, some [f32 r3]⟩, ⟨1, some (r11.map f32)⟩, ⟨1, some zMx⟩, ⟨0, none⟩, ⟨0, none⟩, ⟨0, none⟩]) (TOp.alloc_o (g := ⟨0, none⟩) 3 rfl zer33 zok33 rfl)<|ys (agg (oXc r8 r9 2 1 r7.length)) (oXc r8 r9 2 1 r7.length) ([⟨1, some zMx⟩, ⟨1, some [f32 r3]⟩, ⟨1, some (r11.map f32)⟩, ⟨1, some (oXc r8 r9 2 1 r7.length)⟩, ⟨0, none⟩, ⟨0, none⟩, ⟨0, none⟩]) siz33<|ya rfl (b true)<|zN ?_
       refine RunC.wl (τ' := [(1, i64 a3), (4, optr 0 1 0), (7, b true), (8, optr 3 1 0)]) (Γ' := [⟨1, some zMx⟩, ⟨1, none⟩, ⟨1, some (r11.map f32)⟩, ⟨1, some (oXc r8 r9 2 1 r7.length)⟩, ⟨0, none⟩, ⟨0, none⟩, ⟨0, none⟩]) ⟨aR, aR, aR, aR, trivial⟩ ⟨⟨rfl, .inr rfl⟩, ⟨rfl, .inl rfl⟩, ⟨rfl, .inr rfl⟩, ⟨rfl, .inr rfl⟩, ⟨rfl, .inr rfl⟩, ⟨rfl, .inr rfl⟩, ⟨rfl, .inr rfl⟩, trivial⟩<|yS<|zQ<|ym rfl (i64 a3)<|ym rfl (i64 0)<|zN ?_
       obtain ⟨z13, hz_13, h⟩ := oS h
       refine RunC.cutN (fun τ Γ => ∃ (L56 : List F) (v57 : Int) (v58 : Int) (w59 : Bool) (u49 : Nat) (u50 : Nat) (u51 : Nat) (u52 : Nat) (u53 : Nat) (u54 : Nat) (u55 : Nat), Le 157 τ Γ [(4, optr 0 u49 0), (7, b w59), (8, optr 3 u52 0)] [⟨u49, some zMx⟩, ⟨u50, none⟩, ⟨u51, some (L56.map f32)⟩, ⟨u52, some (oXc v57 v58 2 u51 L56.length)⟩, ⟨u53, none⟩, ⟨u54, none⟩, ⟨u55, none⟩] ∧ z13 = .inl (L56, v57, v58, w59)) ?_ ?_
       ·refine RunC.block (RunC.loop (RunL.loopM (x := z13) (i_PolarPart_s4 a3) (fun (s : (List F) × Int × Int × Bool × Int) τ Γ => ∃ (u17 : Nat) (u18 : Nat) (u19 : Nat) (u20 : Nat) (u21 : Nat) (u22 : Nat) (u23 : Nat), Le 157 τ Γ [(4, optr 0 u17 0), (7, b s.2.2.2.1), (8, optr 3 u20 0), (44, i64 a3), (45, i64 s.2.2.2.2)] [⟨u17, some zMx⟩, ⟨u18, none⟩, ⟨u19, some (s.1.map f32)⟩, ⟨u20, some [i64 s.2.1, i64 s.2.2.1, oref 2 u19 0 s.1.length]⟩, ⟨u21, none⟩, ⟨u22, none⟩, ⟨u23, none⟩]) ?_ _ _ _ hz_13 ⟨1, 1, 1, 1, 0, 0, 0, (Le.of ⟨aR, aR, aR, aR, aR, trivial⟩ ⟨⟨rfl, .inr rfl⟩, ⟨rfl, .inl rfl⟩, ⟨rfl, .inr rfl⟩, ⟨rfl, .inr (by first | rfl | (simp; done) | (rw [(of_decide_eq_true hn10)] <;> rfl) | simp [(of_decide_eq_true hn10)])⟩, ⟨rfl, .inl rfl⟩, ⟨rfl, .inl rfl⟩, ⟨rfl, .inl rfl⟩, trivial⟩)⟩))
        rintro ⟨L24, v25, v26, w27, v28⟩ τ13 Γ13 y13_ ⟨u17, u18, u19, u20, u21, u22, u23, hw13⟩ h13_ ho13 hr13
        refine RunC.le (τ' := [(4, optr 0 u17 0), (7, b w27), (8, optr 3 u20 0), (44, i64 a3), (45, i64 v28)]) (Γ' := [⟨u17, some zMx⟩, ⟨u18, none⟩, ⟨u19, some (L24.map f32)⟩, ⟨u20, some (oXc v25 v26 2 u19 L24.length)⟩, ⟨u21, none⟩, ⟨u22, none⟩, ⟨u23, none⟩]) hw13 ?_
        replace h13_ : i_PolarPart_b4 a3 L24 v25 v26 w27 v28 = some y13_ := h13_
        unfold i_PolarPart_b4 at h13_
        refine yS ?_
        rcases oB h13_ with ⟨hc14, h13_⟩ | ⟨hc14, h13_⟩
        ·refine yW<|yl rfl (b true) (LOp.eqb (LOp.lss rfl rfl rfl) hc14)<|zN ?_
         refine yS<|yT<|RunC.skip<|yS<|RunC.cutN (fun τ Γ => ∃ (w44 : Bool) (L45 : List F) (v46 : Int) (v47 : Int), Le 157 τ Γ [(4, optr 0 u17 0), (7, b w44), (8, optr 3 u20 0), (44, i64 a3), (45, i64 v28)] [⟨u17, some zMx⟩, ⟨(u18 + 2), some (L45.map f32)⟩, ⟨u19, none⟩, ⟨u20, some [i64 v46, i64 v47, oref 1 (u18 + 2) 0 L45.length]⟩, ⟨(u21 + 1), none⟩, ⟨(u22 + 1), none⟩, ⟨(u23 + 1), none⟩] ∧ i_PolarPart_k3 v28 w44 L45 v46 v47 = some y13_) ?_ ?_
         ·refine RunC.block<|yS<|yS ?_
          rcases oB h13_ with ⟨hc15, h13_⟩ | ⟨hc15, h13_⟩
          ·refine yW<|yl rfl (b true) (yv hc15)<|yl rfl (b false) y1<|zN ?_
           refine yF<|RunC.skip<|yS ?_
           obtain ⟨r29, r30, r31, hf16, h13_⟩ := obind3_some h13_
           obtain ⟨r32, r33, r34, r35, hf17, h13_⟩ := obind4_some h13_
           rcases oB h13_ with ⟨hc18, h13_⟩ | ⟨hc18, h13_⟩
           ·refine RunC.region_draw (Γ' := [⟨u17, some zMx⟩, ⟨(u18 + 1), some (r35.map f32)⟩, ⟨u19, some (L24.map f32)⟩, ⟨u20, some (oXc v25 v26 2 u19 L24.length)⟩, ⟨(u21 + 1), some zMx⟩, ⟨u22, none⟩, ⟨u23, none⟩]) 8 mixed 
             (TR.d (r := agg (oXc v25 v26 2 u19 L24.length)) (fs := []) rfl rfl (TOp.loadAgg_o rfl agg33 siz33 rfl rfl rfl rfl) <|
             (TR.d (r := agg (mXc r29 r30 r31)) (fs := []) rfl rfl (TOp.callBS (ls := [(r31.map f32)]) (CallAs.func ent111 rfl rfl) (Bors.cons (Bor.agg (bP (bP (Bors.cons (Bor.own (f := f32) (fun _ => rfl) rfl rfl) bN)))) bN) (i_Matrix_flip_ok v25 v26 L24 r29 r30 r31 hf16) rfl (lt_agg (lts_cons rfl (lts_cons rfl (lts_cons (lt_sl (fun _ => rfl)) lts_nil)))) (and_all (noss_map (f := f32) (fun _ => rfl) _) rfl) (Bor.agg (bP (bP (Bors.cons (Bor.own (f := f32) (fun _ => rfl) rfl rfl) bN))))) <|
             (TR.d (r := agg (oXc v25 v26 2 u19 L24.length)) (fs := []) rfl rfl (TOp.loadAgg_o rfl agg33 siz33 rfl rfl rfl rfl) <|
             (TR.d (r := tup [agg [i64 r32, i64 r33, oref 1 (u18 + 1) 0 r35.length], b r34]) (fs := [(1, (r35.map f32))]) rfl rfl (TOp.eqr (TOp.callBN (ls := [(r35.map f32)]) [1] (CallAs.func ent95 rfl rfl) (Bors.cons (Bor.agg (bP (bP (bS bN)))) (Bors.cons (Bor.agg (bP (bP (Bors.cons (Bor.own (f := f32) (fun _ => rfl) rfl rfl) bN)))) bN)) rfl (i_MulMatrices_ok r29 r30 r31 v25 v26 L24 r32 r33 r34 r35 hf17) (and_all (lts0_map (f := f32) (fun _ => rfl) _) rfl) (and_all (noss_map (f := f32) (fun _ => rfl) _) rfl) rfl (by decide) (ns_of ⟨⟨_, rfl⟩, trivial⟩)) (by simp [ren, rens, sigma, newNames])) <|
             (tm rfl (tup [agg [i64 r32, i64 r33, oref 1 (u18 + 1) 0 r35.length], b r34]) <|
             (tl rfl (agg [i64 r32, i64 r33, oref 1 (u18 + 1) 0 r35.length]) y3 <|
             (TR.loose (r := b true) rfl rfl (LOp.eqb y3 hc18) <|
             (TR.d (r := optr 4 (u21 + 1) 0) (fs := [(4, zMx)]) rfl rfl (TOp.alloc_o (g := ⟨u21, none⟩) 4 rfl zer33 zok33 rfl) <|
             TR.nil)))))))) rfl (by kernel_rfl) rfl (fills_of (by show List.Nodup [1, 4]; decide) ⟨⟨_, rfl⟩, ⟨_, rfl⟩, trivial⟩) rfl ?_
            iterate 8 refine ROps.dropS ?_
            refine ROps.drop0<|ys (agg [i64 r32, i64 r33, oref 1 (u18 + 1) 0 r35.length]) [i64 r32, i64 r33, oref 1 (u18 + 1) 0 r35.length] ([⟨u17, some zMx⟩, ⟨(u18 + 1), some (r35.map f32)⟩, ⟨u19, some (L24.map f32)⟩, ⟨u20, some (oXc v25 v26 2 u19 L24.length)⟩, ⟨(u21 + 1), some [i64 r32, i64 r33, oref 1 (u18 + 1) 0 r35.length]⟩, ⟨u22, none⟩, ⟨u23, none⟩]) siz33<|ya rfl (b true)<|zN ?_
            refine yS<|zQ<|ym rfl (b true)<|yl rfl (b false) y1<|zN ?_
            refine RunC.wl (τ' := [(4, optr 0 u17 0), (8, optr 3 u20 0), (9, optr 4 (u21 + 1) 0), (44, i64 a3), (45, i64 v28), (58, b false)]) (Γ' := [⟨u17, some zMx⟩, ⟨(u18 + 1), some (r35.map f32)⟩, ⟨u19, some (L24.map f32)⟩, ⟨u20, some (oXc v25 v26 2 u19 L24.length)⟩, ⟨(u21 + 1), some [i64 r32, i64 r33, oref 1 (u18 + 1) 0 r35.length]⟩, ⟨u22, none⟩, ⟨u23, none⟩]) ⟨aR, aR, aR, aR, aR, aR, trivial⟩ ⟨⟨rfl, .inr rfl⟩, ⟨rfl, .inr rfl⟩, ⟨rfl, .inr rfl⟩, ⟨rfl, .inr rfl⟩, ⟨rfl, .inr rfl⟩, ⟨rfl, .inl rfl⟩, ⟨rfl, .inl rfl⟩, trivial⟩<|yF<|RunC.skip<|yS ?_
            obtain ⟨r36, r37, r38, r39, hf19, h13_⟩ := obind4_some h13_
            rcases oB h13_ with ⟨hc20, h13_⟩ | ⟨hc20, h13_⟩
            ·refine yW<|yd rfl (agg (oXc v25 v26 2 u19 L24.length)) (TOp.loadAgg_o rfl agg33 siz33 rfl rfl rfl rfl)<|yd rfl (agg [i64 r32, i64 r33, oref 1 (u18 + 1) 0 r35.length]) (TOp.loadAgg_o rfl agg33 siz33 rfl rfl rfl rfl)<|ye rfl (tup [agg [i64 r36, i64 r37, oref 5 (u22 + 1) 0 r39.length], b r38]) ([⟨u17, some zMx⟩, ⟨(u18 + 1), some (r35.map f32)⟩, ⟨u19, some (L24.map f32)⟩, ⟨u20, some (oXc v25 v26 2 u19 L24.length)⟩, ⟨(u21 + 1), some [i64 r32, i64 r33, oref 1 (u18 + 1) 0 r35.length]⟩, ⟨(u22 + 1), some (r39.map f32)⟩, ⟨u23, none⟩]) (TOp.eqr (TOp.callBN (ls := [(r39.map f32)]) [5] (CallAs.func ent95 rfl rfl) (Bors.cons (Bor.agg (bP (bP (Bors.cons (Bor.own (f := f32) (fun _ => rfl) rfl rfl) bN)))) (Bors.cons (Bor.agg (bP (bP (Bors.cons (Bor.own (f := f32) (fun _ => rfl) rfl rfl) bN)))) bN)) rfl (i_MulMatrices_ok v25 v26 L24 r32 r33 r35 r36 r37 r38 r39 hf19) (and_all (lts0_map (f := f32) (fun _ => rfl) _) rfl) (and_all (noss_map (f := f32) (fun _ => rfl) _) rfl) rfl (by decide) (ns_of ⟨⟨_, rfl⟩, trivial⟩)) (by simp [ren, rens, sigma, newNames]))<|ym rfl (tup [agg [i64 r36, i64 r37, oref 5 (u22 + 1) 0 r39.length], b r38])<|yl rfl (agg [i64 r36, i64 r37, oref 5 (u22 + 1) 0 r39.length]) y3<|yl rfl (b true) (LOp.eqb y3 hc20)<|ye rfl (optr 6 (u23 + 1) 0) ([⟨u17, some zMx⟩, ⟨(u18 + 1), some (r35.map f32)⟩, ⟨u19, some (L24.map f32)⟩, ⟨u20, some (oXc v25 v26 2 u19 L24.length)⟩, ⟨(u21 + 1), some [i64 r32, i64 r33, oref 1 (u18 + 1) 0 r35.length]⟩, ⟨(u22 + 1), some (r39.map f32)⟩, ⟨(u23 + 1), some zMx⟩]) (TOp.alloc_o (g := ⟨u23, none⟩) 6 rfl zer33 zok33 rfl)<|ys (agg [i64 r36, i64 r37, oref 5 (u22 + 1) 0 r39.length]) [i64 r36, i64 r37, oref 5 (u22 + 1) 0 r39.length] ([⟨u17, some zMx⟩, ⟨(u18 + 1), some (r35.map f32)⟩, ⟨u19, some (L24.map f32)⟩, ⟨u20, some (oXc v25 v26 2 u19 L24.length)⟩, ⟨(u21 + 1), some [i64 r32, i64 r33, oref 1 (u18 + 1) 0 r35.length]⟩, ⟨(u22 + 1), some (r39.map f32)⟩, ⟨(u23 + 1), some [i64 r36, i64 r37, oref 5 (u22 + 1) 0 r39.length]⟩]) siz33<|ya rfl (b true)<|zN ?_
             refine RunC.wl (τ' := [(4, optr 0 u17 0), (8, optr 3 u20 0), (10, b true), (11, optr 6 (u23 + 1) 0), (44, i64 a3), (45, i64 v28)]) (Γ' := [⟨u17, some zMx⟩, ⟨(u18 + 1), none⟩, ⟨u19, some (L24.map f32)⟩, ⟨u20, some (oXc v25 v26 2 u19 L24.length)⟩, ⟨(u21 + 1), none⟩, ⟨(u22 + 1), some (r39.map f32)⟩, ⟨(u23 + 1), some [i64 r36, i64 r37, oref 5 (u22 + 1) 0 r39.length]⟩]) ⟨aR, aR, aR, aR, aR, aR, trivial⟩ ⟨⟨rfl, .inr rfl⟩, ⟨rfl, .inl rfl⟩, ⟨rfl, .inr rfl⟩, ⟨rfl, .inr rfl⟩, ⟨rfl, .inl rfl⟩, ⟨rfl, .inr rfl⟩, ⟨rfl, .inr rfl⟩, trivial⟩<|yS<|zQ<|ym rfl (b true)<|yl rfl (b false) y1<|zN ?_
             refine yF<|RunC.skip ?_
             obtain ⟨r40, r41, r42, r43, hf21, h13_⟩ := obind4_some h13_
             rcases oB h13_ with ⟨hc22, h13_⟩ | ⟨hc22, h13_⟩
             ·refine yW<|yd rfl (agg (oXc v25 v26 2 u19 L24.length)) (TOp.loadAgg_o rfl agg33 siz33 rfl rfl rfl rfl)<|yd rfl (agg [i64 r36, i64 r37, oref 5 (u22 + 1) 0 r39.length]) (TOp.loadAgg_o rfl agg33 siz33 rfl rfl rfl rfl)<|ye rfl (tup [agg [i64 r40, i64 r41, oref 1 (u18 + 2) 0 r43.length], b r42]) ([⟨u17, some zMx⟩, ⟨(u18 + 2), some (r43.map f32)⟩, ⟨u19, some (L24.map f32)⟩, ⟨u20, some (oXc v25 v26 2 u19 L24.length)⟩, ⟨(u21 + 1), none⟩, ⟨(u22 + 1), some (r39.map f32)⟩, ⟨(u23 + 1), some [i64 r36, i64 r37, oref 5 (u22 + 1) 0 r39.length]⟩]) (TOp.eqr (TOp.callBN (ls := [(r43.map f32)]) [1] (CallAs.func ent41 rfl rfl) (Bors.cons (Bor.agg (bP (bP (Bors.cons (Bor.own (f := f32) (fun _ => rfl) rfl rfl) bN)))) (Bors.cons (Bor.agg (bP (bP (Bors.cons (Bor.own (f := f32) (fun _ => rfl) rfl rfl) bN)))) (Bors.cons (Bor.le (ALe.fl (by kernel_rfl) (by kernel_rfl)) (Bor.pure rfl)) (Bors.cons (Bor.le (ALe.fl (by kernel_rfl) (by kernel_rfl)) (Bor.pure rfl)) bN)))) rfl (i_WeighMatrices_ok v25 v26 L24 r36 r37 r39 (some 1069547520) (some 3204448256) r40 r41 r42 r43 hf21) (and_all (lts0_map (f := f32) (fun _ => rfl) _) rfl) (and_all (noss_map (f := f32) (fun _ => rfl) _) rfl) rfl (by decide) (ns_of ⟨⟨_, rfl⟩, trivial⟩)) (by simp [ren, rens, sigma, newNames]))<|ym rfl (tup [agg [i64 r40, i64 r41, oref 1 (u18 + 2) 0 r43.length], b r42])<|yl rfl (agg [i64 r40, i64 r41, oref 1 (u18 + 2) 0 r43.length]) y3<|yl rfl (b true) (LOp.eqb y3 hc22)<|ys (agg [i64 r40, i64 r41, oref 1 (u18 + 2) 0 r43.length]) [i64 r40, i64 r41, oref 1 (u18 + 2) 0 r43.length] ([⟨u17, some zMx⟩, ⟨(u18 + 2), some (r43.map f32)⟩, ⟨u19, some (L24.map f32)⟩, ⟨u20, some [i64 r40, i64 r41, oref 1 (u18 + 2) 0 r43.length]⟩, ⟨(u21 + 1), none⟩, ⟨(u22 + 1), some (r39.map f32)⟩, ⟨(u23 + 1), some [i64 r36, i64 r37, oref 5 (u22 + 1) 0 r39.length]⟩]) siz33<|ya rfl (b true)<|zN ?_
              exact ⟨true, r43, r40, r41, (Le.of ⟨aR, aR, aR, aR, aR, trivial⟩ ⟨⟨rfl, .inr rfl⟩, ⟨rfl, .inr rfl⟩, ⟨rfl, .inl rfl⟩, ⟨rfl, .inr (by first | rfl | simp)⟩, ⟨rfl, .inl rfl⟩, ⟨rfl, .inl rfl⟩, ⟨rfl, .inl rfl⟩, trivial⟩), h13_⟩
             ·refine yW<|yd rfl (agg (oXc v25 v26 2 u19 L24.length)) (TOp.loadAgg_o rfl agg33 siz33 rfl rfl rfl rfl)<|yd rfl (agg [i64 r36, i64 r37, oref 5 (u22 + 1) 0 r39.length]) (TOp.loadAgg_o rfl agg33 siz33 rfl rfl rfl rfl)<|ye rfl (tup [agg [i64 r40, i64 r41, oref 1 (u18 + 2) 0 r43.length], b r42]) ([⟨u17, some zMx⟩, ⟨(u18 + 2), some (r43.map f32)⟩, ⟨u19, some (L24.map f32)⟩, ⟨u20, some (oXc v25 v26 2 u19 L24.length)⟩, ⟨(u21 + 1), none⟩, ⟨(u22 + 1), some (r39.map f32)⟩, ⟨(u23 + 1), some [i64 r36, i64 r37, oref 5 (u22 + 1) 0 r39.length]⟩]) (TOp.eqr (TOp.callBN (ls := [(r43.map f32)]) [1] (CallAs.func ent41 rfl rfl) (Bors.cons (Bor.agg (bP (bP (Bors.cons (Bor.own (f := f32) (fun _ => rfl) rfl rfl) bN)))) (Bors.cons (Bor.agg (bP (bP (Bors.cons (Bor.own (f := f32) (fun _ => rfl) rfl rfl) bN)))) (Bors.cons (Bor.le (ALe.fl (by kernel_rfl) (by kernel_rfl)) (Bor.pure rfl)) (Bors.cons (Bor.le (ALe.fl (by kernel_rfl) (by kernel_rfl)) (Bor.pure rfl)) bN)))) rfl (i_WeighMatrices_ok v25 v26 L24 r36 r37 r39 (some 1069547520) (some 3204448256) r40 r41 r42 r43 hf21) (and_all (lts0_map (f := f32) (fun _ => rfl) _) rfl) (and_all (noss_map (f := f32) (fun _ => rfl) _) rfl) rfl (by decide) (ns_of ⟨⟨_, rfl⟩, trivial⟩)) (by simp [ren, rens, sigma, newNames]))<|ym rfl (tup [agg [i64 r40, i64 r41, oref 1 (u18 + 2) 0 r43.length], b r42])<|yl rfl (agg [i64 r40, i64 r41, oref 1 (u18 + 2) 0 r43.length]) y3<|yl rfl (b false) (LOp.eqb y3 hc22)<|ys (agg [i64 r40, i64 r41, oref 1 (u18 + 2) 0 r43.length]) [i64 r40, i64 r41, oref 1 (u18 + 2) 0 r43.length] ([⟨u17, some zMx⟩, ⟨(u18 + 2), some (r43.map f32)⟩, ⟨u19, some (L24.map f32)⟩, ⟨u20, some [i64 r40, i64 r41, oref 1 (u18 + 2) 0 r43.length]⟩, ⟨(u21 + 1), none⟩, ⟨(u22 + 1), some (r39.map f32)⟩, ⟨(u23 + 1), some [i64 r36, i64 r37, oref 5 (u22 + 1) 0 r39.length]⟩]) siz33<|ya rfl (b false)<|zN ?_
              exact ⟨false, r43, r40, r41, (Le.of ⟨aR, aR, aR, aR, aR, trivial⟩ ⟨⟨rfl, .inr rfl⟩, ⟨rfl, .inr rfl⟩, ⟨rfl, .inl rfl⟩, ⟨rfl, .inr (by first | rfl | simp)⟩, ⟨rfl, .inl rfl⟩, ⟨rfl, .inl rfl⟩, ⟨rfl, .inl rfl⟩, trivial⟩), h13_⟩
            ·refine yW<|yd rfl (agg (oXc v25 v26 2 u19 L24.length)) (TOp.loadAgg_o rfl agg33 siz33 rfl rfl rfl rfl)<|yd rfl (agg [i64 r32, i64 r33, oref 1 (u18 + 1) 0 r35.length]) (TOp.loadAgg_o rfl agg33 siz33 rfl rfl rfl rfl)<|ye rfl (tup [agg [i64 r36, i64 r37, oref 5 (u22 + 1) 0 r39.length], b r38]) ([⟨u17, some zMx⟩, ⟨(u18 + 1), some (r35.map f32)⟩, ⟨u19, some (L24.map f32)⟩, ⟨u20, some (oXc v25 v26 2 u19 L24.length)⟩, ⟨(u21 + 1), some [i64 r32, i64 r33, oref 1 (u18 + 1) 0 r35.length]⟩, ⟨(u22 + 1), some (r39.map f32)⟩, ⟨u23, none⟩]) (TOp.eqr (TOp.callBN (ls := [(r39.map f32)]) [5] (CallAs.func ent95 rfl rfl) (Bors.cons (Bor.agg (bP (bP (Bors.cons (Bor.own (f := f32) (fun _ => rfl) rfl rfl) bN)))) (Bors.cons (Bor.agg (bP (bP (Bors.cons (Bor.own (f := f32) (fun _ => rfl) rfl rfl) bN)))) bN)) rfl (i_MulMatrices_ok v25 v26 L24 r32 r33 r35 r36 r37 r38 r39 hf19) (and_all (lts0_map (f := f32) (fun _ => rfl) _) rfl) (and_all (noss_map (f := f32) (fun _ => rfl) _) rfl) rfl (by decide) (ns_of ⟨⟨_, rfl⟩, trivial⟩)) (by simp [ren, rens, sigma, newNames]))<|ym rfl (tup [agg [i64 r36, i64 r37, oref 5 (u22 + 1) 0 r39.length], b r38])<|yl rfl (agg [i64 r36, i64 r37, oref 5 (u22 + 1) 0 r39.length]) y3<|yl rfl (b false) (LOp.eqb y3 hc20)<|ye rfl (optr 6 (u23 + 1) 0) ([⟨u17, some zMx⟩, ⟨(u18 + 1), some (r35.map f32)⟩, ⟨u19, some (L24.map f32)⟩, ⟨u20, some (oXc v25 v26 2 u19 L24.length)⟩, ⟨(u21 + 1), some [i64 r32, i64 r33, oref 1 (u18 + 1) 0 r35.length]⟩, ⟨(u22 + 1), some (r39.map f32)⟩, ⟨(u23 + 1), some zMx⟩]) (TOp.alloc_o (g := ⟨u23, none⟩) 6 rfl zer33 zok33 rfl)<|ys (agg [i64 r36, i64 r37, oref 5 (u22 + 1) 0 r39.length]) [i64 r36, i64 r37, oref 5 (u22 + 1) 0 r39.length] ([⟨u17, some zMx⟩, ⟨(u18 + 1), some (r35.map f32)⟩, ⟨u19, some (L24.map f32)⟩, ⟨u20, some (oXc v25 v26 2 u19 L24.length)⟩, ⟨(u21 + 1), some [i64 r32, i64 r33, oref 1 (u18 + 1) 0 r35.length]⟩, ⟨(u22 + 1), some (r39.map f32)⟩, ⟨(u23 + 1), some [i64 r36, i64 r37, oref 5 (u22 + 1) 0 r39.length]⟩]) siz33<|ya rfl (b false)<|zN ?_
             refine RunC.wl (τ' := [(4, optr 0 u17 0), (8, optr 3 u20 0), (10, b false), (11, optr 6 (u23 + 1) 0), (44, i64 a3), (45, i64 v28)]) (Γ' := [⟨u17, some zMx⟩, ⟨(u18 + 1), none⟩, ⟨u19, some (L24.map f32)⟩, ⟨u20, some (oXc v25 v26 2 u19 L24.length)⟩, ⟨(u21 + 1), none⟩, ⟨(u22 + 1), some (r39.map f32)⟩, ⟨(u23 + 1), some [i64 r36, i64 r37, oref 5 (u22 + 1) 0 r39.length]⟩]) ⟨aR, aR, aR, aR, aR, aR, trivial⟩ ⟨⟨rfl, .inr rfl⟩, ⟨rfl, .inl rfl⟩, ⟨rfl, .inr rfl⟩, ⟨rfl, .inr rfl⟩, ⟨rfl, .inl rfl⟩, ⟨rfl, .inr rfl⟩, ⟨rfl, .inr rfl⟩, trivial⟩<|yS<|zQ<|ym rfl (b false)<|yl rfl (b true) y0<|zN ?_
             refine yT<|zQ<|yl rfl (agg zMx) (LOp.build (qs := []) zer33 zok33 und33 plc33 rfl trivial rfl)<|ys (agg zMx) zMx ([⟨u17, some zMx⟩, ⟨(u18 + 1), none⟩, ⟨u19, some (L24.map f32)⟩, ⟨u20, some (oXc v25 v26 2 u19 L24.length)⟩, ⟨(u21 + 1), none⟩, ⟨(u22 + 1), some (r39.map f32)⟩, ⟨(u23 + 1), some [i64 r36, i64 r37, oref 5 (u22 + 1) 0 r39.length]⟩]) siz33<|ya rfl (b false)<|zN ?_
             refine RunC.nil_cell (l' := [i64 0, i64 0, oref 1 (u18 + 2) 0 0]) (Γ' := [⟨u17, some [i64 0, i64 0, oref 1 (u18 + 2) 0 0]⟩, ⟨(u18 + 2), some (([] : List F).map f32)⟩, ⟨u19, some (L24.map f32)⟩, ⟨u20, some (oXc v25 v26 2 u19 L24.length)⟩, ⟨(u21 + 1), none⟩, ⟨(u22 + 1), some (r39.map f32)⟩, ⟨(u23 + 1), some [i64 r36, i64 r37, oref 5 (u22 + 1) 0 r39.length]⟩]) 0 2 1 rfl rfl rfl rfl rfl<|RunC.ret ?_
             cases oI h13_
             have hx14_ := hr13 _ rfl
             subst hx14_
             have hq := oI h
             obtain ⟨hq0, hq⟩ := Prod.mk.inj hq
             obtain ⟨hq1, hq⟩ := Prod.mk.inj hq
             obtain ⟨hq2, hq⟩ := Prod.mk.inj hq
             subst q0
             subst q1
             subst q2
             subst q3
             exact bodyQ.mk (r' := tup [agg [i64 0, i64 0, oref 1 (u18 + 2) 0 (([] : List F).length)], b false]) [(1, (u18 + 2))] (.inr rfl) rfl (ndB_ok rfl) (by simp [ren, rens, sigma]) rfl (Res.eq (Res.two rfl (RV.cell agg33 siz33 rfl rfl rfl rfl) (RV.tmp rfl)) (by rw [(show ([] : List F).length = 0 from rfl)] <;> rfl)) (SelL.arr0 (f := f32) (fun _ => rfl) rfl trivial)
           ·refine RunC.region_draw (Γ' := [⟨u17, some zMx⟩, ⟨(u18 + 1), some (r35.map f32)⟩, ⟨u19, some (L24.map f32)⟩, ⟨u20, some (oXc v25 v26 2 u19 L24.length)⟩, ⟨(u21 + 1), some zMx⟩, ⟨u22, none⟩, ⟨u23, none⟩]) 8 mixed 
             (TR.d (r := agg (oXc v25 v26 2 u19 L24.length)) (fs := []) rfl rfl (TOp.loadAgg_o rfl agg33 siz33 rfl rfl rfl rfl) <|
             (TR.d (r := agg (mXc r29 r30 r31)) (fs := []) rfl rfl (TOp.callBS (ls := [(r31.map f32)]) (CallAs.func ent111 rfl rfl) (Bors.cons (Bor.agg (bP (bP (Bors.cons (Bor.own (f := f32) (fun _ => rfl) rfl rfl) bN)))) bN) (i_Matrix_flip_ok v25 v26 L24 r29 r30 r31 hf16) rfl (lt_agg (lts_cons rfl (lts_cons rfl (lts_cons (lt_sl (fun _ => rfl)) lts_nil)))) (and_all (noss_map (f := f32) (fun _ => rfl) _) rfl) (Bor.agg (bP (bP (Bors.cons (Bor.own (f := f32) (fun _ => rfl) rfl rfl) bN))))) <|
             (TR.d (r := agg (oXc v25 v26 2 u19 L24.length)) (fs := []) rfl rfl (TOp.loadAgg_o rfl agg33 siz33 rfl rfl rfl rfl) <|
             (TR.d (r := tup [agg [i64 r32, i64 r33, oref 1 (u18 + 1) 0 r35.length], b r34]) (fs := [(1, (r35.map f32))]) rfl rfl (TOp.eqr (TOp.callBN (ls := [(r35.map f32)]) [1] (CallAs.func ent95 rfl rfl) (Bors.cons (Bor.agg (bP (bP (bS bN)))) (Bors.cons (Bor.agg (bP (bP (Bors.cons (Bor.own (f := f32) (fun _ => rfl) rfl rfl) bN)))) bN)) rfl (i_MulMatrices_ok r29 r30 r31 v25 v26 L24 r32 r33 r34 r35 hf17) (and_all (lts0_map (f := f32) (fun _ => rfl) _) rfl) (and_all (noss_map (f := f32) (fun _ => rfl) _) rfl) rfl (by decide) (ns_of ⟨⟨_, rfl⟩, trivial⟩)) (by simp [ren, rens, sigma, newNames])) <|
             (tm rfl (tup [agg [i64 r32, i64 r33, oref 1 (u18 + 1) 0 r35.length], b r34]) <|
             (tl rfl (agg [i64 r32, i64 r33, oref 1 (u18 + 1) 0 r35.length]) y3 <|
             (TR.loose (r := b false) rfl rfl (LOp.eqb y3 hc18) <|
             (TR.d (r := optr 4 (u21 + 1) 0) (fs := [(4, zMx)]) rfl rfl (TOp.alloc_o (g := ⟨u21, none⟩) 4 rfl zer33 zok33 rfl) <|
             TR.nil)))))))) rfl (by kernel_rfl) rfl (fills_of (by show List.Nodup [1, 4]; decide) ⟨⟨_, rfl⟩, ⟨_, rfl⟩, trivial⟩) rfl ?_
            iterate 8 refine ROps.dropS ?_
            refine ROps.drop0<|ys (agg [i64 r32, i64 r33, oref 1 (u18 + 1) 0 r35.length]) [i64 r32, i64 r33, oref 1 (u18 + 1) 0 r35.length] ([⟨u17, some zMx⟩, ⟨(u18 + 1), some (r35.map f32)⟩, ⟨u19, some (L24.map f32)⟩, ⟨u20, some (oXc v25 v26 2 u19 L24.length)⟩, ⟨(u21 + 1), some [i64 r32, i64 r33, oref 1 (u18 + 1) 0 r35.length]⟩, ⟨u22, none⟩, ⟨u23, none⟩]) siz33<|ya rfl (b false)<|zN ?_
            refine yS<|zQ<|ym rfl (b false)<|yl rfl (b true) y0<|zN ?_
            refine RunC.wl (τ' := [(4, optr 0 u17 0), (8, optr 3 u20 0), (9, optr 4 (u21 + 1) 0), (44, i64 a3), (45, i64 v28), (58, b true)]) (Γ' := [⟨u17, some zMx⟩, ⟨(u18 + 1), some (r35.map f32)⟩, ⟨u19, some (L24.map f32)⟩, ⟨u20, some (oXc v25 v26 2 u19 L24.length)⟩, ⟨(u21 + 1), some [i64 r32, i64 r33, oref 1 (u18 + 1) 0 r35.length]⟩, ⟨u22, none⟩, ⟨u23, none⟩]) ⟨aR, aR, aR, aR, aR, aR, trivial⟩ ⟨⟨rfl, .inr rfl⟩, ⟨rfl, .inr rfl⟩, ⟨rfl, .inr rfl⟩, ⟨rfl, .inr rfl⟩, ⟨rfl, .inr rfl⟩, ⟨rfl, .inl rfl⟩, ⟨rfl, .inl rfl⟩, trivial⟩<|yT<|zQ<|yl rfl (agg zMx) (LOp.build (qs := []) zer33 zok33 und33 plc33 rfl trivial rfl)<|ys (agg zMx) zMx ([⟨u17, some zMx⟩, ⟨(u18 + 1), some (r35.map f32)⟩, ⟨u19, some (L24.map f32)⟩, ⟨u20, some (oXc v25 v26 2 u19 L24.length)⟩, ⟨(u21 + 1), some [i64 r32, i64 r33, oref 1 (u18 + 1) 0 r35.length]⟩, ⟨u22, none⟩, ⟨u23, none⟩]) siz33<|ya rfl (b false)<|zN ?_
            refine RunC.nil_cell (l' := [i64 0, i64 0, oref 5 (u22 + 1) 0 0]) (Γ' := [⟨u17, some [i64 0, i64 0, oref 5 (u22 + 1) 0 0]⟩, ⟨(u18 + 1), some (r35.map f32)⟩, ⟨u19, some (L24.map f32)⟩, ⟨u20, some (oXc v25 v26 2 u19 L24.length)⟩, ⟨(u21 + 1), some [i64 r32, i64 r33, oref 1 (u18 + 1) 0 r35.length]⟩, ⟨(u22 + 1), some (([] : List F).map f32)⟩, ⟨u23, none⟩]) 0 2 5 rfl rfl rfl rfl rfl<|RunC.ret ?_
            cases oI h13_
            have hx15_ := hr13 _ rfl
            subst hx15_
            have hq := oI h
            obtain ⟨hq0, hq⟩ := Prod.mk.inj hq
            obtain ⟨hq1, hq⟩ := Prod.mk.inj hq
            obtain ⟨hq2, hq⟩ := Prod.mk.inj hq
            subst q0
            subst q1
            subst q2
            subst q3
            exact bodyQ.mk (r' := tup [agg [i64 0, i64 0, oref 5 (u22 + 1) 0 (([] : List F).length)], b false]) [(5, (u22 + 1))] (.inr rfl) rfl (show List.Nodup [5] from by decide) (by simp [ren, rens, sigma]) rfl (Res.eq (Res.two rfl (RV.cell agg33 siz33 rfl rfl rfl rfl) (RV.tmp rfl)) (by rw [(show ([] : List F).length = 0 from rfl)] <;> rfl)) (SelL.arr0 (f := f32) (fun _ => rfl) rfl trivial)
          ·refine yW<|yl rfl (b false) (yv hc15)<|yl rfl (b true) y0<|zN ?_
           refine yT<|zQ<|yl rfl (agg zMx) (LOp.build (qs := []) zer33 zok33 und33 plc33 rfl trivial rfl)<|ys (agg zMx) zMx [⟨u17, some zMx⟩, ⟨u18, none⟩, ⟨u19, some (L24.map f32)⟩, ⟨u20, some (oXc v25 v26 2 u19 L24.length)⟩, ⟨u21, none⟩, ⟨u22, none⟩, ⟨u23, none⟩] siz33<|ya rfl (b false)<|zN ?_
           refine RunC.nil_cell (l' := [i64 0, i64 0, oref 1 (u18 + 1) 0 0]) (Γ' := [⟨u17, some [i64 0, i64 0, oref 1 (u18 + 1) 0 0]⟩, ⟨(u18 + 1), some (([] : List F).map f32)⟩, ⟨u19, some (L24.map f32)⟩, ⟨u20, some (oXc v25 v26 2 u19 L24.length)⟩, ⟨u21, none⟩, ⟨u22, none⟩, ⟨u23, none⟩]) 0 2 1 rfl rfl rfl rfl rfl<|RunC.ret ?_
           cases oI h13_
           have hx16_ := hr13 _ rfl
           subst hx16_
           have hq := oI h
           obtain ⟨hq0, hq⟩ := Prod.mk.inj hq
           obtain ⟨hq1, hq⟩ := Prod.mk.inj hq
           obtain ⟨hq2, hq⟩ := Prod.mk.inj hq
           subst q0
           subst q1
           subst q2
           subst q3
           exact bodyQ.mk (r' := tup [agg [i64 0, i64 0, oref 1 (u18 + 1) 0 (([] : List F).length)], b false]) [(1, (u18 + 1))] (.inr rfl) rfl (ndB_ok rfl) (by simp [ren, rens, sigma]) rfl (Res.eq (Res.two rfl (RV.cell agg33 siz33 rfl rfl rfl rfl) (RV.tmp rfl)) (by rw [(show ([] : List F).length = 0 from rfl)] <;> rfl)) (SelL.arr0 (f := f32) (fun _ => rfl) rfl trivial)
         ·rintro τ17 Γ17 ⟨w44, L45, v46, v47, hw17, h13_⟩
          refine RunC.le hw17 ?_
          unfold i_PolarPart_k3 at h13_
          obtain ⟨x48, hx23, h13_⟩ := oL h13_
          refine yW<|yl rfl (i64 x48) (LOp.eqr (LOp.add rfl rfl rfl) (congrArg (ik .i64) hx23))<|ym rfl (i64 x48)<|zN ?_
          cases oI h13_
          exact ⟨_, rfl, 0, u19, 0, 0, (u21 + 1), (u22 + 1), (u23 + 1), (Le.trans (Le.sel [(0, u17), (2, 0), (1, (u18 + 2)), (3, u20), (4, 0), (5, 0), (6, 0)] [(4, optr 0 0 0), (7, b w44), (8, optr 3 0 0), (44, i64 a3), (45, i64 x48)] [⟨0, some zMx⟩, ⟨u19, none⟩, ⟨0, some (L45.map f32)⟩, ⟨0, some (oXc v46 v47 2 0 L45.length)⟩, ⟨(u21 + 1), none⟩, ⟨(u22 + 1), none⟩, ⟨(u23 + 1), none⟩] rfl (SelOk.of (show List.Nodup [0, 2, 1, 3, 4, 5, 6] from by decide) (SelL.cells0 rfl (by simp [ren, rens, sigma, rens_f32, rens_f64, rens_i64, rens_ik, rens_str, rens_cp]) rfl ⟨⟨_, rfl⟩, (SelL.arr0 (f := f32) (fun _ => rfl) rfl (SelL.cells0 rfl (by simp [ren, rens, sigma, rens_f32, rens_f64, rens_i64, rens_ik, rens_str, rens_cp]) rfl ⟨⟨_, rfl⟩, ⟨⟨_, rfl⟩, ⟨⟨_, rfl⟩, trivial⟩⟩⟩))⟩)) ⟨⟨optr 0 u17 0, rfl, .inr ⟨by first | rfl | simp [ren, rens, sigma, rens_f32, rens_f64, rens_i64, rens_ik, rens_str, rens_cp], rfl⟩⟩, ⟨_, rfl, .inl ⟨rfl, rfl⟩⟩, ⟨optr 3 u20 0, rfl, .inr ⟨by first | rfl | simp [ren, rens, sigma, rens_f32, rens_f64, rens_i64, rens_ik, rens_str, rens_cp], rfl⟩⟩, ⟨_, rfl, .inl ⟨rfl, rfl⟩⟩, ⟨_, rfl, .inl ⟨rfl, rfl⟩⟩, trivial⟩) (Le.of ⟨aR, aR, aR, aR, aR, trivial⟩ ⟨⟨rfl, .inr rfl⟩, ⟨rfl, .inl rfl⟩, ⟨rfl, .inr rfl⟩, ⟨rfl, .inr (by first | rfl | simp)⟩, ⟨rfl, .inl rfl⟩, ⟨rfl, .inl rfl⟩, ⟨rfl, .inl rfl⟩, trivial⟩))⟩
        ·refine yW<|yl rfl (b false) (LOp.eqb (LOp.lss rfl rfl rfl) hc14)<|zN ?_
         refine yS<|yF<|RunC.exit ?_
         cases oI h13_
         have hx := ho13 _ rfl
         exact ⟨L24, v25, v26, w27, u17, u18, u19, u20, u21, u22, u23, (Le.of ⟨aR, aR, aR, trivial⟩ ⟨⟨rfl, .inr rfl⟩, ⟨rfl, .inl rfl⟩, ⟨rfl, .inr rfl⟩, ⟨rfl, .inr (by first | rfl | simp)⟩, ⟨rfl, .inl rfl⟩, ⟨rfl, .inl rfl⟩, ⟨rfl, .inl rfl⟩, trivial⟩), hx⟩
       ·rintro τ18 Γ18 ⟨L56, v57, v58, w59, u49, u50, u51, u52, u53, u54, u55, hw18, rfl⟩
        refine RunC.le hw18 ?_
        replace h : i_PolarPart_k4 L56 v57 v58 w59 = some (q0, q1, q2, q3) := h
        unfold i_PolarPart_k4 at h
        refine zQ<|yd rfl (agg (oXc v57 v58 2 u51 L56.length)) (TOp.loadAgg_o rfl agg33 siz33 rfl rfl rfl rfl)<|ym rfl (b w59)<|ys (agg (oXc v57 v58 2 u51 L56.length)) (oXc v57 v58 2 u51 L56.length) [⟨u49, some (oXc v57 v58 2 u51 L56.length)⟩, ⟨u50, none⟩, ⟨u51, some (L56.map f32)⟩, ⟨u52, some (oXc v57 v58 2 u51 L56.length)⟩, ⟨u53, none⟩, ⟨u54, none⟩, ⟨u55, none⟩] siz33<|ya rfl (b w59)<|zN ?_
        refine RunC.ret ?_
        have hq := oI h
        obtain ⟨hq0, hq⟩ := Prod.mk.inj hq
        obtain ⟨hq1, hq⟩ := Prod.mk.inj hq
        obtain ⟨hq2, hq⟩ := Prod.mk.inj hq
        subst q0
        subst q1
        subst q2
        subst q3
        exact bodyQ.mk (r' := tup [agg (oXc v57 v58 2 u51 L56.length), b w59]) [(2, u51)] (.inr rfl) rfl (show List.Nodup [2] from by decide) (by simp [ren, rens, sigma]) rfl (Res.two rfl (RV.cell agg33 siz33 rfl rfl rfl rfl) (RV.tmp rfl)) (SelL.arr0 (f := f32) (fun _ => rfl) rfl trivial)
      ·refine yW<|yl rfl (ptr (mXc a0 a1 a2)) (LOp.fap und33 rfl siz2 rfl rfl rfl)<|yl rfl (i64 a0) (y2 agg2)<|yl rfl (ptr (mXc a0 a1 a2)) (LOp.fap und33 rfl siz2 rfl rfl rfl)<|yl rfl (i64 a0) (y2 agg2)<|yl rfl (fn (.func 110) [] [ptr (mXc a0 a1 a2), optr 1 1 0]) (LOp.makeFunc rfl rfl)<|ye rfl (agg (oXc r5 r6 2 1 r7.length)) ([⟨1, some zMx⟩, ⟨1, some [f32 r3]⟩, ⟨1, some (r7.map f32)⟩, ⟨0, none⟩, ⟨0, none⟩, ⟨0, none⟩, ⟨0, none⟩]) (TOp.callBN (ls := [(r7.map f32)]) [2] (CallAs.func ent64 rfl rfl) (bP (bP (Bors.cons (Bor.fn bN (Bors.cons (Bor.ptr (bP (bP (bS bN)))) (Bors.cons (Bor.optr rfl (Bors.p bN0) rfl) bN))) bN))) rfl (i_made_2Fi_PolarPart_1_ok a0 a0 a0 a1 a2 r3 r5 r6 r7 hf8) (and_all (lts0_map (f := f32) (fun _ => rfl) _) rfl) (and_all (noss_map (f := f32) (fun _ => rfl) _) rfl) rfl (by decide) (ns_of ⟨⟨_, rfl⟩, trivial⟩))<|ROps.callO (A := [agg (oXc r5 r6 2 1 r7.length)]) (args := [agg (oXc r5 r6 0 0 r7.length)]) (Γc := [⟨0, some (r7.map f32)⟩]) (Γc' := [⟨0, some (r11.map f32)⟩]) (r' := tup [agg (oXc r8 r9 2 1 r7.length), b r10]) (Γ' := [⟨1, some zMx⟩, ⟨1, some [f32 r3]⟩, ⟨1, some (r11.map f32)⟩, ⟨0, none⟩, ⟨0, none⟩, ⟨0, none⟩, ⟨0, none⟩]) [(2, 1)] [] rfl (CallAs.func ent107 rfl rfl) rfl rfl (SelOk.of (show List.Nodup [2] from by decide) (SelL.arr0 (f := f32) (fun _ => rfl) rfl trivial)) (live_of ⟨⟨_, _, rfl⟩, trivial⟩) (by simp [ren, rens, sigma, rens_f32, rens_f64, rens_i64, rens_ik, rens_str, rens_cp]) rfl (i_Matrix_valid_02o_ok0 r5 r6 r7 r8 r9 r10 r11 hf9) rfl (news_of trivial) (show List.Nodup [2] from by decide) (by simp [ren, rens, sigma, of_decide_eq_true hn10]) (by simp [backOb, sigma, ren, rens, rens_f32, rens_f64, rens_i64, rens_ik, rens_str, rens_cp])<|ym rfl (tup [agg (oXc r8 r9 2 1 r7.length), b r10])<|yl rfl (agg (oXc r8 r9 2 1 r7.length)) y3<|yl rfl (b false) (LOp.eqb y3 hc11)<|ye rfl (optr 3 1 0) ([⟨1, some zMx⟩, ⟨1, some [f32 r3]⟩, ⟨1, some (r11.map f32)⟩, ⟨1, some zMx⟩, ⟨0, none⟩, ⟨0, none⟩, ⟨0, none⟩]) (TOp.alloc_o (g := ⟨0, none⟩) 3 rfl zer33 zok33 rfl)<|ys (agg (oXc r8 r9 2 1 r7.length)) (oXc r8 r9 2 1 r7.length) ([⟨1, some zMx⟩, ⟨1, some [f32 r3]⟩, ⟨1, some (r11.map f32)⟩, ⟨1, some (oXc r8 r9 2 1 r7.length)⟩, ⟨0, none⟩, ⟨0, none⟩, ⟨0, none⟩]) siz33<|ya rfl (b false)<|zN ?_
       refine RunC.wl (τ' := [(1, i64 a3), (4, optr 0 1 0), (7, b false), (8, optr 3 1 0)]) (Γ' := [⟨1, some zMx⟩, ⟨1, none⟩, ⟨1, some (r11.map f32)⟩, ⟨1, some (oXc r8 r9 2 1 r7.length)⟩, ⟨0, none⟩, ⟨0, none⟩, ⟨0, none⟩]) ⟨aR, aR, aR, aR, trivial⟩ ⟨⟨rfl, .inr rfl⟩, ⟨rfl, .inl rfl⟩, ⟨rfl, .inr rfl⟩, ⟨rfl, .inr rfl⟩, ⟨rfl, .inr rfl⟩, ⟨rfl, .inr rfl⟩, ⟨rfl, .inr rfl⟩, trivial⟩<|yS<|zQ<|ym rfl (i64 a3)<|ym rfl (i64 0)<|zN ?_
       obtain ⟨z19, hz_19, h⟩ := oS h
       refine RunC.cutN (fun τ Γ => r11.length = r7.length ∧ Le 157 τ Γ [(4, optr 0 1 0), (7, b false), (8, optr 3 1 0)] [⟨1, some zMx⟩, ⟨1, none⟩, ⟨1, some (r11.map f32)⟩, ⟨1, some (oXc r8 r9 2 1 r7.length)⟩, ⟨0, none⟩, ⟨0, none⟩, ⟨0, none⟩] ∧ z19 = .inl ()) ?_ ?_
       ·refine RunC.block (RunC.loop (RunL.loopM (x := z19) (i_PolarPart_s5 a3) (fun (s : Unit) τ Γ => Le 157 τ Γ [(4, optr 0 1 0), (7, b false), (8, optr 3 1 0), (44, i64 a3), (45, i64 0)] [⟨1, some zMx⟩, ⟨1, none⟩, ⟨1, some (r11.map f32)⟩, ⟨1, some (oXc r8 r9 2 1 r7.length)⟩, ⟨0, none⟩, ⟨0, none⟩, ⟨0, none⟩]) ?_ _ _ _ hz_19 (Le.of ⟨aR, aR, aR, aR, aR, trivial⟩ ⟨⟨rfl, .inr rfl⟩, ⟨rfl, .inl rfl⟩, ⟨rfl, .inr rfl⟩, ⟨rfl, .inr rfl⟩, ⟨rfl, .inr rfl⟩, ⟨rfl, .inr rfl⟩, ⟨rfl, .inr rfl⟩, trivial⟩)))
        rintro ⟨⟩ τ19 Γ19 y19_ hw19 h19_ ho19 hr19
        refine RunC.le (τ' := [(4, optr 0 1 0), (7, b false), (8, optr 3 1 0), (44, i64 a3), (45, i64 0)]) (Γ' := [⟨1, some zMx⟩, ⟨1, none⟩, ⟨1, some (r11.map f32)⟩, ⟨1, some (oXc r8 r9 2 1 r7.length)⟩, ⟨0, none⟩, ⟨0, none⟩, ⟨0, none⟩]) hw19 ?_
        replace h19_ : i_PolarPart_b5 a3 = some y19_ := h19_
        unfold i_PolarPart_b5 at h19_
        refine yS ?_
        rcases oB h19_ with ⟨hc24, h19_⟩ | ⟨hc24, h19_⟩
        ·refine yW<|yl rfl (b true) (LOp.eqb (LOp.lss rfl rfl rfl) hc24)<|zN ?_
         refine yS<|yT<|RunC.skip<|yS<|RunC.block<|yS<|zQ<|ym rfl (b false)<|yl rfl (b true) y0<|zN ?_
         refine yT<|zQ<|yl rfl (agg zMx) (LOp.build (qs := []) zer33 zok33 und33 plc33 rfl trivial rfl)<|ys (agg zMx) zMx [⟨1, some zMx⟩, ⟨1, none⟩, ⟨1, some (r11.map f32)⟩, ⟨1, some (oXc r8 r9 2 1 r7.length)⟩, ⟨0, none⟩, ⟨0, none⟩, ⟨0, none⟩] siz33<|ya rfl (b false)<|zN ?_
         refine RunC.nil_cell (l' := [i64 0, i64 0, oref 1 2 0 0]) (Γ' := [⟨1, some [i64 0, i64 0, oref 1 2 0 0]⟩, ⟨2, some (([] : List F).map f32)⟩, ⟨1, some (r11.map f32)⟩, ⟨1, some (oXc r8 r9 2 1 r7.length)⟩, ⟨0, none⟩, ⟨0, none⟩, ⟨0, none⟩]) 0 2 1 rfl rfl rfl rfl rfl<|RunC.ret ?_
         cases oI h19_
         have hx20_ := hr19 _ rfl
         subst hx20_
         have hq := oI h
         obtain ⟨hq0, hq⟩ := Prod.mk.inj hq
         obtain ⟨hq1, hq⟩ := Prod.mk.inj hq
         obtain ⟨hq2, hq⟩ := Prod.mk.inj hq
         subst q0
         subst q1
         subst q2
         subst q3
         exact yB (tup [agg [i64 0, i64 0, oref 1 2 0 (([] : List F).length)], b false]) [(1, 2)] (Res.eq (Res.two rfl (RV.cell agg33 siz33 rfl rfl rfl rfl) (RV.tmp rfl)) (by rw [(show ([] : List F).length = 0 from rfl)] <;> rfl)) (SelL.arr0 (f := f32) (fun _ => rfl) rfl trivial)
        ·refine yW<|yl rfl (b false) (LOp.eqb (LOp.lss rfl rfl rfl) hc24)<|zN ?_
         refine yS<|yF<|RunC.exit ?_
         cases oI h19_
         have hx := ho19 _ rfl
         exact ⟨(of_decide_eq_true hn10), (Le.of ⟨aR, aR, aR, trivial⟩ ⟨⟨rfl, .inr rfl⟩, ⟨rfl, .inl rfl⟩, ⟨rfl, .inr rfl⟩, ⟨rfl, .inr rfl⟩, ⟨rfl, .inr rfl⟩, ⟨rfl, .inr rfl⟩, ⟨rfl, .inr rfl⟩, trivial⟩), hx⟩
       ·rintro τ21 Γ21 ⟨hl60, hw21, rfl⟩
        refine RunC.le hw21 ?_
        replace h : i_PolarPart_k5 r8 r9 r11 = some (q0, q1, q2, q3) := h
        unfold i_PolarPart_k5 at h
        refine zQ<|yd rfl (agg (oXc r8 r9 2 1 r7.length)) (TOp.loadAgg_o rfl agg33 siz33 rfl rfl rfl rfl)<|ym rfl (b false)<|ys (agg (oXc r8 r9 2 1 r7.length)) (oXc r8 r9 2 1 r7.length) [⟨1, some (oXc r8 r9 2 1 r7.length)⟩, ⟨1, none⟩, ⟨1, some (r11.map f32)⟩, ⟨1, some (oXc r8 r9 2 1 r7.length)⟩, ⟨0, none⟩, ⟨0, none⟩, ⟨0, none⟩] siz33<|ya rfl (b false)<|zN ?_
        refine RunC.ret ?_
        have hq := oI h
        obtain ⟨hq0, hq⟩ := Prod.mk.inj hq
        obtain ⟨hq1, hq⟩ := Prod.mk.inj hq
        obtain ⟨hq2, hq⟩ := Prod.mk.inj hq
        subst q0
        subst q1
        subst q2
        subst q3
        exact yB (tup [agg (oXc r8 r9 2 1 r11.length), b false]) [(2, 1)] (Res.eq (Res.two rfl (RV.cell agg33 siz33 rfl rfl rfl rfl) (RV.tmp rfl)) (by rw [(show r11.length = r7.length from hl60)] <;> rfl)) (SelL.arr0 (f := f32) (fun _ => rfl) rfl trivial)
     ·replace h := (osum_inr _ _ _).symm.trans h
      obtain ⟨r12, r13, r14, r15, r16, hz22, h⟩ := obind5_some h
      cases hz22
      obtain ⟨hn12, h⟩ := need_some h
      rcases oB h with ⟨hc13, h⟩ | ⟨hc13, h⟩
      ·refine yW<|yl rfl (ptr (mXc a0 a1 a2)) (LOp.fap und33 rfl siz2 rfl rfl rfl)<|yl rfl (i64 a0) (y2 agg2)<|yl rfl (ptr (mXc a0 a1 a2)) (LOp.fap und33 rfl siz2 rfl rfl rfl)<|yl rfl (i64 a0) (y2 agg2)<|yl rfl (fn (.func 110) [] [ptr (mXc a0 a1 a2), optr 1 1 0]) (LOp.makeFunc rfl rfl)<|ye rfl (agg (oXc r5 r6 2 1 r7.length)) ([⟨1, some zMx⟩, ⟨1, some [f32 r3]⟩, ⟨1, some (r7.map f32)⟩, ⟨0, none⟩, ⟨0, none⟩, ⟨0, none⟩, ⟨0, none⟩]) (TOp.callBN (ls := [(r7.map f32)]) [2] (CallAs.func ent64 rfl rfl) (bP (bP (Bors.cons (Bor.fn bN (Bors.cons (Bor.ptr (bP (bP (bS bN)))) (Bors.cons (Bor.optr rfl (Bors.p bN0) rfl) bN))) bN))) rfl (i_made_2Fi_PolarPart_1_ok a0 a0 a0 a1 a2 r3 r5 r6 r7 hf8) (and_all (lts0_map (f := f32) (fun _ => rfl) _) rfl) (and_all (noss_map (f := f32) (fun _ => rfl) _) rfl) rfl (by decide) (ns_of ⟨⟨_, rfl⟩, trivial⟩))<|ROps.callO (A := [agg (oXc r5 r6 2 1 r7.length)]) (args := [agg (oXc r5 r6 0 0 r7.length)]) (Γc := [⟨0, some (r7.map f32)⟩]) (Γc' := [⟨0, some (r15.map f32)⟩, ⟨0, some (r16.map f32)⟩]) (r' := tup [agg (oXc r12 r13 3 1 r16.length), b r14]) (Γ' := [⟨1, some zMx⟩, ⟨1, some [f32 r3]⟩, ⟨1, some (r15.map f32)⟩, ⟨1, some (r16.map f32)⟩, ⟨0, none⟩, ⟨0, none⟩, ⟨0, none⟩]) [(2, 1)] [(3, 1)] rfl (CallAs.func ent107 rfl rfl) rfl rfl (SelOk.of (show List.Nodup [2] from by decide) (SelL.arr0 (f := f32) (fun _ => rfl) rfl trivial)) (live_of ⟨⟨_, _, rfl⟩, trivial⟩) (by simp [ren, rens, sigma, rens_f32, rens_f64, rens_i64, rens_ik, rens_str, rens_cp]) rfl (i_Matrix_valid_02o_ok1 r5 r6 r7 r12 r13 r14 r15 r16 hf9) rfl (news_of ⟨⟨_, rfl, rfl⟩, trivial⟩) (show List.Nodup [2, 3] from by decide) (by simp [ren, rens, sigma, of_decide_eq_true hn12]) (by simp [backOb, sigma, ren, rens, rens_f32, rens_f64, rens_i64, rens_ik, rens_str, rens_cp])<|ym rfl (tup [agg (oXc r12 r13 3 1 r16.length), b r14])<|yl rfl (agg (oXc r12 r13 3 1 r16.length)) y3<|yl rfl (b true) (LOp.eqb y3 hc13)<|ye rfl (optr 4 1 0) ([⟨1, some zMx⟩, ⟨1, some [f32 r3]⟩, ⟨1, some (r15.map f32)⟩, ⟨1, some (r16.map f32)⟩, ⟨1, some zMx⟩, ⟨0, none⟩, ⟨0, none⟩]) (TOp.alloc_o (g := ⟨0, none⟩) 4 rfl zer33 zok33 rfl)<|ys (agg (oXc r12 r13 3 1 r16.length)) (oXc r12 r13 3 1 r16.length) ([⟨1, some zMx⟩, ⟨1, some [f32 r3]⟩, ⟨1, some (r15.map f32)⟩, ⟨1, some (r16.map f32)⟩, ⟨1, some (oXc r12 r13 3 1 r16.length)⟩, ⟨0, none⟩, ⟨0, none⟩]) siz33<|ya rfl (b true)<|zN ?_
       refine RunC.wl (τ' := [(1, i64 a3), (4, optr 0 1 0), (7, b true), (8, optr 4 1 0)]) (Γ' := [⟨1, some zMx⟩, ⟨1, none⟩, ⟨1, none⟩, ⟨1, some (r16.map f32)⟩, ⟨1, some (oXc r12 r13 3 1 r16.length)⟩, ⟨0, none⟩, ⟨0, none⟩]) ⟨aR, aR, aR, aR, trivial⟩ ⟨⟨rfl, .inr rfl⟩, ⟨rfl, .inl rfl⟩, ⟨rfl, .inl rfl⟩, ⟨rfl, .inr rfl⟩, ⟨rfl, .inr rfl⟩, ⟨rfl, .inr rfl⟩, ⟨rfl, .inr rfl⟩, trivial⟩<|yS<|zQ<|ym rfl (i64 a3)<|ym rfl (i64 0)<|zN ?_
       obtain ⟨z23, hz_23, h⟩ := oS h
       refine RunC.cutN (fun τ Γ => ∃ (L100 : List F) (v101 : Int) (v102 : Int) (w103 : Bool) (u93 : Nat) (u94 : Nat) (u95 : Nat) (u96 : Nat) (u97 : Nat) (u98 : Nat) (u99 : Nat), Le 157 τ Γ [(4, optr 0 u93 0), (7, b w103), (8, optr 4 u97 0)] [⟨u93, some zMx⟩, ⟨u94, none⟩, ⟨u95, none⟩, ⟨u96, some (L100.map f32)⟩, ⟨u97, some (oXc v101 v102 3 u96 L100.length)⟩, ⟨u98, none⟩, ⟨u99, none⟩] ∧ z23 = .inl (L100, v101, v102, w103)) ?_ ?_
       ·refine RunC.block (RunC.loop (RunL.loopM (x := z23) (i_PolarPart_s9 a3) (fun (s : (List F) × Int × Int × Bool × Int) τ Γ => ∃ (u61 : Nat) (u62 : Nat) (u63 : Nat) (u64 : Nat) (u65 : Nat) (u66 : Nat) (u67 : Nat), Le 157 τ Γ [(4, optr 0 u61 0), (7, b s.2.2.2.1), (8, optr 4 u65 0), (44, i64 a3), (45, i64 s.2.2.2.2)] [⟨u61, some zMx⟩, ⟨u62, none⟩, ⟨u63, none⟩, ⟨u64, some (s.1.map f32)⟩, ⟨u65, some [i64 s.2.1, i64 s.2.2.1, oref 3 u64 0 s.1.length]⟩, ⟨u66, none⟩, ⟨u67, none⟩]) ?_ _ _ _ hz_23 ⟨1, 1, 1, 1, 1, 0, 0, (Le.of ⟨aR, aR, aR, aR, aR, trivial⟩ ⟨⟨rfl, .inr rfl⟩, ⟨rfl, .inl rfl⟩, ⟨rfl, .inl rfl⟩, ⟨rfl, .inr rfl⟩, ⟨rfl, .inr (by first | rfl | simp)⟩, ⟨rfl, .inl rfl⟩, ⟨rfl, .inl rfl⟩, trivial⟩)⟩))
        rintro ⟨L68, v69, v70, w71, v72⟩ τ23 Γ23 y23_ ⟨u61, u62, u63, u64, u65, u66, u67, hw23⟩ h23_ ho23 hr23
        refine RunC.le (τ' := [(4, optr 0 u61 0), (7, b w71), (8, optr 4 u65 0), (44, i64 a3), (45, i64 v72)]) (Γ' := [⟨u61, some zMx⟩, ⟨u62, none⟩, ⟨u63, none⟩, ⟨u64, some (L68.map f32)⟩, ⟨u65, some (oXc v69 v70 3 u64 L68.length)⟩, ⟨u66, none⟩, ⟨u67, none⟩]) hw23 ?_
        replace h23_ : i_PolarPart_b9 a3 L68 v69 v70 w71 v72 = some y23_ := h23_
        unfold i_PolarPart_b9 at h23_
        refine yS ?_
        rcases oB h23_ with ⟨hc25, h23_⟩ | ⟨hc25, h23_⟩
        ·refine yW<|yl rfl (b true) (LOp.eqb (LOp.lss rfl rfl rfl) hc25)<|zN ?_
         refine yS<|yT<|RunC.skip<|yS<|RunC.cutN (fun τ Γ => ∃ (w88 : Bool) (L89 : List F) (v90 : Int) (v91 : Int), Le 157 τ Γ [(4, optr 0 u61 0), (7, b w88), (8, optr 4 u65 0), (44, i64 a3), (45, i64 v72)] [⟨u61, some zMx⟩, ⟨(u62 + 2), some (L89.map f32)⟩, ⟨(u63 + 1), none⟩, ⟨u64, none⟩, ⟨u65, some [i64 v90, i64 v91, oref 1 (u62 + 2) 0 L89.length]⟩, ⟨(u66 + 1), none⟩, ⟨(u67 + 1), none⟩] ∧ i_PolarPart_k8 v72 w88 L89 v90 v91 = some y23_) ?_ ?_
         ·refine RunC.block<|yS<|yS ?_
          rcases oB h23_ with ⟨hc26, h23_⟩ | ⟨hc26, h23_⟩
          ·refine yW<|yl rfl (b true) (yv hc26)<|yl rfl (b false) y1<|zN ?_
           refine yF<|RunC.skip<|yS ?_
           obtain ⟨r73, r74, r75, hf27, h23_⟩ := obind3_some h23_
           obtain ⟨r76, r77, r78, r79, hf28, h23_⟩ := obind4_some h23_
           rcases oB h23_ with ⟨hc29, h23_⟩ | ⟨hc29, h23_⟩
           ·refine RunC.region_draw (Γ' := [⟨u61, some zMx⟩, ⟨(u62 + 1), some (r79.map f32)⟩, ⟨(u63 + 1), some zMx⟩, ⟨u64, some (L68.map f32)⟩, ⟨u65, some (oXc v69 v70 3 u64 L68.length)⟩, ⟨u66, none⟩, ⟨u67, none⟩]) 8 mixed 
             (TR.d (r := agg (oXc v69 v70 3 u64 L68.length)) (fs := []) rfl rfl (TOp.loadAgg_o rfl agg33 siz33 rfl rfl rfl rfl) <|
             (TR.d (r := agg (mXc r73 r74 r75)) (fs := []) rfl rfl (TOp.callBS (ls := [(r75.map f32)]) (CallAs.func ent111 rfl rfl) (Bors.cons (Bor.agg (bP (bP (Bors.cons (Bor.own (f := f32) (fun _ => rfl) rfl rfl) bN)))) bN) (i_Matrix_flip_ok v69 v70 L68 r73 r74 r75 hf27) rfl (lt_agg (lts_cons rfl (lts_cons rfl (lts_cons (lt_sl (fun _ => rfl)) lts_nil)))) (and_all (noss_map (f := f32) (fun _ => rfl) _) rfl) (Bor.agg (bP (bP (Bors.cons (Bor.own (f := f32) (fun _ => rfl) rfl rfl) bN))))) <|
             (TR.d (r := agg (oXc v69 v70 3 u64 L68.length)) (fs := []) rfl rfl (TOp.loadAgg_o rfl agg33 siz33 rfl rfl rfl rfl) <|
             (TR.d (r := tup [agg [i64 r76, i64 r77, oref 1 (u62 + 1) 0 r79.length], b r78]) (fs := [(1, (r79.map f32))]) rfl rfl (TOp.eqr (TOp.callBN (ls := [(r79.map f32)]) [1] (CallAs.func ent95 rfl rfl) (Bors.cons (Bor.agg (bP (bP (bS bN)))) (Bors.cons (Bor.agg (bP (bP (Bors.cons (Bor.own (f := f32) (fun _ => rfl) rfl rfl) bN)))) bN)) rfl (i_MulMatrices_ok r73 r74 r75 v69 v70 L68 r76 r77 r78 r79 hf28) (and_all (lts0_map (f := f32) (fun _ => rfl) _) rfl) (and_all (noss_map (f := f32) (fun _ => rfl) _) rfl) rfl (by decide) (ns_of ⟨⟨_, rfl⟩, trivial⟩)) (by simp [ren, rens, sigma, newNames])) <|
             (tm rfl (tup [agg [i64 r76, i64 r77, oref 1 (u62 + 1) 0 r79.length], b r78]) <|
             (tl rfl (agg [i64 r76, i64 r77, oref 1 (u62 + 1) 0 r79.length]) y3 <|
             (TR.loose (r := b true) rfl rfl (LOp.eqb y3 hc29) <|
             (TR.d (r := optr 2 (u63 + 1) 0) (fs := [(2, zMx)]) rfl rfl (TOp.alloc_o (g := ⟨u63, none⟩) 2 rfl zer33 zok33 rfl) <|
             TR.nil)))))))) rfl (by kernel_rfl) rfl (fills_of (by show List.Nodup [1, 2]; decide) ⟨⟨_, rfl⟩, ⟨_, rfl⟩, trivial⟩) rfl ?_
            iterate 8 refine ROps.dropS ?_
            refine ROps.drop0<|ys (agg [i64 r76, i64 r77, oref 1 (u62 + 1) 0 r79.length]) [i64 r76, i64 r77, oref 1 (u62 + 1) 0 r79.length] ([⟨u61, some zMx⟩, ⟨(u62 + 1), some (r79.map f32)⟩, ⟨(u63 + 1), some [i64 r76, i64 r77, oref 1 (u62 + 1) 0 r79.length]⟩, ⟨u64, some (L68.map f32)⟩, ⟨u65, some (oXc v69 v70 3 u64 L68.length)⟩, ⟨u66, none⟩, ⟨u67, none⟩]) siz33<|ya rfl (b true)<|zN ?_
            refine yS<|zQ<|ym rfl (b true)<|yl rfl (b false) y1<|zN ?_
            refine RunC.wl (τ' := [(4, optr 0 u61 0), (8, optr 4 u65 0), (9, optr 2 (u63 + 1) 0), (44, i64 a3), (45, i64 v72), (58, b false)]) (Γ' := [⟨u61, some zMx⟩, ⟨(u62 + 1), some (r79.map f32)⟩, ⟨(u63 + 1), some [i64 r76, i64 r77, oref 1 (u62 + 1) 0 r79.length]⟩, ⟨u64, some (L68.map f32)⟩, ⟨u65, some (oXc v69 v70 3 u64 L68.length)⟩, ⟨u66, none⟩, ⟨u67, none⟩]) ⟨aR, aR, aR, aR, aR, aR, trivial⟩ ⟨⟨rfl, .inr rfl⟩, ⟨rfl, .inr rfl⟩, ⟨rfl, .inr rfl⟩, ⟨rfl, .inr rfl⟩, ⟨rfl, .inr rfl⟩, ⟨rfl, .inl rfl⟩, ⟨rfl, .inl rfl⟩, trivial⟩<|yF<|RunC.skip<|yS ?_
            obtain ⟨r80, r81, r82, r83, hf30, h23_⟩ := obind4_some h23_
            rcases oB h23_ with ⟨hc31, h23_⟩ | ⟨hc31, h23_⟩
            ·refine yW<|yd rfl (agg (oXc v69 v70 3 u64 L68.length)) (TOp.loadAgg_o rfl agg33 siz33 rfl rfl rfl rfl)<|yd rfl (agg [i64 r76, i64 r77, oref 1 (u62 + 1) 0 r79.length]) (TOp.loadAgg_o rfl agg33 siz33 rfl rfl rfl rfl)<|ye rfl (tup [agg [i64 r80, i64 r81, oref 5 (u66 + 1) 0 r83.length], b r82]) ([⟨u61, some zMx⟩, ⟨(u62 + 1), some (r79.map f32)⟩, ⟨(u63 + 1), some [i64 r76, i64 r77, oref 1 (u62 + 1) 0 r79.length]⟩, ⟨u64, some (L68.map f32)⟩, ⟨u65, some (oXc v69 v70 3 u64 L68.length)⟩, ⟨(u66 + 1), some (r83.map f32)⟩, ⟨u67, none⟩]) (TOp.eqr (TOp.callBN (ls := [(r83.map f32)]) [5] (CallAs.func ent95 rfl rfl) (Bors.cons (Bor.agg (bP (bP (Bors.cons (Bor.own (f := f32) (fun _ => rfl) rfl rfl) bN)))) (Bors.cons (Bor.agg (bP (bP (Bors.cons (Bor.own (f := f32) (fun _ => rfl) rfl rfl) bN)))) bN)) rfl (i_MulMatrices_ok v69 v70 L68 r76 r77 r79 r80 r81 r82 r83 hf30) (and_all (lts0_map (f := f32) (fun _ => rfl) _) rfl) (and_all (noss_map (f := f32) (fun _ => rfl) _) rfl) rfl (by decide) (ns_of ⟨⟨_, rfl⟩, trivial⟩)) (by simp [ren, rens, sigma, newNames]))<|ym rfl (tup [agg [i64 r80, i64 r81, oref 5 (u66 + 1) 0 r83.length], b r82])<|yl rfl (agg [i64 r80, i64 r81, oref 5 (u66 + 1) 0 r83.length]) y3<|yl rfl (b true) (LOp.eqb y3 hc31)<|ye rfl (optr 6 (u67 + 1) 0) ([⟨u61, some zMx⟩, ⟨(u62 + 1), some (r79.map f32)⟩, ⟨(u63 + 1), some [i64 r76, i64 r77, oref 1 (u62 + 1) 0 r79.length]⟩, ⟨u64, some (L68.map f32)⟩, ⟨u65, some (oXc v69 v70 3 u64 L68.length)⟩, ⟨(u66 + 1), some (r83.map f32)⟩, ⟨(u67 + 1), some zMx⟩]) (TOp.alloc_o (g := ⟨u67, none⟩) 6 rfl zer33 zok33 rfl)<|ys (agg [i64 r80, i64 r81, oref 5 (u66 + 1) 0 r83.length]) [i64 r80, i64 r81, oref 5 (u66 + 1) 0 r83.length] ([⟨u61, some zMx⟩, ⟨(u62 + 1), some (r79.map f32)⟩, ⟨(u63 + 1), some [i64 r76, i64 r77, oref 1 (u62 + 1) 0 r79.length]⟩, ⟨u64, some (L68.map f32)⟩, ⟨u65, some (oXc v69 v70 3 u64 L68.length)⟩, ⟨(u66 + 1), some (r83.map f32)⟩, ⟨(u67 + 1), some [i64 r80, i64 r81, oref 5 (u66 + 1) 0 r83.length]⟩]) siz33<|ya rfl (b true)<|zN ?_
             refine RunC.wl (τ' := [(4, optr 0 u61 0), (8, optr 4 u65 0), (10, b true), (11, optr 6 (u67 + 1) 0), (44, i64 a3), (45, i64 v72)]) (Γ' := [⟨u61, some zMx⟩, ⟨(u62 + 1), none⟩, ⟨(u63 + 1), none⟩, ⟨u64, some (L68.map f32)⟩, ⟨u65, some (oXc v69 v70 3 u64 L68.length)⟩, ⟨(u66 + 1), some (r83.map f32)⟩, ⟨(u67 + 1), some [i64 r80, i64 r81, oref 5 (u66 + 1) 0 r83.length]⟩]) ⟨aR, aR, aR, aR, aR, aR, trivial⟩ ⟨⟨rfl, .inr rfl⟩, ⟨rfl, .inl rfl⟩, ⟨rfl, .inl rfl⟩, ⟨rfl, .inr rfl⟩, ⟨rfl, .inr rfl⟩, ⟨rfl, .inr rfl⟩, ⟨rfl, .inr rfl⟩, trivial⟩<|yS<|zQ<|ym rfl (b true)<|yl rfl (b false) y1<|zN ?_
             refine yF<|RunC.skip ?_
             obtain ⟨r84, r85, r86, r87, hf32, h23_⟩ := obind4_some h23_
             rcases oB h23_ with ⟨hc33, h23_⟩ | ⟨hc33, h23_⟩
             ·refine yW<|yd rfl (agg (oXc v69 v70 3 u64 L68.length)) (TOp.loadAgg_o rfl agg33 siz33 rfl rfl rfl rfl)<|yd rfl (agg [i64 r80, i64 r81, oref 5 (u66 + 1) 0 r83.length]) (TOp.loadAgg_o rfl agg33 siz33 rfl rfl rfl rfl)<|ye rfl (tup [agg [i64 r84, i64 r85, oref 1 (u62 + 2) 0 r87.length], b r86]) ([⟨u61, some zMx⟩, ⟨(u62 + 2), some (r87.map f32)⟩, ⟨(u63 + 1), none⟩, ⟨u64, some (L68.map f32)⟩, ⟨u65, some (oXc v69 v70 3 u64 L68.length)⟩, ⟨(u66 + 1), some (r83.map f32)⟩, ⟨(u67 + 1), some [i64 r80, i64 r81, oref 5 (u66 + 1) 0 r83.length]⟩]) (TOp.eqr (TOp.callBN (ls := [(r87.map f32)]) [1] (CallAs.func ent41 rfl rfl) (Bors.cons (Bor.agg (bP (bP (Bors.cons (Bor.own (f := f32) (fun _ => rfl) rfl rfl) bN)))) (Bors.cons (Bor.agg (bP (bP (Bors.cons (Bor.own (f := f32) (fun _ => rfl) rfl rfl) bN)))) (Bors.cons (Bor.le (ALe.fl (by kernel_rfl) (by kernel_rfl)) (Bor.pure rfl)) (Bors.cons (Bor.le (ALe.fl (by kernel_rfl) (by kernel_rfl)) (Bor.pure rfl)) bN)))) rfl (i_WeighMatrices_ok v69 v70 L68 r80 r81 r83 (some 1069547520) (some 3204448256) r84 r85 r86 r87 hf32) (and_all (lts0_map (f := f32) (fun _ => rfl) _) rfl) (and_all (noss_map (f := f32) (fun _ => rfl) _) rfl) rfl (by decide) (ns_of ⟨⟨_, rfl⟩, trivial⟩)) (by simp [ren, rens, sigma, newNames]))<|ym rfl (tup [agg [i64 r84, i64 r85, oref 1 (u62 + 2) 0 r87.length], b r86])<|yl rfl (agg [i64 r84, i64 r85, oref 1 (u62 + 2) 0 r87.length]) y3<|yl rfl (b true) (LOp.eqb y3 hc33)<|ys (agg [i64 r84, i64 r85, oref 1 (u62 + 2) 0 r87.length]) [i64 r84, i64 r85, oref 1 (u62 + 2) 0 r87.length] ([⟨u61, some zMx⟩, ⟨(u62 + 2), some (r87.map f32)⟩, ⟨(u63 + 1), none⟩, ⟨u64, some (L68.map f32)⟩, ⟨u65, some [i64 r84, i64 r85, oref 1 (u62 + 2) 0 r87.length]⟩, ⟨(u66 + 1), some (r83.map f32)⟩, ⟨(u67 + 1), some [i64 r80, i64 r81, oref 5 (u66 + 1) 0 r83.length]⟩]) siz33<|ya rfl (b true)<|zN ?_
              exact ⟨true, r87, r84, r85, (Le.of ⟨aR, aR, aR, aR, aR, trivial⟩ ⟨⟨rfl, .inr rfl⟩, ⟨rfl, .inr rfl⟩, ⟨rfl, .inl rfl⟩, ⟨rfl, .inl rfl⟩, ⟨rfl, .inr (by first | rfl | simp)⟩, ⟨rfl, .inl rfl⟩, ⟨rfl, .inl rfl⟩, trivial⟩), h23_⟩
             ·refine yW<|yd rfl (agg (oXc v69 v70 3 u64 L68.length)) (TOp.loadAgg_o rfl agg33 siz33 rfl rfl rfl rfl)<|yd rfl (agg [i64 r80, i64 r81, oref 5 (u66 + 1) 0 r83.length]) (TOp.loadAgg_o rfl agg33 siz33 rfl rfl rfl rfl)<|ye rfl (tup [agg [i64 r84, i64 r85, oref 1 (u62 + 2) 0 r87.length], b r86]) ([⟨u61, some zMx⟩, ⟨(u62 + 2), some (r87.map f32)⟩, ⟨(u63 + 1), none⟩, ⟨u64, some (L68.map f32)⟩, ⟨u65, some (oXc v69 v70 3 u64 L68.length)⟩, ⟨(u66 + 1), some (r83.map f32)⟩, ⟨(u67 + 1), some [i64 r80, i64 r81, oref 5 (u66 + 1) 0 r83.length]⟩]) (TOp.eqr (TOp.callBN (ls := [(r87.map f32)]) [1] (CallAs.func ent41 rfl rfl) (Bors.cons (Bor.agg (bP (bP (Bors.cons (Bor.own (f := f32) (fun _ => rfl) rfl rfl) bN)))) (Bors.cons (Bor.agg (bP (bP (Bors.cons (Bor.own (f := f32) (fun _ => rfl) rfl rfl) bN)))) (Bors.cons (Bor.le (ALe.fl (by kernel_rfl) (by kernel_rfl)) (Bor.pure rfl)) (Bors.cons (Bor.le (ALe.fl (by kernel_rfl) (by kernel_rfl)) (Bor.pure rfl)) bN)))) rfl (i_WeighMatrices_ok v69 v70 L68 r80 r81 r83 (some 1069547520) (some 3204448256) r84 r85 r86 r87 hf32) (and_all (lts0_map (f := f32) (fun _ => rfl) _) rfl) (and_all (noss_map (f := f32) (fun _ => rfl) _) rfl) rfl (by decide) (ns_of ⟨⟨_, rfl⟩, trivial⟩)) (by simp [ren, rens, sigma, newNames]))<|ym rfl (tup [agg [i64 r84, i64 r85, oref 1 (u62 + 2) 0 r87.length], b r86])<|yl rfl (agg [i64 r84, i64 r85, oref 1 (u62 + 2) 0 r87.length]) y3<|yl rfl (b false) (LOp.eqb y3 hc33)<|ys (agg [i64 r84, i64 r85, oref 1 (u62 + 2) 0 r87.length]) [i64 r84, i64 r85, oref 1 (u62 + 2) 0 r87.length] ([⟨u61, some zMx⟩, ⟨(u62 + 2), some (r87.map f32)⟩, ⟨(u63 + 1), none⟩, ⟨u64, some (L68.map f32)⟩, ⟨u65, some [i64 r84, i64 r85, oref 1 (u62 + 2) 0 r87.length]⟩, ⟨(u66 + 1), some (r83.map f32)⟩, ⟨(u67 + 1), some [i64 r80, i64 r81, oref 5 (u66 + 1) 0 r83.length]⟩]) siz33<|ya rfl (b false)<|zN ?_
              exact ⟨false, r87, r84, r85, (Le.of ⟨aR, aR, aR, aR, aR, trivial⟩ ⟨⟨rfl, .inr rfl⟩, ⟨rfl, .inr rfl⟩, ⟨rfl, .inl rfl⟩, ⟨rfl, .inl rfl⟩, ⟨rfl, .inr (by first | rfl | simp)⟩, ⟨rfl, .inl rfl⟩, ⟨rfl, .inl rfl⟩, trivial⟩), h23_⟩
            ·refine yW<|yd rfl (agg (oXc v69 v70 3 u64 L68.length)) (TOp.loadAgg_o rfl agg33 siz33 rfl rfl rfl rfl)<|yd rfl (agg [i64 r76, i64 r77, oref 1 (u62 + 1) 0 r79.length]) (TOp.loadAgg_o rfl agg33 siz33 rfl rfl rfl rfl)<|ye rfl (tup [agg [i64 r80, i64 r81, oref 5 (u66 + 1) 0 r83.length], b r82]) ([⟨u61, some zMx⟩, ⟨(u62 + 1), some (r79.map f32)⟩, ⟨(u63 + 1), some [i64 r76, i64 r77, oref 1 (u62 + 1) 0 r79.length]⟩, ⟨u64, some (L68.map f32)⟩, ⟨u65, some (oXc v69 v70 3 u64 L68.length)⟩, ⟨(u66 + 1), some (r83.map f32)⟩, ⟨u67, none⟩]) (TOp.eqr (TOp.callBN (ls := [(r83.map f32)]) [5] (CallAs.func ent95 rfl rfl) (Bors.cons (Bor.agg (bP (bP (Bors.cons (Bor.own (f := f32) (fun _ => rfl) rfl rfl) bN)))) (Bors.cons (Bor.agg (bP (bP (Bors.cons (Bor.own (f := f32) (fun _ => rfl) rfl rfl) bN)))) bN)) rfl (i_MulMatrices_ok v69 v70 L68 r76 r77 r79 r80 r81 r82 r83 hf30) (and_all (lts0_map (f := f32) (fun _ => rfl) _) rfl) (and_all (noss_map (f := f32) (fun _ => rfl) _) rfl) rfl (by decide) (ns_of ⟨⟨_, rfl⟩, trivial⟩)) (by simp [ren, rens, sigma, newNames]))<|ym rfl (tup [agg [i64 r80, i64 r81, oref 5 (u66 + 1) 0 r83.length], b r82])<|yl rfl (agg [i64 r80, i64 r81, oref 5 (u66 + 1) 0 r83.length]) y3<|yl rfl (b false) (LOp.eqb y3 hc31)<|ye rfl (optr 6 (u67 + 1) 0) ([⟨u61, some zMx⟩, ⟨(u62 + 1), some (r79.map f32)⟩, ⟨(u63 + 1), some [i64 r76, i64 r77, oref 1 (u62 + 1) 0 r79.length]⟩, ⟨u64, some (L68.map f32)⟩, ⟨u65, some (oXc v69 v70 3 u64 L68.length)⟩, ⟨(u66 + 1), some (r83.map f32)⟩, ⟨(u67 + 1), some zMx⟩]) (TOp.alloc_o (g := ⟨u67, none⟩) 6 rfl zer33 zok33 rfl)<|ys (agg [i64 r80, i64 r81, oref 5 (u66 + 1) 0 r83.length]) [i64 r80, i64 r81, oref 5 (u66 + 1) 0 r83.length] ([⟨u61, some zMx⟩, ⟨(u62 + 1), some (r79.map f32)⟩, ⟨(u63 + 1), some [i64 r76, i64 r77, oref 1 (u62 + 1) 0 r79.length]⟩, ⟨u64, some (L68.map f32)⟩, ⟨u65, some (oXc v69 v70 3 u64 L68.length)⟩, ⟨(u66 + 1), some (r83.map f32)⟩, ⟨(u67 + 1), some [i64 r80, i64 r81, oref 5 (u66 + 1) 0 r83.length]⟩]) siz33<|ya rfl (b false)<|zN ?_
             refine RunC.wl (τ' := [(4, optr 0 u61 0), (8, optr 4 u65 0), (10, b false), (11, optr 6 (u67 + 1) 0), (44, i64 a3), (45, i64 v72)]) (Γ' := [⟨u61, some zMx⟩, ⟨(u62 + 1), none⟩, ⟨(u63 + 1), none⟩, ⟨u64, some (L68.map f32)⟩, ⟨u65, some (oXc v69 v70 3 u64 L68.length)⟩, ⟨(u66 + 1), some (r83.map f32)⟩, ⟨(u67 + 1), some [i64 r80, i64 r81, oref 5 (u66 + 1) 0 r83.length]⟩]) ⟨aR, aR, aR, aR, aR, aR, trivial⟩ ⟨⟨rfl, .inr rfl⟩, ⟨rfl, .inl rfl⟩, ⟨rfl, .inl rfl⟩, ⟨rfl, .inr rfl⟩, ⟨rfl, .inr rfl⟩, ⟨rfl, .inr rfl⟩, ⟨rfl, .inr rfl⟩, trivial⟩<|yS<|zQ<|ym rfl (b false)<|yl rfl (b true) y0<|zN ?_
             refine yT<|zQ<|yl rfl (agg zMx) (LOp.build (qs := []) zer33 zok33 und33 plc33 rfl trivial rfl)<|ys (agg zMx) zMx ([⟨u61, some zMx⟩, ⟨(u62 + 1), none⟩, ⟨(u63 + 1), none⟩, ⟨u64, some (L68.map f32)⟩, ⟨u65, some (oXc v69 v70 3 u64 L68.length)⟩, ⟨(u66 + 1), some (r83.map f32)⟩, ⟨(u67 + 1), some [i64 r80, i64 r81, oref 5 (u66 + 1) 0 r83.length]⟩]) siz33<|ya rfl (b false)<|zN ?_
             refine RunC.nil_cell (l' := [i64 0, i64 0, oref 1 (u62 + 2) 0 0]) (Γ' := [⟨u61, some [i64 0, i64 0, oref 1 (u62 + 2) 0 0]⟩, ⟨(u62 + 2), some (([] : List F).map f32)⟩, ⟨(u63 + 1), none⟩, ⟨u64, some (L68.map f32)⟩, ⟨u65, some (oXc v69 v70 3 u64 L68.length)⟩, ⟨(u66 + 1), some (r83.map f32)⟩, ⟨(u67 + 1), some [i64 r80, i64 r81, oref 5 (u66 + 1) 0 r83.length]⟩]) 0 2 1 rfl rfl rfl rfl rfl<|RunC.ret ?_
             cases oI h23_
             have hx24_ := hr23 _ rfl
             subst hx24_
             have hq := oI h
             obtain ⟨hq0, hq⟩ := Prod.mk.inj hq
             obtain ⟨hq1, hq⟩ := Prod.mk.inj hq
             obtain ⟨hq2, hq⟩ := Prod.mk.inj hq
             subst q0
             subst q1
             subst q2
             subst q3
             exact bodyQ.mk (r' := tup [agg [i64 0, i64 0, oref 1 (u62 + 2) 0 (([] : List F).length)], b false]) [(1, (u62 + 2))] (.inr rfl) rfl (ndB_ok rfl) (by simp [ren, rens, sigma]) rfl (Res.eq (Res.two rfl (RV.cell agg33 siz33 rfl rfl rfl rfl) (RV.tmp rfl)) (by rw [(show ([] : List F).length = 0 from rfl)] <;> rfl)) (SelL.arr0 (f := f32) (fun _ => rfl) rfl trivial)
           ·refine RunC.region_draw (Γ' := [⟨u61, some zMx⟩, ⟨(u62 + 1), some (r79.map f32)⟩, ⟨(u63 + 1), some zMx⟩, ⟨u64, some (L68.map f32)⟩, ⟨u65, some (oXc v69 v70 3 u64 L68.length)⟩, ⟨u66, none⟩, ⟨u67, none⟩]) 8 mixed 
             (TR.d (r := agg (oXc v69 v70 3 u64 L68.length)) (fs := []) rfl rfl (TOp.loadAgg_o rfl agg33 siz33 rfl rfl rfl rfl) <|
             (TR.d (r := agg (mXc r73 r74 r75)) (fs := []) rfl rfl (TOp.callBS (ls := [(r75.map f32)]) (CallAs.func ent111 rfl rfl) (Bors.cons (Bor.agg (bP (bP (Bors.cons (Bor.own (f := f32) (fun _ => rfl) rfl rfl) bN)))) bN) (i_Matrix_flip_ok v69 v70 L68 r73 r74 r75 hf27) rfl (lt_agg (lts_cons rfl (lts_cons rfl (lts_cons (lt_sl (fun _ => rfl)) lts_nil)))) (and_all (noss_map (f := f32) (fun _ => rfl) _) rfl) (Bor.agg (bP (bP (Bors.cons (Bor.own (f := f32) (fun _ => rfl) rfl rfl) bN))))) <|
             (TR.d (r := agg (oXc v69 v70 3 u64 L68.length)) (fs := []) rfl rfl (TOp.loadAgg_o rfl agg33 siz33 rfl rfl rfl rfl) <|
             (TR.d (r := tup [agg [i64 r76, i64 r77, oref 1 (u62 + 1) 0 r79.length], b r78]) (fs := [(1, (r79.map f32))]) rfl rfl (TOp.eqr (TOp.callBN (ls := [(r79.map f32)]) [1] (CallAs.func ent95 rfl rfl) (Bors.cons (Bor.agg (bP (bP (bS bN)))) (Bors.cons (Bor.agg (bP (bP (Bors.cons (Bor.own (f := f32) (fun _ => rfl) rfl rfl) bN)))) bN)) rfl (i_MulMatrices_ok r73 r74 r75 v69 v70 L68 r76 r77 r78 r79 hf28) (and_all (lts0_map (f := f32) (fun _ => rfl) _) rfl) (and_all (noss_map (f := f32) (fun _ => rfl) _) rfl) rfl (by decide) (ns_of ⟨⟨_, rfl⟩, trivial⟩)) (by simp [ren, rens, sigma, newNames])) <|
             (tm rfl (tup [agg [i64 r76, i64 r77, oref 1 (u62 + 1) 0 r79.length], b r78]) <|
             (tl rfl (agg [i64 r76, i64 r77, oref 1 (u62 + 1) 0 r79.length]) y3 <|
             (TR.loose (r := b false) rfl rfl (LOp.eqb y3 hc29) <|
             (TR.d (r := optr 2 (u63 + 1) 0) (fs := [(2, zMx)]) rfl rfl (TOp.alloc_o (g := ⟨u63, none⟩) 2 rfl zer33 zok33 rfl) <|
             TR.nil)))))))) rfl (by kernel_rfl) rfl (fills_of (by show List.Nodup [1, 2]; decide) ⟨⟨_, rfl⟩, ⟨_, rfl⟩, trivial⟩) rfl ?_
            iterate 8 refine ROps.dropS ?_
            refine ROps.drop0<|ys (agg [i64 r76, i64 r77, oref 1 (u62 + 1) 0 r79.length]) [i64 r76, i64 r77, oref 1 (u62 + 1) 0 r79.length] ([⟨u61, some zMx⟩, ⟨(u62 + 1), some (r79.map f32)⟩, ⟨(u63 + 1), some [i64 r76, i64 r77, oref 1 (u62 + 1) 0 r79.length]⟩, ⟨u64, some (L68.map f32)⟩, ⟨u65, some (oXc v69 v70 3 u64 L68.length)⟩, ⟨u66, none⟩, ⟨u67, none⟩]) siz33<|ya rfl (b false)<|zN ?_
            refine yS<|zQ<|ym rfl (b false)<|yl rfl (b true) y0<|zN ?_
            refine RunC.wl (τ' := [(4, optr 0 u61 0), (8, optr 4 u65 0), (9, optr 2 (u63 + 1) 0), (44, i64 a3), (45, i64 v72), (58, b true)]) (Γ' := [⟨u61, some zMx⟩, ⟨(u62 + 1), some (r79.map f32)⟩, ⟨(u63 + 1), some [i64 r76, i64 r77, oref 1 (u62 + 1) 0 r79.length]⟩, ⟨u64, some (L68.map f32)⟩, ⟨u65, some (oXc v69 v70 3 u64 L68.length)⟩, ⟨u66, none⟩, ⟨u67, none⟩]) ⟨aR, aR, aR, aR, aR, aR, trivial⟩ ⟨⟨rfl, .inr rfl⟩, ⟨rfl, .inr rfl⟩, ⟨rfl, .inr rfl⟩, ⟨rfl, .inr rfl⟩, ⟨rfl, .inr rfl⟩, ⟨rfl, .inl rfl⟩, ⟨rfl, .inl rfl⟩, trivial⟩<|yT<|zQ<|yl rfl (agg zMx) (LOp.build (qs := []) zer33 zok33 und33 plc33 rfl trivial rfl)<|ys (agg zMx) zMx ([⟨u61, some zMx⟩, ⟨(u62 + 1), some (r79.map f32)⟩, ⟨(u63 + 1), some [i64 r76, i64 r77, oref 1 (u62 + 1) 0 r79.length]⟩, ⟨u64, some (L68.map f32)⟩, ⟨u65, some (oXc v69 v70 3 u64 L68.length)⟩, ⟨u66, none⟩, ⟨u67, none⟩]) siz33<|ya rfl (b false)<|zN ?_
            refine RunC.nil_cell (l' := [i64 0, i64 0, oref 5 (u66 + 1) 0 0]) (Γ' := [⟨u61, some [i64 0, i64 0, oref 5 (u66 + 1) 0 0]⟩, ⟨(u62 + 1), some (r79.map f32)⟩, ⟨(u63 + 1), some [i64 r76, i64 r77, oref 1 (u62 + 1) 0 r79.length]⟩, ⟨u64, some (L68.map f32)⟩, ⟨u65, some (oXc v69 v70 3 u64 L68.length)⟩, ⟨(u66 + 1), some (([] : List F).map f32)⟩, ⟨u67, none⟩]) 0 2 5 rfl rfl rfl rfl rfl<|RunC.ret ?_
            cases oI h23_
            have hx25_ := hr23 _ rfl
            subst hx25_
            have hq := oI h
            obtain ⟨hq0, hq⟩ := Prod.mk.inj hq
            obtain ⟨hq1, hq⟩ := Prod.mk.inj hq
            obtain ⟨hq2, hq⟩ := Prod.mk.inj hq
            subst q0
            subst q1
            subst q2
            subst q3
            exact bodyQ.mk (r' := tup [agg [i64 0, i64 0, oref 5 (u66 + 1) 0 (([] : List F).length)], b false]) [(5, (u66 + 1))] (.inr rfl) rfl (show List.Nodup [5] from by decide) (by simp [ren, rens, sigma]) rfl (Res.eq (Res.two rfl (RV.cell agg33 siz33 rfl rfl rfl rfl) (RV.tmp rfl)) (by rw [(show ([] : List F).length = 0 from rfl)] <;> rfl)) (SelL.arr0 (f := f32) (fun _ => rfl) rfl trivial)
          ·refine yW<|yl rfl (b false) (yv hc26)<|yl rfl (b true) y0<|zN ?_
           refine yT<|zQ<|yl rfl (agg zMx) (LOp.build (qs := []) zer33 zok33 und33 plc33 rfl trivial rfl)<|ys (agg zMx) zMx [⟨u61, some zMx⟩, ⟨u62, none⟩, ⟨u63, none⟩, ⟨u64, some (L68.map f32)⟩, ⟨u65, some (oXc v69 v70 3 u64 L68.length)⟩, ⟨u66, none⟩, ⟨u67, none⟩] siz33<|ya rfl (b false)<|zN ?_
           refine RunC.nil_cell (l' := [i64 0, i64 0, oref 1 (u62 + 1) 0 0]) (Γ' := [⟨u61, some [i64 0, i64 0, oref 1 (u62 + 1) 0 0]⟩, ⟨(u62 + 1), some (([] : List F).map f32)⟩, ⟨u63, none⟩, ⟨u64, some (L68.map f32)⟩, ⟨u65, some (oXc v69 v70 3 u64 L68.length)⟩, ⟨u66, none⟩, ⟨u67, none⟩]) 0 2 1 rfl rfl rfl rfl rfl<|RunC.ret ?_
           cases oI h23_
           have hx26_ := hr23 _ rfl
           subst hx26_
           have hq := oI h
           obtain ⟨hq0, hq⟩ := Prod.mk.inj hq
           obtain ⟨hq1, hq⟩ := Prod.mk.inj hq
           obtain ⟨hq2, hq⟩ := Prod.mk.inj hq
           subst q0
           subst q1
           subst q2
           subst q3
           exact bodyQ.mk (r' := tup [agg [i64 0, i64 0, oref 1 (u62 + 1) 0 (([] : List F).length)], b false]) [(1, (u62 + 1))] (.inr rfl) rfl (ndB_ok rfl) (by simp [ren, rens, sigma]) rfl (Res.eq (Res.two rfl (RV.cell agg33 siz33 rfl rfl rfl rfl) (RV.tmp rfl)) (by rw [(show ([] : List F).length = 0 from rfl)] <;> rfl)) (SelL.arr0 (f := f32) (fun _ => rfl) rfl trivial)
         ·rintro τ27 Γ27 ⟨w88, L89, v90, v91, hw27, h23_⟩
          refine RunC.le hw27 ?_
          unfold i_PolarPart_k8 at h23_
          obtain ⟨x92, hx34, h23_⟩ := oL h23_
          refine yW<|yl rfl (i64 x92) (LOp.eqr (LOp.add rfl rfl rfl) (congrArg (ik .i64) hx34))<|ym rfl (i64 x92)<|zN ?_
          cases oI h23_
          exact ⟨_, rfl, 0, u64, (u63 + 1), 0, 0, (u66 + 1), (u67 + 1), (Le.trans (Le.sel [(0, u61), (3, 0), (2, 0), (1, (u62 + 2)), (4, u65), (5, 0), (6, 0)] [(4, optr 0 0 0), (7, b w88), (8, optr 4 0 0), (44, i64 a3), (45, i64 x92)] [⟨0, some zMx⟩, ⟨u64, none⟩, ⟨(u63 + 1), none⟩, ⟨0, some (L89.map f32)⟩, ⟨0, some (oXc v90 v91 3 0 L89.length)⟩, ⟨(u66 + 1), none⟩, ⟨(u67 + 1), none⟩] rfl (SelOk.of (show List.Nodup [0, 3, 2, 1, 4, 5, 6] from by decide) (SelL.cells0 rfl (by simp [ren, rens, sigma, rens_f32, rens_f64, rens_i64, rens_ik, rens_str, rens_cp]) rfl ⟨⟨_, rfl⟩, ⟨⟨_, rfl⟩, (SelL.arr0 (f := f32) (fun _ => rfl) rfl (SelL.cells0 rfl (by simp [ren, rens, sigma, rens_f32, rens_f64, rens_i64, rens_ik, rens_str, rens_cp]) rfl ⟨⟨_, rfl⟩, ⟨⟨_, rfl⟩, trivial⟩⟩))⟩⟩)) ⟨⟨optr 0 u61 0, rfl, .inr ⟨by first | rfl | simp [ren, rens, sigma, rens_f32, rens_f64, rens_i64, rens_ik, rens_str, rens_cp], rfl⟩⟩, ⟨_, rfl, .inl ⟨rfl, rfl⟩⟩, ⟨optr 4 u65 0, rfl, .inr ⟨by first | rfl | simp [ren, rens, sigma, rens_f32, rens_f64, rens_i64, rens_ik, rens_str, rens_cp], rfl⟩⟩, ⟨_, rfl, .inl ⟨rfl, rfl⟩⟩, ⟨_, rfl, .inl ⟨rfl, rfl⟩⟩, trivial⟩) (Le.of ⟨aR, aR, aR, aR, aR, trivial⟩ ⟨⟨rfl, .inr rfl⟩, ⟨rfl, .inl rfl⟩, ⟨rfl, .inl rfl⟩, ⟨rfl, .inr rfl⟩, ⟨rfl, .inr (by first | rfl | simp)⟩, ⟨rfl, .inl rfl⟩, ⟨rfl, .inl rfl⟩, trivial⟩))⟩
        ·refine yW<|yl rfl (b false) (LOp.eqb (LOp.lss rfl rfl rfl) hc25)<|zN ?_
         refine yS<|yF<|RunC.exit ?_
         cases oI h23_
         have hx := ho23 _ rfl
         exact ⟨L68, v69, v70, w71, u61, u62, u63, u64, u65, u66, u67, (Le.of ⟨aR, aR, aR, trivial⟩ ⟨⟨rfl, .inr rfl⟩, ⟨rfl, .inl rfl⟩, ⟨rfl, .inl rfl⟩, ⟨rfl, .inr rfl⟩, ⟨rfl, .inr (by first | rfl | simp)⟩, ⟨rfl, .inl rfl⟩, ⟨rfl, .inl rfl⟩, trivial⟩), hx⟩
       ·rintro τ28 Γ28 ⟨L100, v101, v102, w103, u93, u94, u95, u96, u97, u98, u99, hw28, rfl⟩
        refine RunC.le hw28 ?_
        replace h : i_PolarPart_k9 L100 v101 v102 w103 = some (q0, q1, q2, q3) := h
        unfold i_PolarPart_k9 at h
        refine zQ<|yd rfl (agg (oXc v101 v102 3 u96 L100.length)) (TOp.loadAgg_o rfl agg33 siz33 rfl rfl rfl rfl)<|ym rfl (b w103)<|ys (agg (oXc v101 v102 3 u96 L100.length)) (oXc v101 v102 3 u96 L100.length) [⟨u93, some (oXc v101 v102 3 u96 L100.length)⟩, ⟨u94, none⟩, ⟨u95, none⟩, ⟨u96, some (L100.map f32)⟩, ⟨u97, some (oXc v101 v102 3 u96 L100.length)⟩, ⟨u98, none⟩, ⟨u99, none⟩] siz33<|ya rfl (b w103)<|zN ?_
        refine RunC.ret ?_
        have hq := oI h
        obtain ⟨hq0, hq⟩ := Prod.mk.inj hq
        obtain ⟨hq1, hq⟩ := Prod.mk.inj hq
        obtain ⟨hq2, hq⟩ := Prod.mk.inj hq
        subst q0
        subst q1
        subst q2
        subst q3
        exact bodyQ.mk (r' := tup [agg (oXc v101 v102 3 u96 L100.length), b w103]) [(3, u96)] (.inr rfl) rfl (show List.Nodup [3] from by decide) (by simp [ren, rens, sigma]) rfl (Res.two rfl (RV.cell agg33 siz33 rfl rfl rfl rfl) (RV.tmp rfl)) (SelL.arr0 (f := f32) (fun _ => rfl) rfl trivial)
      ·refine yW<|yl rfl (ptr (mXc a0 a1 a2)) (LOp.fap und33 rfl siz2 rfl rfl rfl)<|yl rfl (i64 a0) (y2 agg2)<|yl rfl (ptr (mXc a0 a1 a2)) (LOp.fap und33 rfl siz2 rfl rfl rfl)<|yl rfl (i64 a0) (y2 agg2)<|yl rfl (fn (.func 110) [] [ptr (mXc a0 a1 a2), optr 1 1 0]) (LOp.makeFunc rfl rfl)<|ye rfl (agg (oXc r5 r6 2 1 r7.length)) ([⟨1, some zMx⟩, ⟨1, some [f32 r3]⟩, ⟨1, some (r7.map f32)⟩, ⟨0, none⟩, ⟨0, none⟩, ⟨0, none⟩, ⟨0, none⟩]) (TOp.callBN (ls := [(r7.map f32)]) [2] (CallAs.func ent64 rfl rfl) (bP (bP (Bors.cons (Bor.fn bN (Bors.cons (Bor.ptr (bP (bP (bS bN)))) (Bors.cons (Bor.optr rfl (Bors.p bN0) rfl) bN))) bN))) rfl (i_made_2Fi_PolarPart_1_ok a0 a0 a0 a1 a2 r3 r5 r6 r7 hf8) (and_all (lts0_map (f := f32) (fun _ => rfl) _) rfl) (and_all (noss_map (f := f32) (fun _ => rfl) _) rfl) rfl (by decide) (ns_of ⟨⟨_, rfl⟩, trivial⟩))<|ROps.callO (A := [agg (oXc r5 r6 2 1 r7.length)]) (args := [agg (oXc r5 r6 0 0 r7.length)]) (Γc := [⟨0, some (r7.map f32)⟩]) (Γc' := [⟨0, some (r15.map f32)⟩, ⟨0, some (r16.map f32)⟩]) (r' := tup [agg (oXc r12 r13 3 1 r16.length), b r14]) (Γ' := [⟨1, some zMx⟩, ⟨1, some [f32 r3]⟩, ⟨1, some (r15.map f32)⟩, ⟨1, some (r16.map f32)⟩, ⟨0, none⟩, ⟨0, none⟩, ⟨0, none⟩]) [(2, 1)] [(3, 1)] rfl (CallAs.func ent107 rfl rfl) rfl rfl (SelOk.of (show List.Nodup [2] from by decide) (SelL.arr0 (f := f32) (fun _ => rfl) rfl trivial)) (live_of ⟨⟨_, _, rfl⟩, trivial⟩) (by simp [ren, rens, sigma, rens_f32, rens_f64, rens_i64, rens_ik, rens_str, rens_cp]) rfl (i_Matrix_valid_02o_ok1 r5 r6 r7 r12 r13 r14 r15 r16 hf9) rfl (news_of ⟨⟨_, rfl, rfl⟩, trivial⟩) (show List.Nodup [2, 3] from by decide) (by simp [ren, rens, sigma, of_decide_eq_true hn12]) (by simp [backOb, sigma, ren, rens, rens_f32, rens_f64, rens_i64, rens_ik, rens_str, rens_cp])<|ym rfl (tup [agg (oXc r12 r13 3 1 r16.length), b r14])<|yl rfl (agg (oXc r12 r13 3 1 r16.length)) y3<|yl rfl (b false) (LOp.eqb y3 hc13)<|ye rfl (optr 4 1 0) ([⟨1, some zMx⟩, ⟨1, some [f32 r3]⟩, ⟨1, some (r15.map f32)⟩, ⟨1, some (r16.map f32)⟩, ⟨1, some zMx⟩, ⟨0, none⟩, ⟨0, none⟩]) (TOp.alloc_o (g := ⟨0, none⟩) 4 rfl zer33 zok33 rfl)<|ys (agg (oXc r12 r13 3 1 r16.length)) (oXc r12 r13 3 1 r16.length) ([⟨1, some zMx⟩, ⟨1, some [f32 r3]⟩, ⟨1, some (r15.map f32)⟩, ⟨1, some (r16.map f32)⟩, ⟨1, some (oXc r12 r13 3 1 r16.length)⟩, ⟨0, none⟩, ⟨0, none⟩]) siz33<|ya rfl (b false)<|zN ?_
       refine RunC.wl (τ' := [(1, i64 a3), (4, optr 0 1 0), (7, b false), (8, optr 4 1 0)]) (Γ' := [⟨1, some zMx⟩, ⟨1, none⟩, ⟨1, none⟩, ⟨1, some (r16.map f32)⟩, ⟨1, some (oXc r12 r13 3 1 r16.length)⟩, ⟨0, none⟩, ⟨0, none⟩]) ⟨aR, aR, aR, aR, trivial⟩ ⟨⟨rfl, .inr rfl⟩, ⟨rfl, .inl rfl⟩, ⟨rfl, .inl rfl⟩, ⟨rfl, .inr rfl⟩, ⟨rfl, .inr rfl⟩, ⟨rfl, .inr rfl⟩, ⟨rfl, .inr rfl⟩, trivial⟩<|yS<|zQ<|ym rfl (i64 a3)<|ym rfl (i64 0)<|zN ?_
       obtain ⟨z29, hz_29, h⟩ := oS h
       refine RunC.cutN (fun τ Γ => Le 157 τ Γ [(4, optr 0 1 0), (7, b false), (8, optr 4 1 0)] [⟨1, some zMx⟩, ⟨1, none⟩, ⟨1, none⟩, ⟨1, some (r16.map f32)⟩, ⟨1, some (oXc r12 r13 3 1 r16.length)⟩, ⟨0, none⟩, ⟨0, none⟩] ∧ z29 = .inl ()) ?_ ?_
       ·refine RunC.block (RunC.loop (RunL.loopM (x := z29) (i_PolarPart_s10 a3) (fun (s : Unit) τ Γ => Le 157 τ Γ [(4, optr 0 1 0), (7, b false), (8, optr 4 1 0), (44, i64 a3), (45, i64 0)] [⟨1, some zMx⟩, ⟨1, none⟩, ⟨1, none⟩, ⟨1, some (r16.map f32)⟩, ⟨1, some (oXc r12 r13 3 1 r16.length)⟩, ⟨0, none⟩, ⟨0, none⟩]) ?_ _ _ _ hz_29 (Le.of ⟨aR, aR, aR, aR, aR, trivial⟩ ⟨⟨rfl, .inr rfl⟩, ⟨rfl, .inl rfl⟩, ⟨rfl, .inl rfl⟩, ⟨rfl, .inr rfl⟩, ⟨rfl, .inr rfl⟩, ⟨rfl, .inr rfl⟩, ⟨rfl, .inr rfl⟩, trivial⟩)))
        rintro ⟨⟩ τ29 Γ29 y29_ hw29 h29_ ho29 hr29
        refine RunC.le (τ' := [(4, optr 0 1 0), (7, b false), (8, optr 4 1 0), (44, i64 a3), (45, i64 0)]) (Γ' := [⟨1, some zMx⟩, ⟨1, none⟩, ⟨1, none⟩, ⟨1, some (r16.map f32)⟩, ⟨1, some (oXc r12 r13 3 1 r16.length)⟩, ⟨0, none⟩, ⟨0, none⟩]) hw29 ?_
        replace h29_ : i_PolarPart_b10 a3 = some y29_ := h29_
        unfold i_PolarPart_b10 at h29_
        refine yS ?_
        rcases oB h29_ with ⟨hc35, h29_⟩ | ⟨hc35, h29_⟩
        ·refine yW<|yl rfl (b true) (LOp.eqb (LOp.lss rfl rfl rfl) hc35)<|zN ?_
         refine yS<|yT<|RunC.skip<|yS<|RunC.block<|yS<|zQ<|ym rfl (b false)<|yl rfl (b true) y0<|zN ?_
         refine yT<|zQ<|yl rfl (agg zMx) (LOp.build (qs := []) zer33 zok33 und33 plc33 rfl trivial rfl)<|ys (agg zMx) zMx [⟨1, some zMx⟩, ⟨1, none⟩, ⟨1, none⟩, ⟨1, some (r16.map f32)⟩, ⟨1, some (oXc r12 r13 3 1 r16.length)⟩, ⟨0, none⟩, ⟨0, none⟩] siz33<|ya rfl (b false)<|zN ?_
         refine RunC.nil_cell (l' := [i64 0, i64 0, oref 1 2 0 0]) (Γ' := [⟨1, some [i64 0, i64 0, oref 1 2 0 0]⟩, ⟨2, some (([] : List F).map f32)⟩, ⟨1, none⟩, ⟨1, some (r16.map f32)⟩, ⟨1, some (oXc r12 r13 3 1 r16.length)⟩, ⟨0, none⟩, ⟨0, none⟩]) 0 2 1 rfl rfl rfl rfl rfl<|RunC.ret ?_
         cases oI h29_
         have hx30_ := hr29 _ rfl
         subst hx30_
         have hq := oI h
         obtain ⟨hq0, hq⟩ := Prod.mk.inj hq
         obtain ⟨hq1, hq⟩ := Prod.mk.inj hq
         obtain ⟨hq2, hq⟩ := Prod.mk.inj hq
         subst q0
         subst q1
         subst q2
         subst q3
         exact yB (tup [agg [i64 0, i64 0, oref 1 2 0 (([] : List F).length)], b false]) [(1, 2)] (Res.eq (Res.two rfl (RV.cell agg33 siz33 rfl rfl rfl rfl) (RV.tmp rfl)) (by rw [(show ([] : List F).length = 0 from rfl)] <;> rfl)) (SelL.arr0 (f := f32) (fun _ => rfl) rfl trivial)
        ·refine yW<|yl rfl (b false) (LOp.eqb (LOp.lss rfl rfl rfl) hc35)<|zN ?_
         refine yS<|yF<|RunC.exit ?_
         cases oI h29_
         have hx := ho29 _ rfl
         exact ⟨(Le.of ⟨aR, aR, aR, trivial⟩ ⟨⟨rfl, .inr rfl⟩, ⟨rfl, .inl rfl⟩, ⟨rfl, .inl rfl⟩, ⟨rfl, .inr rfl⟩, ⟨rfl, .inr rfl⟩, ⟨rfl, .inr rfl⟩, ⟨rfl, .inr rfl⟩, trivial⟩), hx⟩
       ·rintro τ31 Γ31 ⟨hw31, rfl⟩
        refine RunC.le hw31 ?_
        replace h : i_PolarPart_k10 r12 r13 r16 = some (q0, q1, q2, q3) := h
        unfold i_PolarPart_k10 at h
        refine zQ<|yd rfl (agg (oXc r12 r13 3 1 r16.length)) (TOp.loadAgg_o rfl agg33 siz33 rfl rfl rfl rfl)<|ym rfl (b false)<|ys (agg (oXc r12 r13 3 1 r16.length)) (oXc r12 r13 3 1 r16.length) [⟨1, some (oXc r12 r13 3 1 r16.length)⟩, ⟨1, none⟩, ⟨1, none⟩, ⟨1, some (r16.map f32)⟩, ⟨1, some (oXc r12 r13 3 1 r16.length)⟩, ⟨0, none⟩, ⟨0, none⟩] siz33<|ya rfl (b false)<|zN ?_
        refine RunC.ret ?_
        have hq := oI h
        obtain ⟨hq0, hq⟩ := Prod.mk.inj hq
        obtain ⟨hq1, hq⟩ := Prod.mk.inj hq
        obtain ⟨hq2, hq⟩ := Prod.mk.inj hq
        subst q0
        subst q1
        subst q2
        subst q3
        exact yB (tup [agg (oXc r12 r13 3 1 r16.length), b false]) [(3, 1)] (Res.two rfl (RV.cell agg33 siz33 rfl rfl rfl rfl) (RV.tmp rfl)) (SelL.arr0 (f := f32) (fun _ => rfl) rfl trivial)
    ·refine yW<|ym rfl (b true)<|yl rfl (b false) y1<|ym rfl (b false)<|yd rfl (f32 r3) (TOp.load1_o rfl rfl agg28 rfl rfl)<|yl rfl (b false) (LOp.eqb (LOp.fgt rfl (OpF.tmp rfl) (OpF.const rfl (by kernel_rfl) (by kernel_rfl))) hc7)<|yl rfl (b true) y0<|yl rfl (b true) yp<|zN ?_
     refine RunC.wl (τ' := [(1, i64 a3), (2, ptr (mXc a0 a1 a2)), (4, optr 0 1 0), (6, optr 1 1 0), (32, b true)]) (Γ' := [⟨1, some zMx⟩, ⟨1, some [f32 r3]⟩, ⟨0, none⟩, ⟨0, none⟩, ⟨0, none⟩, ⟨0, none⟩, ⟨0, none⟩]) ⟨aR, aR, aR, aR, aR, trivial⟩ ⟨⟨rfl, .inr rfl⟩, ⟨rfl, .inr rfl⟩, ⟨rfl, .inr rfl⟩, ⟨rfl, .inr rfl⟩, ⟨rfl, .inr rfl⟩, ⟨rfl, .inr rfl⟩, ⟨rfl, .inr rfl⟩, trivial⟩<|yT<|zQ<|yl rfl (agg zMx) (LOp.build (qs := []) zer33 zok33 und33 plc33 rfl trivial rfl)<|ys (agg zMx) zMx ([⟨1, some zMx⟩, ⟨1, some [f32 r3]⟩, ⟨0, none⟩, ⟨0, none⟩, ⟨0, none⟩, ⟨0, none⟩, ⟨0, none⟩]) siz33<|ya rfl (b false)<|zN ?_
     refine RunC.nil_cell (l' := [i64 0, i64 0, oref 2 1 0 0]) (Γ' := [⟨1, some [i64 0, i64 0, oref 2 1 0 0]⟩, ⟨1, some [f32 r3]⟩, ⟨1, some (([] : List F).map f32)⟩, ⟨0, none⟩, ⟨0, none⟩, ⟨0, none⟩, ⟨0, none⟩]) 0 2 2 rfl rfl rfl rfl rfl<|RunC.ret ?_
     have hq := oI h
     obtain ⟨hq0, hq⟩ := Prod.mk.inj hq
     obtain ⟨hq1, hq⟩ := Prod.mk.inj hq
     obtain ⟨hq2, hq⟩ := Prod.mk.inj hq
     subst q0
     subst q1
     subst q2
     subst q3
     exact yB (tup [agg [i64 0, i64 0, oref 2 1 0 (([] : List F).length)], b false]) [(2, 1)] (Res.eq (Res.two rfl (RV.cell agg33 siz33 rfl rfl rfl rfl) (RV.tmp rfl)) (by rw [(show ([] : List F).length = 0 from rfl)] <;> rfl)) (SelL.arr0 (f := f32) (fun _ => rfl) rfl trivial)
   ·refine yW<|yl rfl (agg (mXc a0 a1 a2)) (yL agg33 siz33)<|yd rfl (tup [f32 r3, b r4]) (TOp.callB (CallAs.func ent109 rfl rfl) (Bors.cons (Bor.agg (bP (bP (bS bN)))) bN) rfl rfl (i_WholeNorm_ok a0 a1 a2 r3 r4 hf5))<|ym rfl (tup [f32 r3, b r4])<|yl rfl (f32 r3) y3<|yl rfl (b false) (LOp.eqb y3 hc6)<|ye rfl (optr 1 1 0) ([⟨1, some zMx⟩, ⟨1, some [f32 (some 0)]⟩, ⟨0, none⟩, ⟨0, none⟩, ⟨0, none⟩, ⟨0, none⟩, ⟨0, none⟩]) (TOp.alloc_o (g := ⟨0, none⟩) 1 rfl zer28 zok28 rfl)<|ys (f32 r3) [f32 r3] ([⟨1, some zMx⟩, ⟨1, some [f32 r3]⟩, ⟨0, none⟩, ⟨0, none⟩, ⟨0, none⟩, ⟨0, none⟩, ⟨0, none⟩]) siz28<|ya rfl (b false)<|zN ?_
    refine yS<|zQ<|ym rfl (b false)<|yl rfl (b true) y0<|ym rfl (b true)<|ROps.s rfl rfl rfl<|ROps.s rfl rfl rfl<|ROps.s rfl rfl rfl<|yl rfl (b true) yq<|zN ?_
    refine RunC.wl (τ' := [(1, i64 a3), (2, ptr (mXc a0 a1 a2)), (4, optr 0 1 0), (6, optr 1 1 0), (32, b true)]) (Γ' := [⟨1, some zMx⟩, ⟨1, some [f32 r3]⟩, ⟨0, none⟩, ⟨0, none⟩, ⟨0, none⟩, ⟨0, none⟩, ⟨0, none⟩]) ⟨aR, aR, aR, aR, aR, trivial⟩ ⟨⟨rfl, .inr rfl⟩, ⟨rfl, .inr rfl⟩, ⟨rfl, .inr rfl⟩, ⟨rfl, .inr rfl⟩, ⟨rfl, .inr rfl⟩, ⟨rfl, .inr rfl⟩, ⟨rfl, .inr rfl⟩, trivial⟩<|yT<|zQ<|yl rfl (agg zMx) (LOp.build (qs := []) zer33 zok33 und33 plc33 rfl trivial rfl)<|ys (agg zMx) zMx ([⟨1, some zMx⟩, ⟨1, some [f32 r3]⟩, ⟨0, none⟩, ⟨0, none⟩, ⟨0, none⟩, ⟨0, none⟩, ⟨0, none⟩]) siz33<|ya rfl (b false)<|zN ?_
    refine RunC.nil_cell (l' := [i64 0, i64 0, oref 2 1 0 0]) (Γ' := [⟨1, some [i64 0, i64 0, oref 2 1 0 0]⟩, ⟨1, some [f32 r3]⟩, ⟨1, some (([] : List F).map f32)⟩, ⟨0, none⟩, ⟨0, none⟩, ⟨0, none⟩, ⟨0, none⟩]) 0 2 2 rfl rfl rfl rfl rfl<|RunC.ret ?_
    have hq := oI h
    obtain ⟨hq0, hq⟩ := Prod.mk.inj hq
    obtain ⟨hq1, hq⟩ := Prod.mk.inj hq
    obtain ⟨hq2, hq⟩ := Prod.mk.inj hq
    subst q0
    subst q1
    subst q2
    subst q3
    exact yB (tup [agg [i64 0, i64 0, oref 2 1 0 (([] : List F).length)], b false]) [(2, 1)] (Res.eq (Res.two rfl (RV.cell agg33 siz33 rfl rfl rfl rfl) (RV.tmp rfl)) (by rw [(show ([] : List F).length = 0 from rfl)] <;> rfl)) (SelL.arr0 (f := f32) (fun _ => rfl) rfl trivial)
  ·refine yW<|yl rfl (agg (mXc a0 a1 a2)) (yL agg33 siz33)<|yd rfl (b true) (TOp.eqb (TOp.callB (CallAs.func ent91 rfl rfl) (Bors.cons (Bor.agg (bP (bP (bS bN)))) bN) rfl rfl (i_isSquare_ok a0 a1 a2 r1 hf1)) hc2)<|yl rfl (b false) y1<|ym rfl (b false)<|ym rfl (i64 a3)<|yd rfl (b false) (TOp.eqb (yc ent108 rfl rfl bN0 (i_isRounds_ok a3 r2 hf3)) hc4)<|yl rfl (b true) y0<|yl rfl (b true) yp<|zN ?_
   refine yT<|zQ<|yl rfl (agg zMx) (LOp.build (qs := []) zer33 zok33 und33 plc33 rfl trivial rfl)<|ys (agg zMx) zMx [⟨1, some zMx⟩, ⟨0, none⟩, ⟨0, none⟩, ⟨0, none⟩, ⟨0, none⟩, ⟨0, none⟩, ⟨0, none⟩] siz33<|ya rfl (b false)<|zN ?_
   refine RunC.nil_cell (l' := [i64 0, i64 0, oref 1 1 0 0]) (Γ' := [⟨1, some [i64 0, i64 0, oref 1 1 0 0]⟩, ⟨1, some (([] : List F).map f32)⟩, ⟨0, none⟩, ⟨0, none⟩, ⟨0, none⟩, ⟨0, none⟩, ⟨0, none⟩]) 0 2 1 rfl rfl rfl rfl rfl<|RunC.ret ?_
   have hq := oI h
   obtain ⟨hq0, hq⟩ := Prod.mk.inj hq
   obtain ⟨hq1, hq⟩ := Prod.mk.inj hq
   obtain ⟨hq2, hq⟩ := Prod.mk.inj hq
   subst q0
   subst q1
   subst q2
   subst q3
   exact yB (tup [agg [i64 0, i64 0, oref 1 1 0 (([] : List F).length)], b false]) [(1, 1)] (Res.eq (Res.two rfl (RV.cell agg33 siz33 rfl rfl rfl rfl) (RV.tmp rfl)) (by rw [(show ([] : List F).length = 0 from rfl)] <;> rfl)) (SelL.arr0 (f := f32) (fun _ => rfl) rfl trivial)
 ·refine yW<|yl rfl (agg (mXc a0 a1 a2)) (yL agg33 siz33)<|yd rfl (b false) (TOp.eqb (TOp.callB (CallAs.func ent91 rfl rfl) (Bors.cons (Bor.agg (bP (bP (bS bN)))) bN) rfl rfl (i_isSquare_ok a0 a1 a2 r1 hf1)) hc2)<|yl rfl (b true) y0<|ym rfl (b true)<|ROps.s rfl rfl rfl<|ROps.s rfl rfl rfl<|ROps.s rfl rfl rfl<|yl rfl (b true) yq<|zN ?_
  refine yT<|zQ<|yl rfl (agg zMx) (LOp.build (qs := []) zer33 zok33 und33 plc33 rfl trivial rfl)<|ys (agg zMx) zMx [⟨1, some zMx⟩, ⟨0, none⟩, ⟨0, none⟩, ⟨0, none⟩, ⟨0, none⟩, ⟨0, none⟩, ⟨0, none⟩] siz33<|ya rfl (b false)<|zN ?_
  refine RunC.nil_cell (l' := [i64 0, i64 0, oref 1 1 0 0]) (Γ' := [⟨1, some [i64 0, i64 0, oref 1 1 0 0]⟩, ⟨1, some (([] : List F).map f32)⟩, ⟨0, none⟩, ⟨0, none⟩, ⟨0, none⟩, ⟨0, none⟩, ⟨0, none⟩]) 0 2 1 rfl rfl rfl rfl rfl<|RunC.ret ?_
  have hq := oI h
  obtain ⟨hq0, hq⟩ := Prod.mk.inj hq
  obtain ⟨hq1, hq⟩ := Prod.mk.inj hq
  obtain ⟨hq2, hq⟩ := Prod.mk.inj hq
  subst q0
  subst q1
  subst q2
  subst q3
  exact yB (tup [agg [i64 0, i64 0, oref 1 1 0 (([] : List F).length)], b false]) [(1, 1)] (Res.eq (Res.two rfl (RV.cell agg33 siz33 rfl rfl rfl rfl) (RV.tmp rfl)) (by rw [(show ([] : List F).length = 0 from rfl)] <;> rfl)) (SelL.arr0 (f := f32) (fun _ => rfl) rfl trivial)
def w_FnFunctions_k2  : Option (Bool) :=
 some false
def w_FnFunctions_b5 (x3 : Int) (r4 : List F) (r10 : List F) (v11 : Int) : Option (LR (Int) (Unit) (Bool)) :=
 bsel (decide (v11 < x3)) (
  obind (at? r10 v11) fun (e12 : F) =>
  olet (fwiden e12) fun (x13 : F) =>
  obind (at? r4 v11) fun (e14 : F) =>
  olet (fwiden e14) fun (x15 : F) =>
  obind (w_r8Gap x13 x15) fun (r16 : F) =>
  bsel (flt .f64 (some 4562254508917369340) r16) (
   some (LR.ret false)) (
   olet (IntKind.i64.wrap (v11 + 1)) fun (x17 : Int) =>
   some (LR.next x17))) (
  some (LR.out ()))
def w_FnFunctions_s5 (x3 : Int) (r4 : List F) (r10 : List F) : (Int) → Option (LR (Int) (Unit) (Bool)) := fun s => w_FnFunctions_b5 x3 r4 r10 s
def w_FnFunctions_b6 (x3 : Int) (r4 : List F) (L19 : List F) (v21 : Int) : Option (LR ((List F) × Int) ((List F)) (Bool)) :=
 bsel (decide (v21 < x3)) (
  olet (IntKind.i64.wrap (v21 * x3)) fun (x22 : Int) =>
  olet (IntKind.i64.wrap (x22 + v21)) fun (x23 : Int) =>
  obind (at? r4 v21) fun (e24 : F) =>
  olet (fop .quo .f32 e24 (some 1073741824)) fun (x25 : F) =>
  obind (setAt? L19 x23 x25) fun (L26 : List F) =>
  olet (IntKind.i64.wrap (v21 + 1)) fun (x27 : Int) =>
  some (LR.next (L26, x27))) (
  some (LR.out L19))
def w_FnFunctions_s6 (x3 : Int) (r4 : List F) : ((List F) × Int) → Option (LR ((List F) × Int) ((List F)) (Bool)) := fun s => w_FnFunctions_b6 x3 r4 s.1 s.2
def w_FnFunctions_k12  : Option (Bool) :=
 some false
def w_FnFunctions_k16 (v77 : Int) : Option (LR (Int) (Unit) (Bool)) :=
 olet (IntKind.i64.wrap (v77 + 1)) fun (x90 : Int) =>
 some (LR.next x90)
def w_FnFunctions_b17 (x3 : Int) (L28 : List F) (l48 : List F) (v77 : Int) : Option (LR (Int) (Unit) (Bool)) :=
 olet (IntKind.i64.wrap (x3 * x3)) fun (x78 : Int) =>
 bsel (decide (v77 < x78)) (
  need (!decide (x3 = 0)) <|
  olet (v77.tmod x3) fun (x79 : Int) =>
  need (!decide (x3 = 0)) <|
  olet (IntKind.i64.wrap (v77.tdiv x3)) fun (x80 : Int) =>
  bsel (!decide (x79 = x80)) (
   obind (at? l48 v77) fun (e81 : F) =>
   bsel (!feq .f32 e81 (some 0)) (
    some (LR.ret false)) (
    w_FnFunctions_k16 v77)) (
   obind (at? L28 v77) fun (e82 : F) =>
   obind (i_ExpNumber e82) fun (r83 : F) =>
   olet (fwiden r83) fun (x84 : F) =>
   obind (at? l48 v77) fun (e85 : F) =>
   olet (fwiden e85) fun (x86 : F) =>
   obind (w_r8Gap x86 x84) fun (r87 : F) =>
   olet (fop .add .f64 (some 4607182418800017408) x84) fun (x88 : F) =>
   olet (fop .mul .f64 (some 4576918229304087675) x88) fun (x89 : F) =>
   bsel (flt .f64 x89 r87) (
    some (LR.ret false)) (
    w_FnFunctions_k16 v77))) (
  some (LR.out ()))
def w_FnFunctions_s17 (x3 : Int) (L28 : List F) (l48 : List F) : (Int) → Option (LR (Int) (Unit) (Bool)) := fun s => w_FnFunctions_b17 x3 L28 l48 s
def w_FnFunctions_k19  : Option (Bool) :=
 some false
def w_FnFunctions_b22 (r75 : List F) (r98 : List F) (v99 : Int) : Option (LR (Int) (Unit) (Bool)) :=
 bsel (decide (v99 < (r75.length : Int))) (
  obind (at? r98 v99) fun (e100 : F) =>
  olet (fwiden e100) fun (x101 : F) =>
  obind (at? r75 v99) fun (e102 : F) =>
  olet (fwiden e102) fun (x103 : F) =>
  obind (w_r8Gap x101 x103) fun (r104 : F) =>
  bsel (flt .f64 (some 4576918229304087675) r104) (
   some (LR.ret false)) (
   olet (IntKind.i64.wrap (v99 + 1)) fun (x105 : Int) =>
   some (LR.next x105))) (
  some (LR.out ()))
def w_FnFunctions_s22 (r75 : List F) (r98 : List F) : (Int) → Option (LR (Int) (Unit) (Bool)) := fun s => w_FnFunctions_b22 r75 r98 s
def w_FnFunctions_k22  : Option (Bool) :=
 some true
def w_FnFunctions_k21 (r75 : List F) (r98 : List F) : Option (Bool) :=
 obind (loopM (w_FnFunctions_s22 r75 r98) 0) fun z => osum z (fun _ => w_FnFunctions_k22) (fun r => some r)
def w_FnFunctions_k17 (r72 : Int) (r73 : Int) (r75 : List F) : Option (Bool) :=
 obind4 (i_WeighMatrices r72 r73 r75 r72 r73 r75 (some 1073741824) (some 1065353216)) fun (r91 : Int) (r92 : Int) (r93 : Bool) (r94 : List F) =>
 obind4 (i_PolarPart r91 r92 r94 20) fun (r95 : Int) (r96 : Int) (r97 : Bool) (r98 : List F) =>
 bsel r93 (
  bsel r97 (
   bsel (!decide ((r98.length : Int) = (r75.length : Int))) (
    w_FnFunctions_k19) (
    w_FnFunctions_k21 r75 r98)) (
   w_FnFunctions_k19)) (
  w_FnFunctions_k19)
def w_FnFunctions_k14 (x3 : Int) (L28 : List F) (l48 : List F) (r72 : Int) (r73 : Int) (r75 : List F) : Option (Bool) :=
 obind (loopM (w_FnFunctions_s17 x3 L28 l48) 0) fun z => osum z (fun e => w_FnFunctions_k17 r72 r73 r75) (fun r => some r)
def w_FnFunctions_k10 (x3 : Int) (L28 : List F) (l48 : List F) (w49 : Bool) (v68 : Int) (v69 : Int) (l70 : List F) (w71 : Bool) : Option (Bool) :=
 obind4 (i_UnitMatrix x3) fun (r72 : Int) (r73 : Int) (r74 : Bool) (r75 : List F) =>
 bsel w49 (
  bsel w71 (
   bsel r74 (
    obind (i_SameMatrix v68 v69 l70 r72 r73 r75) fun (r76 : Bool) =>
    bsel r76 (
     bsel (!decide ((l48.length : Int) = (r75.length : Int))) (
      w_FnFunctions_k12) (
      w_FnFunctions_k14 x3 L28 l48 r72 r73 r75)) (
     w_FnFunctions_k12)) (
    w_FnFunctions_k12)) (
   w_FnFunctions_k12)) (
  w_FnFunctions_k12)
def w_FnFunctions_k8 (x3 : Int) (L28 : List F) (v46 : Int) (v47 : Int) (l48 : List F) (w49 : Bool) : Option (Bool) :=
 olet (IntKind.i64.wrap (x3 * x3)) fun (x59 : Int) =>
 need (mkok 4 x59) <|
 obind (i_ExpMatrix x3 x3 (List.replicate x59.toNat (some 0)) 5) (fun z => osum z (fun y => obind4 (some y) fun (r60 : Int) (r61 : Int) (r62 : Bool) (r63 : List F) =>
  w_FnFunctions_k10 x3 L28 l48 w49 r60 r61 r63 r62) (fun y => obind4 (some y) fun (r64 : Int) (r65 : Int) (r66 : List F) (r67 : Bool) =>
  w_FnFunctions_k10 x3 L28 l48 w49 r64 r65 r66 r67))
def w_FnFunctions_k6 (x3 : Int) (L28 : List F) : Option (Bool) :=
 obind (i_ExpMatrix x3 x3 L28 12) (fun z => osum z (fun y => obind4 (some y) fun (r38 : Int) (r39 : Int) (r40 : Bool) (r41 : List F) =>
  w_FnFunctions_k8 x3 L28 r38 r39 r41 r40) (fun y => obind4 (some y) fun (r42 : Int) (r43 : Int) (r44 : List F) (r45 : Bool) =>
  w_FnFunctions_k8 x3 L28 r42 r43 r44 r45))
def w_FnFunctions_k5 (x3 : Int) (r4 : List F) : Option (Bool) :=
 olet (IntKind.i64.wrap (x3 * x3)) fun (x18 : Int) =>
 need (mkok 4 x18) <|
 obind (loopM (w_FnFunctions_s6 x3 r4) ((List.replicate x18.toNat (some 0)), 0)) fun z => osum z (fun e => w_FnFunctions_k6 x3 e) (fun r => some r)
def w_FnFunctions_k4 (x3 : Int) (r4 : List F) (r10 : List F) : Option (Bool) :=
 obind (loopM (w_FnFunctions_s5 x3 r4 r10) 0) fun z => osum z (fun e => w_FnFunctions_k5 x3 r4) (fun r => some r)
def w_FnFunctions (a0 : List Int) (a1 : List Int) : Option (Bool) :=
 obind (w_r8Long a0 a1) fun (r1 : Bool) =>
 bsel r1 (
  some true) (
  obind (w_r8At a1 40 4) fun (r2 : Int) =>
  olet (IntKind.i64.wrap (1 + r2)) fun (x3 : Int) =>
  obind (s_R8Vector a0 x3) fun (r4 : List F) =>
  obind4 (i_CompanionMatrix r4) fun (r5 : Int) (r6 : Int) (r7 : Bool) (r8 : List F) =>
  obind2 (i_SignsOf r5 r6 r8) fun (r9 : Bool) (r10 : List F) =>
  bsel r7 (
   bsel r9 (
    bsel (!decide ((r10.length : Int) = x3)) (
     w_FnFunctions_k2) (
     w_FnFunctions_k4 x3 r4 r10)) (
    w_FnFunctions_k2)) (
   w_FnFunctions_k2))
theorem w_FnFunctions_ok (a0 : List Int) (a1 : List Int) (q0 : Bool) (h : w_FnFunctions a0 a1 = some q0) : Ev Try.prog 5 [sl a0.length (a0.map (ik .u8)), sl a1.length (a1.map (ik .u8))] [] (b q0) [] := by
 refine yE Try.func5 5 465 0 [(0, sl a0.length (a0.map (ik .u8))), (1, sl a1.length (a1.map (ik .u8)))] [⟨0, none⟩, ⟨0, none⟩, ⟨0, none⟩, ⟨0, none⟩, ⟨0, none⟩] rfl ?_
 unfold w_FnFunctions at h
 refine zQ<|ya rfl (b false)<|zN ?_
 refine yS<|yS ?_
 obtain ⟨r1, hf1, h⟩ := oS h
 rcases oB h with ⟨hc2, h⟩ | ⟨hc2, h⟩
 ·refine yW<|ym rfl (sl a0.length (a0.map (ik .u8)))<|ym rfl (sl a1.length (a1.map (ik .u8)))<|yd rfl (b true) (TOp.eqb (yc ent31 rfl rfl (bS (bS bN)) (w_r8Long_ok a0 a1 r1 hf1)) hc2)<|zN ?_
  refine yT<|zQ<|ya rfl (b true)<|zN ?_
  refine RunC.ret ?_
  have hq := oI h
  subst q0
  exact bodyQ.pure (.inr rfl) rfl (Res.one rfl (RV.tmp rfl))
 ·refine yW<|ym rfl (sl a0.length (a0.map (ik .u8)))<|ym rfl (sl a1.length (a1.map (ik .u8)))<|yd rfl (b false) (TOp.eqb (yc ent31 rfl rfl (bS (bS bN)) (w_r8Long_ok a0 a1 r1 hf1)) hc2)<|zN ?_
  refine yF<|RunC.skip<|yS ?_
  obtain ⟨r2, hf3, h⟩ := oS h
  obtain ⟨x3, hx4, h⟩ := oL h
  refine yW<|ym rfl (sl a1.length (a1.map (ik .u8)))<|yd rfl (i64 r2) (yc ent32 rfl rfl (bS (bP bN0)) (w_r8At_ok a1 40 4 r2 hf3))<|yl rfl (i64 x3) (LOp.eqr (LOp.add rfl rfl rfl) (congrArg (ik .i64) hx4))<|ya rfl (i64 x3)<|zN ?_
  refine yS ?_
  obtain ⟨r4, hf5, h⟩ := oS h
  refine yW<|ym rfl (sl a0.length (a0.map (ik .u8)))<|ym rfl (i64 x3)<|yd rfl (sFc r4) (TOp.callS (CallAs.func ent33 rfl rfl) (ALes.cons aR (ALes.cons aR ALes.nil)) (lts_cons (lt_sl (fun _ => rfl)) (lts_cons rfl lts_nil)) (lt_sl (fun _ => rfl)) (s_R8Vector_ok a0 x3 r4 hf5) (Bor.own (f := f32) (fun _ => rfl) rfl rfl))<|ya rfl (sFc r4)<|zN ?_
  refine yS ?_
  obtain ⟨r5, r6, r7, r8, hf6, h⟩ := obind4_some h
  refine yW<|ym rfl (sFc r4)<|yd rfl (tup [agg (mXc r5 r6 r8), b r7]) (TOp.callS (CallAs.func ent34 rfl rfl) (ALes.cons aR ALes.nil) (lts_cons (lt_sl (fun _ => rfl)) lts_nil) (lt_tup (lts_cons (lt_agg (lts_cons rfl (lts_cons rfl (lts_cons (lt_sl (fun _ => rfl)) lts_nil)))) (lts_cons rfl lts_nil))) (i_CompanionMatrix_ok r4 r5 r6 r7 r8 hf6) (Bor.tup (Bors.cons (Bor.agg (bP (bP (Bors.cons (Bor.own (f := f32) (fun _ => rfl) rfl rfl) bN)))) bN0)))<|ym rfl (tup [agg (mXc r5 r6 r8), b r7])<|yl rfl (agg (mXc r5 r6 r8)) y3<|yl rfl (b r7) y3<|ye rfl (optr 0 1 0) [⟨1, some zMx⟩, ⟨0, none⟩, ⟨0, none⟩, ⟨0, none⟩, ⟨0, none⟩] (TOp.alloc_o (g := ⟨0, none⟩) 0 rfl zer33 zok33 rfl)<|ys (agg (mXc r5 r6 r8)) (mXc r5 r6 r8) [⟨1, some (mXc r5 r6 r8)⟩, ⟨0, none⟩, ⟨0, none⟩, ⟨0, none⟩, ⟨0, none⟩] siz33<|ya rfl (b r7)<|zN ?_
  refine yS ?_
  obtain ⟨r9, r10, hf7, h⟩ := obind2_some h
  refine yW<|yd rfl (agg (mXc r5 r6 r8)) (TOp.loadAgg_o rfl agg33 siz33 rfl rfl rfl rfl)<|yd rfl (tup [(sFc r10), b r9]) (TOp.callS (CallAs.func ent35 rfl rfl) (ALes.cons aR ALes.nil) (lts_cons (lt_agg (lts_cons rfl (lts_cons rfl (lts_cons (lt_sl (fun _ => rfl)) lts_nil)))) lts_nil) (lt_tup (lts_cons (lt_sl (fun _ => rfl)) (lts_cons rfl lts_nil))) (i_SignsOf_ok r5 r6 r8 r9 r10 hf7) (Bor.tup (Bors.cons (Bor.own (f := f32) (fun _ => rfl) rfl rfl) bN0)))<|ym rfl (tup [(sFc r10), b r9])<|yl rfl (sFc r10) y3<|yl rfl (b r9) y3<|ya rfl (sFc r10)<|ya rfl (b r9)<|zN ?_
  refine RunC.wl (τ' := [(5, i64 x3), (6, (sFc r4)), (8, b r7), (9, (sFc r10)), (10, b r9)]) (Γ' := [⟨1, none⟩, ⟨0, none⟩, ⟨0, none⟩, ⟨0, none⟩, ⟨0, none⟩]) ⟨aR, aR, aR, aR, aR, trivial⟩ ⟨⟨rfl, .inl rfl⟩, ⟨rfl, .inr rfl⟩, ⟨rfl, .inr rfl⟩, ⟨rfl, .inr rfl⟩, ⟨rfl, .inr rfl⟩, trivial⟩<|yS<|yS<|RunC.cutN (fun τ Γ => ( Le 465 τ Γ [(5, i64 x3), (6, (sFc r4)), (9, (sFc r10)), (57, b true)] [⟨1, none⟩, ⟨0, none⟩, ⟨0, none⟩, ⟨0, none⟩, ⟨0, none⟩] ∧ w_FnFunctions_k2 = some q0) ∨ ( Le 465 τ Γ [(5, i64 x3), (6, (sFc r4)), (9, (sFc r10)), (57, b false)] [⟨1, none⟩, ⟨0, none⟩, ⟨0, none⟩, ⟨0, none⟩, ⟨0, none⟩] ∧ w_FnFunctions_k4 x3 r4 r10 = some q0)) ?_ ?_
  ·rcases oB h with ⟨hc8, h⟩ | ⟨hc8, h⟩
   ·rcases oB h with ⟨hc9, h⟩ | ⟨hc9, h⟩
    ·rcases oB h with ⟨hc10, h⟩ | ⟨hc10, h⟩
     ·refine yW<|yl rfl (b true) (yv hc8)<|yl rfl (b false) y1<|ym rfl (b false)<|yl rfl (b true) (yv hc9)<|yl rfl (b false) y1<|yl rfl (b false) yp<|ym rfl (b false)<|ym rfl (sFc r10)<|yl rfl (i64 (r10.length : Int)) (LOp.len_sl und26 rfl rfl)<|ym rfl (i64 x3)<|yl rfl (b true) (LOp.eqb (LOp.neq rfl rfl rfl) hc10)<|yl rfl (b true) yp<|zN ?_
      exact .inl ⟨(Le.of ⟨aR, aR, aR, aR, trivial⟩ ⟨⟨rfl, .inl rfl⟩, ⟨rfl, .inr rfl⟩, ⟨rfl, .inr rfl⟩, ⟨rfl, .inr rfl⟩, ⟨rfl, .inr rfl⟩, trivial⟩), h⟩
     ·refine yW<|yl rfl (b true) (yv hc8)<|yl rfl (b false) y1<|ym rfl (b false)<|yl rfl (b true) (yv hc9)<|yl rfl (b false) y1<|yl rfl (b false) yp<|ym rfl (b false)<|ym rfl (sFc r10)<|yl rfl (i64 (r10.length : Int)) (LOp.len_sl und26 rfl rfl)<|ym rfl (i64 x3)<|yl rfl (b false) (LOp.eqb (LOp.neq rfl rfl rfl) hc10)<|yl rfl (b false) yp<|zN ?_
      exact .inr (⟨(Le.of ⟨aR, aR, aR, aR, trivial⟩ ⟨⟨rfl, .inl rfl⟩, ⟨rfl, .inr rfl⟩, ⟨rfl, .inr rfl⟩, ⟨rfl, .inr rfl⟩, ⟨rfl, .inr rfl⟩, trivial⟩), h⟩)
    ·refine yW<|yl rfl (b true) (yv hc8)<|yl rfl (b false) y1<|ym rfl (b false)<|yl rfl (b false) (yv hc9)<|yl rfl (b true) y0<|yl rfl (b true) yp<|ym rfl (b true)<|ROps.s rfl rfl rfl<|ROps.s rfl rfl rfl<|ROps.s rfl rfl rfl<|ROps.s rfl rfl rfl<|yl rfl (b true) yq<|zN ?_
     exact .inl ⟨(Le.of ⟨aR, aR, aR, aR, trivial⟩ ⟨⟨rfl, .inl rfl⟩, ⟨rfl, .inr rfl⟩, ⟨rfl, .inr rfl⟩, ⟨rfl, .inr rfl⟩, ⟨rfl, .inr rfl⟩, trivial⟩), h⟩
   ·refine yW<|yl rfl (b false) (yv hc8)<|yl rfl (b true) y0<|ym rfl (b true)<|ROps.s rfl rfl rfl<|ROps.s rfl rfl rfl<|yl rfl (b true) yq<|ym rfl (b true)<|ROps.s rfl rfl rfl<|ROps.s rfl rfl rfl<|ROps.s rfl rfl rfl<|ROps.s rfl rfl rfl<|yl rfl (b true) yq<|zN ?_
    exact .inl ⟨(Le.of ⟨aR, aR, aR, aR, trivial⟩ ⟨⟨rfl, .inl rfl⟩, ⟨rfl, .inr rfl⟩, ⟨rfl, .inr rfl⟩, ⟨rfl, .inr rfl⟩, ⟨rfl, .inr rfl⟩, trivial⟩), h⟩
  ·rintro τ23 Γ23 (⟨hw23, h⟩ | ⟨hw23, h⟩)
   ·refine RunC.le (τ' := [(5, i64 x3), (6, (sFc r4)), (9, (sFc r10)), (57, b true)]) (Γ' := [⟨1, none⟩, ⟨0, none⟩, ⟨0, none⟩, ⟨0, none⟩, ⟨0, none⟩]) hw23 ?_
    unfold w_FnFunctions_k2 at h
    refine yT<|zQ<|ya rfl (b false)<|zN ?_
    refine RunC.ret ?_
    have hq := oI h
    subst q0
    exact bodyQ.pure (.inr rfl) rfl (Res.one rfl (RV.tmp rfl))
   ·refine RunC.le (τ' := [(5, i64 x3), (6, (sFc r4)), (9, (sFc r10)), (57, b false)]) (Γ' := [⟨1, none⟩, ⟨0, none⟩, ⟨0, none⟩, ⟨0, none⟩, ⟨0, none⟩]) hw23 ?_
    unfold w_FnFunctions_k4 at h
    refine yF<|RunC.skip<|yS<|zQ<|ya rfl (i64 0)<|zN ?_
    obtain ⟨z24, hz_24, h⟩ := oS h
    refine RunC.cutN (fun τ Γ => Le 465 τ Γ [(5, i64 x3), (6, (sFc r4))] [⟨1, none⟩, ⟨0, none⟩, ⟨0, none⟩, ⟨0, none⟩, ⟨0, none⟩] ∧ z24 = .inl ()) ?_ ?_
    ·refine RunC.block (RunC.loop (RunL.loopM (x := z24) (w_FnFunctions_s5 x3 r4 r10) (fun (s : Int) τ Γ => Le 465 τ Γ [(5, i64 x3), (6, (sFc r4)), (9, (sFc r10)), (11, i64 s)] [⟨1, none⟩, ⟨0, none⟩, ⟨0, none⟩, ⟨0, none⟩, ⟨0, none⟩]) ?_ _ _ _ hz_24 (Le.of ⟨aR, aR, aR, aR, trivial⟩ ⟨⟨rfl, .inl rfl⟩, ⟨rfl, .inr rfl⟩, ⟨rfl, .inr rfl⟩, ⟨rfl, .inr rfl⟩, ⟨rfl, .inr rfl⟩, trivial⟩)))
     rintro v11 τ24 Γ24 y24_ hw24 h24_ ho24 hr24
     refine RunC.le (τ' := [(5, i64 x3), (6, (sFc r4)), (9, (sFc r10)), (11, i64 v11)]) (Γ' := [⟨1, none⟩, ⟨0, none⟩, ⟨0, none⟩, ⟨0, none⟩, ⟨0, none⟩]) hw24 ?_
     replace h24_ : w_FnFunctions_b5 x3 r4 r10 v11 = some y24_ := h24_
     unfold w_FnFunctions_b5 at h24_
     refine yS<|yS ?_
     rcases oB h24_ with ⟨hc11, h24_⟩ | ⟨hc11, h24_⟩
     ·refine yW<|ym rfl (i64 v11)<|ym rfl (i64 x3)<|yl rfl (b true) (LOp.eqb (LOp.lss rfl rfl rfl) hc11)<|zN ?_
      refine yT<|RunC.skip<|yS<|RunC.block<|yS ?_
      obtain ⟨e12, he12, h24_⟩ := oS h24_
      obtain ⟨x13, hx13, h24_⟩ := oL h24_
      obtain ⟨e14, he14, h24_⟩ := oS h24_
      obtain ⟨x15, hx15, h24_⟩ := oL h24_
      obtain ⟨r16, hf16, h24_⟩ := oS h24_
      rcases oB h24_ with ⟨hc17, h24_⟩ | ⟨hc17, h24_⟩
      ·refine RunC.region_draw (Γ' := [⟨1, none⟩, ⟨0, none⟩, ⟨0, none⟩, ⟨0, none⟩, ⟨0, none⟩]) 12 mixed 
        (tm rfl (sFc r10) <|
        (tm rfl (i64 v11) <|
        (tl rfl (ptr [f32 e12]) (LOp.le (LOp.ix (f := f32) und26 siz28 rfl rfl rfl rfl he12) ALe.ptr) <|
        (tl rfl (f32 e12) (y2 agg28) <|
        (TR.d (r := f64 x13) (fs := []) rfl rfl (TOp.eqr (TOp.widen (src := 28) (dst := 40) ⟨_, pun28⟩ pun40 rfl (OpF.tmp rfl)) (congrArg (f .f64) hx13)) <|
        (tm rfl (sFc r4) <|
        (tm rfl (i64 v11) <|
        (tl rfl (ptr [f32 e14]) (LOp.le (LOp.ix (f := f32) und26 siz28 rfl rfl rfl rfl he14) ALe.ptr) <|
        (tl rfl (f32 e14) (y2 agg28) <|
        (TR.d (r := f64 x15) (fs := []) rfl rfl (TOp.eqr (TOp.widen (src := 28) (dst := 40) ⟨_, pun28⟩ pun40 rfl (OpF.tmp rfl)) (congrArg (f .f64) hx15)) <|
        (TR.d (r := f64 r16) (fs := []) rfl rfl (yc ent36 rfl rfl (bP bN0) (w_r8Gap_ok x13 x15 r16 hf16)) <|
        (tl rfl (b true) (LOp.eqb (LOp.fgt rfl (OpF.tmp rfl) (OpF.const rfl (by kernel_rfl) (by kernel_rfl))) hc17) <|
        TR.nil)))))))))))) rfl (by kernel_rfl) rfl fills_nil rfl ?_
       iterate 12 refine ROps.dropS ?_
       refine ROps.drop0<|zN ?_
       refine yT<|zQ<|ya rfl (b false)<|zN ?_
       refine RunC.ret ?_
       cases oI h24_
       have hx25_ := hr24 _ rfl
       subst hx25_
       have hq := oI h
       subst q0
       exact bodyQ.pure (.inr rfl) rfl (Res.one rfl (RV.tmp rfl))
      ·refine RunC.region_draw (Γ' := [⟨1, none⟩, ⟨0, none⟩, ⟨0, none⟩, ⟨0, none⟩, ⟨0, none⟩]) 12 mixed 
        (tm rfl (sFc r10) <|
        (tm rfl (i64 v11) <|
        (tl rfl (ptr [f32 e12]) (LOp.le (LOp.ix (f := f32) und26 siz28 rfl rfl rfl rfl he12) ALe.ptr) <|
        (tl rfl (f32 e12) (y2 agg28) <|
        (TR.d (r := f64 x13) (fs := []) rfl rfl (TOp.eqr (TOp.widen (src := 28) (dst := 40) ⟨_, pun28⟩ pun40 rfl (OpF.tmp rfl)) (congrArg (f .f64) hx13)) <|
        (tm rfl (sFc r4) <|
        (tm rfl (i64 v11) <|
        (tl rfl (ptr [f32 e14]) (LOp.le (LOp.ix (f := f32) und26 siz28 rfl rfl rfl rfl he14) ALe.ptr) <|
        (tl rfl (f32 e14) (y2 agg28) <|
        (TR.d (r := f64 x15) (fs := []) rfl rfl (TOp.eqr (TOp.widen (src := 28) (dst := 40) ⟨_, pun28⟩ pun40 rfl (OpF.tmp rfl)) (congrArg (f .f64) hx15)) <|
        (TR.d (r := f64 r16) (fs := []) rfl rfl (yc ent36 rfl rfl (bP bN0) (w_r8Gap_ok x13 x15 r16 hf16)) <|
        (tl rfl (b false) (LOp.eqb (LOp.fgt rfl (OpF.tmp rfl) (OpF.const rfl (by kernel_rfl) (by kernel_rfl))) hc17) <|
        TR.nil)))))))))))) rfl (by kernel_rfl) rfl fills_nil rfl ?_
       iterate 12 refine ROps.dropS ?_
       refine ROps.drop0<|zN ?_
       refine yF<|RunC.skip ?_
       obtain ⟨x17, hx18, h24_⟩ := oL h24_
       refine yW<|ym rfl (i64 v11)<|yl rfl (i64 x17) (LOp.eqr (LOp.add rfl rfl rfl) (congrArg (ik .i64) hx18))<|ya rfl (i64 x17)<|zN ?_
       cases oI h24_
       exact ⟨_, rfl, (Le.of ⟨aR, aR, aR, aR, trivial⟩ ⟨⟨rfl, .inl rfl⟩, ⟨rfl, .inr rfl⟩, ⟨rfl, .inr rfl⟩, ⟨rfl, .inr rfl⟩, ⟨rfl, .inr rfl⟩, trivial⟩)⟩
     ·refine yW<|ym rfl (i64 v11)<|ym rfl (i64 x3)<|yl rfl (b false) (LOp.eqb (LOp.lss rfl rfl rfl) hc11)<|zN ?_
      refine yF<|RunC.exit ?_
      cases oI h24_
      have hx := ho24 _ rfl
      exact ⟨(Le.of ⟨aR, aR, trivial⟩ ⟨⟨rfl, .inl rfl⟩, ⟨rfl, .inr rfl⟩, ⟨rfl, .inr rfl⟩, ⟨rfl, .inr rfl⟩, ⟨rfl, .inr rfl⟩, trivial⟩), hx⟩
    ·rintro τ26 Γ26 ⟨hw26, rfl⟩
     refine RunC.le hw26 ?_
     replace h : w_FnFunctions_k5 x3 r4 = some q0 := h
     unfold w_FnFunctions_k5 at h
     refine yS ?_
     obtain ⟨x18, hx19, h⟩ := oL h
     obtain ⟨hm20, h⟩ := need_some h
     refine yW<|ym rfl (i64 x3)<|ym rfl (i64 x3)<|ym rfl (i64 x3)<|ym rfl (i64 x3)<|yl rfl (i64 x18) (LOp.eqr (LOp.mul rfl rfl rfl) (congrArg (ik .i64) hx19))<|ye rfl (oref 0 2 0 x18.toNat) [⟨2, some ((List.replicate x18.toNat (some 0)).map f32)⟩, ⟨0, none⟩, ⟨0, none⟩, ⟨0, none⟩, ⟨0, none⟩] (TOp.mkS (g := ⟨1, none⟩) (t := 26) (e := 28) (by_ := 4) (f := f32) (zv := some 0) 0 rfl und26 tin28 rfl siz28 zer28 rfl zel28 rfl rfl rfl hm20)<|yl rfl (agg [i64 x3, i64 x3, oref 0 2 0 x18.toNat]) (LOp.build (qs := [(0, [i64 x3]), (1, [i64 x3]), (2, [oref 0 2 0 x18.toNat])]) zer33 zok33 und33 plc33 rfl ⟨rfl, ⟨_, ALe.refl _, rfl⟩, ⟨rfl, ⟨_, ALe.refl _, rfl⟩, ⟨rfl, ⟨_, ALe.refl _, rfl⟩, trivial⟩⟩⟩ rfl)<|ye rfl (optr 1 1 0) [⟨2, some ((List.replicate x18.toNat (some 0)).map f32)⟩, ⟨1, some zMx⟩, ⟨0, none⟩, ⟨0, none⟩, ⟨0, none⟩] (TOp.alloc_o (g := ⟨0, none⟩) 1 rfl zer33 zok33 rfl)<|ys (agg [i64 x3, i64 x3, oref 0 2 0 x18.toNat]) [i64 x3, i64 x3, oref 0 2 0 x18.toNat] ([⟨2, some ((List.replicate x18.toNat (some 0)).map f32)⟩, ⟨1, some [i64 x3, i64 x3, oref 0 2 0 x18.toNat]⟩, ⟨0, none⟩, ⟨0, none⟩, ⟨0, none⟩]) siz33<|zN ?_
     refine yS<|zQ<|ya rfl (i64 0)<|zN ?_
     obtain ⟨z27, hz_27, h⟩ := oS h
     refine RunC.cutN (fun τ Γ => ∃ (L28 : List F), L28.length = x18.toNat ∧ Le 465 τ Γ [(5, i64 x3), (12, optr 1 1 0)] [⟨2, some (L28.map f32)⟩, ⟨1, some [i64 x3, i64 x3, oref 0 2 0 x18.toNat]⟩, ⟨0, none⟩, ⟨0, none⟩, ⟨0, none⟩] ∧ z27 = .inl L28) ?_ ?_
     ·refine RunC.block (RunC.loop (RunL.loopM (x := z27) (w_FnFunctions_s6 x3 r4) (fun (s : (List F) × Int) τ Γ => s.1.length = x18.toNat ∧ Le 465 τ Γ [(5, i64 x3), (6, (sFc r4)), (12, optr 1 1 0), (13, i64 s.2)] [⟨2, some (s.1.map f32)⟩, ⟨1, some [i64 x3, i64 x3, oref 0 2 0 x18.toNat]⟩, ⟨0, none⟩, ⟨0, none⟩, ⟨0, none⟩]) ?_ _ _ _ hz_27 ⟨List.length_replicate, (Le.of ⟨aR, aR, aR, aR, trivial⟩ ⟨⟨rfl, .inr rfl⟩, ⟨rfl, .inr rfl⟩, ⟨rfl, .inr rfl⟩, ⟨rfl, .inr rfl⟩, ⟨rfl, .inr rfl⟩, trivial⟩)⟩))
      rintro ⟨L19, v21⟩ τ27 Γ27 y27_ ⟨hl20, hw27⟩ h27_ ho27 hr27
      refine RunC.le (τ' := [(5, i64 x3), (6, (sFc r4)), (12, optr 1 1 0), (13, i64 v21)]) (Γ' := [⟨2, some (L19.map f32)⟩, ⟨1, some [i64 x3, i64 x3, oref 0 2 0 x18.toNat]⟩, ⟨0, none⟩, ⟨0, none⟩, ⟨0, none⟩]) hw27 ?_
      replace hl20 : L19.length = x18.toNat := hl20
      replace h27_ : w_FnFunctions_b6 x3 r4 L19 v21 = some y27_ := h27_
      unfold w_FnFunctions_b6 at h27_
      refine yS<|yS ?_
      rcases oB h27_ with ⟨hc21, h27_⟩ | ⟨hc21, h27_⟩
      ·refine yW<|ym rfl (i64 v21)<|ym rfl (i64 x3)<|yl rfl (b true) (LOp.eqb (LOp.lss rfl rfl rfl) hc21)<|zN ?_
       refine yT<|RunC.skip<|yS<|RunC.block ?_
       obtain ⟨x22, hx22, h27_⟩ := oL h27_
       obtain ⟨x23, hx23, h27_⟩ := oL h27_
       obtain ⟨e24, he24, h27_⟩ := oS h27_
       obtain ⟨x25, hx25, h27_⟩ := oL h27_
       obtain ⟨L26, he26, h27_⟩ := oS h27_
       refine RunC.region_draw (Γ' := [⟨2, some (L19.map f32)⟩, ⟨1, some [i64 x3, i64 x3, oref 0 2 0 x18.toNat]⟩, ⟨0, none⟩, ⟨0, none⟩, ⟨0, none⟩]) 13 mixed 
        (tl rfl (optr 1 1 2) (LOp.fao und33 rfl siz26 rfl rfl rfl) <|
        (TR.d (r := oref 0 2 0 x18.toNat) (fs := []) rfl rfl (TOp.load1_o rfl rfl agg26 rfl rfl) <|
        (tm rfl (i64 v21) <|
        (tm rfl (i64 x3) <|
        (tl rfl (i64 x22) (LOp.eqr (LOp.mul rfl rfl rfl) (congrArg (ik .i64) hx22)) <|
        (tm rfl (i64 v21) <|
        (tl rfl (i64 x23) (LOp.eqr (LOp.add rfl rfl rfl) (congrArg (ik .i64) hx23)) <|
        (tm rfl (sFc r4) <|
        (tm rfl (i64 v21) <|
        (tl rfl (ptr [f32 e24]) (LOp.le (LOp.ix (f := f32) und26 siz28 rfl rfl rfl rfl he24) ALe.ptr) <|
        (tl rfl (f32 e24) (y2 agg28) <|
        (TR.d (r := f32 x25) (fs := []) rfl rfl (TOp.eqr (TOp.fop (.inr (.inr (.inr rfl))) rfl (OpF.tmp rfl) (OpF.const rfl (by kernel_rfl) (by kernel_rfl))) (congrArg (f .f32) hx25)) <|
        (TR.d (r := optr 0 2 x23.toNat) (fs := []) rfl rfl (TOp.ixo und26 siz28 rfl rfl rfl (set_in he26 hl20) rfl) <|
        TR.nil))))))))))))) rfl (by kernel_rfl) rfl fills_nil rfl ?_
       iterate 13 refine ROps.dropS ?_
       refine ROps.drop0<|ROps.st (f := f32) (i := x23) (Γ' := [⟨2, some (L26.map f32)⟩, ⟨1, some [i64 x3, i64 x3, oref 0 2 0 x18.toNat]⟩, ⟨0, none⟩, ⟨0, none⟩, ⟨0, none⟩]) rfl siz28 rfl rfl rfl aR rfl rfl rfl he26 rfl<|zN ?_
       obtain ⟨x27, hx27, h27_⟩ := oL h27_
       refine yW<|ym rfl (i64 v21)<|yl rfl (i64 x27) (LOp.eqr (LOp.add rfl rfl rfl) (congrArg (ik .i64) hx27))<|ya rfl (i64 x27)<|zN ?_
       cases oI h27_
       exact ⟨_, rfl, ((setAt?_len he26).trans hl20), (Le.of ⟨aR, aR, aR, aR, trivial⟩ ⟨⟨rfl, .inr rfl⟩, ⟨rfl, .inr rfl⟩, ⟨rfl, .inr rfl⟩, ⟨rfl, .inr rfl⟩, ⟨rfl, .inr rfl⟩, trivial⟩)⟩
      ·refine yW<|ym rfl (i64 v21)<|ym rfl (i64 x3)<|yl rfl (b false) (LOp.eqb (LOp.lss rfl rfl rfl) hc21)<|zN ?_
       refine yF<|RunC.exit ?_
       cases oI h27_
       have hx := ho27 _ rfl
       exact ⟨L19, hl20, (Le.of ⟨aR, aR, trivial⟩ ⟨⟨rfl, .inr rfl⟩, ⟨rfl, .inr rfl⟩, ⟨rfl, .inr rfl⟩, ⟨rfl, .inr rfl⟩, ⟨rfl, .inr rfl⟩, trivial⟩), hx⟩
     ·rintro τ28 Γ28 ⟨L28, hl29, hw28, rfl⟩
      refine RunC.le hw28 ?_
      replace h : w_FnFunctions_k6 x3 L28 = some q0 := h
      unfold w_FnFunctions_k6 at h
      refine yS<|RunC.cutN (fun τ Γ => ∃ (v46 : Int) (v47 : Int) (l48 : List F) (w49 : Bool), Le 465 τ Γ [(5, i64 x3), (12, optr 1 1 0), (14, optr 0 3 0), (15, b w49)] [⟨3, some (mXc v46 v47 l48)⟩, ⟨1, some (mXc x3 x3 L28)⟩, ⟨0, none⟩, ⟨0, none⟩, ⟨0, none⟩] ∧ w_FnFunctions_k8 x3 L28 v46 v47 l48 w49 = some q0) ?_ ?_
      ·refine RunC.le (τ' := [(5, i64 x3), (12, optr 1 1 0)]) (Γ' := [⟨2, none⟩, ⟨1, some (mXc x3 x3 L28)⟩, ⟨0, none⟩, ⟨0, none⟩, ⟨0, none⟩]) (Le.trans (Le.settleG 0 [(5, i64 x3), (12, optr 1 1 0)] [⟨2, none⟩, ⟨1, some (mXc x3 x3 L28)⟩, ⟨0, none⟩, ⟨0, none⟩, ⟨0, none⟩] rfl rfl rfl ⟨.inr ⟨rfl, .inl rfl⟩, ⟨.inr ⟨rfl, .inr ⟨_, _, rfl, rfl, ⟨.inl rfl, .inl rfl, .inr (Bor.own (f := f32) (fun _ => rfl) rfl hl29), trivial⟩⟩⟩, ⟨.inl rfl, ⟨.inl rfl, ⟨.inl rfl, trivial⟩⟩⟩⟩⟩ ⟨.inl rfl, .inl rfl, trivial⟩) (Le.of ⟨aR, aR, trivial⟩ ⟨⟨rfl, .inl rfl⟩, ⟨rfl, .inr rfl⟩, ⟨rfl, .inr rfl⟩, ⟨rfl, .inr rfl⟩, ⟨rfl, .inr rfl⟩, trivial⟩)) ?_
       obtain ⟨z29, hf29, h⟩ := oS h
       rcases z29 with z29 | z29
       ·replace h := (osum_inl _ _ _).symm.trans h
        obtain ⟨r38, r39, r40, r41, hz30, h⟩ := obind4_some h
        cases hz30
        refine yW<|yd rfl (agg (mXc x3 x3 L28)) (TOp.loadAgg_o rfl agg33 siz33 rfl rfl rfl rfl)<|yd rfl (tup [agg (mXc r38 r39 r41), b r40]) (TOp.callS (CallAs.func ent37 rfl rfl) (ALes.cons aR (ALes.cons aR ALes.nil)) (lts_cons (lt_agg (lts_cons rfl (lts_cons rfl (lts_cons (lt_sl (fun _ => rfl)) lts_nil)))) (lts_cons rfl lts_nil)) (lt_tup (lts_cons (lt_agg (lts_cons rfl (lts_cons rfl (lts_cons (lt_sl (fun _ => rfl)) lts_nil)))) (lts_cons rfl lts_nil))) (i_ExpMatrix_ok0 x3 x3 L28 12 r38 r39 r40 r41 hf29) (Bor.tup (Bors.cons (Bor.agg (bP (bP (Bors.cons (Bor.own (f := f32) (fun _ => rfl) rfl rfl) bN)))) bN0)))<|ym rfl (tup [agg (mXc r38 r39 r41), b r40])<|yl rfl (agg (mXc r38 r39 r41)) y3<|yl rfl (b r40) y3<|ye rfl (optr 0 3 0) [⟨3, some zMx⟩, ⟨1, some (mXc x3 x3 L28)⟩, ⟨0, none⟩, ⟨0, none⟩, ⟨0, none⟩] (TOp.alloc_o (g := ⟨2, none⟩) 0 rfl zer33 zok33 rfl)<|ys (agg (mXc r38 r39 r41)) (mXc r38 r39 r41) [⟨3, some (mXc r38 r39 r41)⟩, ⟨1, some (mXc x3 x3 L28)⟩, ⟨0, none⟩, ⟨0, none⟩, ⟨0, none⟩] siz33<|ya rfl (b r40)<|zN ?_
        exact ⟨r38, r39, r41, r40, (Le.of ⟨aR, aR, aR, aR, trivial⟩ ⟨⟨rfl, .inr rfl⟩, ⟨rfl, .inr rfl⟩, ⟨rfl, .inr rfl⟩, ⟨rfl, .inr rfl⟩, ⟨rfl, .inr rfl⟩, trivial⟩), h⟩
       ·replace h := (osum_inr _ _ _).symm.trans h
        obtain ⟨r42, r43, r44, r45, hz31, h⟩ := obind4_some h
        cases hz31
        refine yW<|yd rfl (agg (mXc x3 x3 L28)) (TOp.loadAgg_o rfl agg33 siz33 rfl rfl rfl rfl)<|yd rfl (tup [agg (mXc r42 r43 r44), b r45]) (TOp.call (CallAs.le (CallAs.func ent37 rfl rfl) (ALes.cons aR (ALes.cons aR ALes.nil))) (lts_cons (lt_agg (lts_cons rfl (lts_cons rfl (lts_cons (lt_sl (fun _ => rfl)) lts_nil)))) (lts_cons rfl lts_nil)) (lt_tup (lts_cons (lt_agg (lts_cons rfl (lts_cons rfl (lts_cons (lt_sl (fun _ => rfl)) lts_nil)))) (lts_cons rfl lts_nil))) (i_ExpMatrix_ok1 x3 x3 L28 12 r42 r43 r44 r45 hf29))<|ym rfl (tup [agg (mXc r42 r43 r44), b r45])<|yl rfl (agg (mXc r42 r43 r44)) y3<|yl rfl (b r45) y3<|ye rfl (optr 0 3 0) [⟨3, some zMx⟩, ⟨1, some (mXc x3 x3 L28)⟩, ⟨0, none⟩, ⟨0, none⟩, ⟨0, none⟩] (TOp.alloc_o (g := ⟨2, none⟩) 0 rfl zer33 zok33 rfl)<|ys (agg (mXc r42 r43 r44)) (mXc r42 r43 r44) [⟨3, some (mXc r42 r43 r44)⟩, ⟨1, some (mXc x3 x3 L28)⟩, ⟨0, none⟩, ⟨0, none⟩, ⟨0, none⟩] siz33<|ya rfl (b r45)<|zN ?_
        exact ⟨r42, r43, r44, r45, (Le.of ⟨aR, aR, aR, aR, trivial⟩ ⟨⟨rfl, .inr rfl⟩, ⟨rfl, .inr rfl⟩, ⟨rfl, .inr rfl⟩, ⟨rfl, .inr rfl⟩, ⟨rfl, .inr rfl⟩, trivial⟩), h⟩
      ·rintro τ32 Γ32 ⟨v46, v47, l48, w49, hw32, h⟩
       refine RunC.le hw32 ?_
       unfold w_FnFunctions_k8 at h
       refine yS<|RunC.cutN (fun τ Γ => ∃ (v68 : Int) (v69 : Int) (l70 : List F) (w71 : Bool), Le 465 τ Γ [(5, i64 x3), (12, optr 1 1 0), (14, optr 0 3 0), (15, b w49), (16, optr 2 1 0), (17, b w71)] [⟨3, some (mXc v46 v47 l48)⟩, ⟨1, some (mXc x3 x3 L28)⟩, ⟨1, some (mXc v68 v69 l70)⟩, ⟨0, none⟩, ⟨0, none⟩] ∧ w_FnFunctions_k10 x3 L28 l48 w49 v68 v69 l70 w71 = some q0) ?_ ?_
       ·obtain ⟨x59, hx33, h⟩ := oL h
        obtain ⟨hm34, h⟩ := need_some h
        obtain ⟨z33, hf35, h⟩ := oS h
        rcases z33 with z33 | z33
        ·replace h := (osum_inl _ _ _).symm.trans h
         obtain ⟨r60, r61, r62, r63, hz34, h⟩ := obind4_some h
         cases hz34
         refine yW<|ym rfl (i64 x3)<|ym rfl (i64 x3)<|ym rfl (i64 x3)<|ym rfl (i64 x3)<|yl rfl (i64 x59) (LOp.eqr (LOp.mul rfl rfl rfl) (congrArg (ik .i64) hx33))<|yd rfl (sl (List.replicate x59.toNat (some 0)).length ((List.replicate x59.toNat (some 0)).map f32)) (TOp.mkSS (t := 26) (e := 28) (by_ := 4) (f := f32) (zv := some 0) und26 tin28 rfl siz28 zer28 rfl zel28 rfl rfl rfl hm34)<|yl rfl (agg [i64 x3, i64 x3, sl (List.replicate x59.toNat (some 0)).length ((List.replicate x59.toNat (some 0)).map f32)]) (LOp.build (qs := [(0, [i64 x3]), (1, [i64 x3]), (2, [sl (List.replicate x59.toNat (some 0)).length ((List.replicate x59.toNat (some 0)).map f32)])]) zer33 zok33 und33 plc33 rfl ⟨rfl, ⟨_, ALe.refl _, rfl⟩, ⟨rfl, ⟨_, ALe.refl _, rfl⟩, ⟨rfl, ⟨_, ALe.refl _, rfl⟩, trivial⟩⟩⟩ rfl)<|yd rfl (tup [agg (mXc r60 r61 r63), b r62]) (TOp.callS (CallAs.func ent37 rfl rfl) (ALes.cons aR (ALes.cons aR ALes.nil)) (lts_cons (lt_agg (lts_cons rfl (lts_cons rfl (lts_cons (lt_sl (fun _ => rfl)) lts_nil)))) (lts_cons rfl lts_nil)) (lt_tup (lts_cons (lt_agg (lts_cons rfl (lts_cons rfl (lts_cons (lt_sl (fun _ => rfl)) lts_nil)))) (lts_cons rfl lts_nil))) (i_ExpMatrix_ok0 x3 x3 (List.replicate x59.toNat (some 0)) 5 r60 r61 r62 r63 hf35) (Bor.tup (Bors.cons (Bor.agg (bP (bP (Bors.cons (Bor.own (f := f32) (fun _ => rfl) rfl rfl) bN)))) bN0)))<|ym rfl (tup [agg (mXc r60 r61 r63), b r62])<|yl rfl (agg (mXc r60 r61 r63)) y3<|yl rfl (b r62) y3<|ye rfl (optr 2 1 0) [⟨3, some (mXc v46 v47 l48)⟩, ⟨1, some (mXc x3 x3 L28)⟩, ⟨1, some zMx⟩, ⟨0, none⟩, ⟨0, none⟩] (TOp.alloc_o (g := ⟨0, none⟩) 2 rfl zer33 zok33 rfl)<|ys (agg (mXc r60 r61 r63)) (mXc r60 r61 r63) [⟨3, some (mXc v46 v47 l48)⟩, ⟨1, some (mXc x3 x3 L28)⟩, ⟨1, some (mXc r60 r61 r63)⟩, ⟨0, none⟩, ⟨0, none⟩] siz33<|ya rfl (b r62)<|zN ?_
         exact ⟨r60, r61, r63, r62, (Le.of ⟨aR, aR, aR, aR, aR, aR, trivial⟩ ⟨⟨rfl, .inr rfl⟩, ⟨rfl, .inr rfl⟩, ⟨rfl, .inr rfl⟩, ⟨rfl, .inr rfl⟩, ⟨rfl, .inr rfl⟩, trivial⟩), h⟩
        ·replace h := (osum_inr _ _ _).symm.trans h
         obtain ⟨r64, r65, r66, r67, hz35, h⟩ := obind4_some h
         cases hz35
         refine yW<|ym rfl (i64 x3)<|ym rfl (i64 x3)<|ym rfl (i64 x3)<|ym rfl (i64 x3)<|yl rfl (i64 x59) (LOp.eqr (LOp.mul rfl rfl rfl) (congrArg (ik .i64) hx33))<|yd rfl (sl (List.replicate x59.toNat (some 0)).length ((List.replicate x59.toNat (some 0)).map f32)) (TOp.mkSS (t := 26) (e := 28) (by_ := 4) (f := f32) (zv := some 0) und26 tin28 rfl siz28 zer28 rfl zel28 rfl rfl rfl hm34)<|yl rfl (agg [i64 x3, i64 x3, sl (List.replicate x59.toNat (some 0)).length ((List.replicate x59.toNat (some 0)).map f32)]) (LOp.build (qs := [(0, [i64 x3]), (1, [i64 x3]), (2, [sl (List.replicate x59.toNat (some 0)).length ((List.replicate x59.toNat (some 0)).map f32)])]) zer33 zok33 und33 plc33 rfl ⟨rfl, ⟨_, ALe.refl _, rfl⟩, ⟨rfl, ⟨_, ALe.refl _, rfl⟩, ⟨rfl, ⟨_, ALe.refl _, rfl⟩, trivial⟩⟩⟩ rfl)<|yd rfl (tup [agg (mXc r64 r65 r66), b r67]) (TOp.call (CallAs.le (CallAs.func ent37 rfl rfl) (ALes.cons aR (ALes.cons aR ALes.nil))) (lts_cons (lt_agg (lts_cons rfl (lts_cons rfl (lts_cons (lt_sl (fun _ => rfl)) lts_nil)))) (lts_cons rfl lts_nil)) (lt_tup (lts_cons (lt_agg (lts_cons rfl (lts_cons rfl (lts_cons (lt_sl (fun _ => rfl)) lts_nil)))) (lts_cons rfl lts_nil))) (i_ExpMatrix_ok1 x3 x3 (List.replicate x59.toNat (some 0)) 5 r64 r65 r66 r67 hf35))<|ym rfl (tup [agg (mXc r64 r65 r66), b r67])<|yl rfl (agg (mXc r64 r65 r66)) y3<|yl rfl (b r67) y3<|ye rfl (optr 2 1 0) [⟨3, some (mXc v46 v47 l48)⟩, ⟨1, some (mXc x3 x3 L28)⟩, ⟨1, some zMx⟩, ⟨0, none⟩, ⟨0, none⟩] (TOp.alloc_o (g := ⟨0, none⟩) 2 rfl zer33 zok33 rfl)<|ys (agg (mXc r64 r65 r66)) (mXc r64 r65 r66) [⟨3, some (mXc v46 v47 l48)⟩, ⟨1, some (mXc x3 x3 L28)⟩, ⟨1, some (mXc r64 r65 r66)⟩, ⟨0, none⟩, ⟨0, none⟩] siz33<|ya rfl (b r67)<|zN ?_
         exact ⟨r64, r65, r66, r67, (Le.of ⟨aR, aR, aR, aR, aR, aR, trivial⟩ ⟨⟨rfl, .inr rfl⟩, ⟨rfl, .inr rfl⟩, ⟨rfl, .inr rfl⟩, ⟨rfl, .inr rfl⟩, ⟨rfl, .inr rfl⟩, trivial⟩), h⟩
       ·rintro τ36 Γ36 ⟨v68, v69, l70, w71, hw36, h⟩
        refine RunC.le hw36 ?_
        unfold w_FnFunctions_k10 at h
        refine yS ?_
        obtain ⟨r72, r73, r74, r75, hf36, h⟩ := obind4_some h
        refine yW<|ym rfl (i64 x3)<|yd rfl (tup [agg (mXc r72 r73 r75), b r74]) (TOp.callS (CallAs.func ent38 rfl rfl) (ALes.cons aR ALes.nil) (lts_cons rfl lts_nil) (lt_tup (lts_cons (lt_agg (lts_cons rfl (lts_cons rfl (lts_cons (lt_sl (fun _ => rfl)) lts_nil)))) (lts_cons rfl lts_nil))) (i_UnitMatrix_ok x3 r72 r73 r74 r75 hf36) (Bor.tup (Bors.cons (Bor.agg (bP (bP (Bors.cons (Bor.own (f := f32) (fun _ => rfl) rfl rfl) bN)))) bN0)))<|ym rfl (tup [agg (mXc r72 r73 r75), b r74])<|yl rfl (agg (mXc r72 r73 r75)) y3<|yl rfl (b r74) y3<|ye rfl (optr 3 1 0) [⟨3, some (mXc v46 v47 l48)⟩, ⟨1, some (mXc x3 x3 L28)⟩, ⟨1, some (mXc v68 v69 l70)⟩, ⟨1, some zMx⟩, ⟨0, none⟩] (TOp.alloc_o (g := ⟨0, none⟩) 3 rfl zer33 zok33 rfl)<|ys (agg (mXc r72 r73 r75)) (mXc r72 r73 r75) [⟨3, some (mXc v46 v47 l48)⟩, ⟨1, some (mXc x3 x3 L28)⟩, ⟨1, some (mXc v68 v69 l70)⟩, ⟨1, some (mXc r72 r73 r75)⟩, ⟨0, none⟩] siz33<|ya rfl (b r74)<|zN ?_
        refine yS<|yS<|RunC.cutN (fun τ Γ => ( Le 465 τ Γ [(5, i64 x3), (12, optr 1 1 0), (14, optr 0 3 0), (18, optr 3 1 0), (145, b true)] [⟨3, some (mXc v46 v47 l48)⟩, ⟨1, some (mXc x3 x3 L28)⟩, ⟨1, none⟩, ⟨1, some (mXc r72 r73 r75)⟩, ⟨0, none⟩] ∧ w_FnFunctions_k12 = some q0) ∨ ( Le 465 τ Γ [(5, i64 x3), (12, optr 1 1 0), (14, optr 0 3 0), (18, optr 3 1 0), (145, b false)] [⟨3, some (mXc v46 v47 l48)⟩, ⟨1, some (mXc x3 x3 L28)⟩, ⟨1, none⟩, ⟨1, some (mXc r72 r73 r75)⟩, ⟨0, none⟩] ∧ w_FnFunctions_k14 x3 L28 l48 r72 r73 r75 = some q0)) ?_ ?_
        ·rcases oB h with ⟨hc37, h⟩ | ⟨hc37, h⟩
         ·rcases oB h with ⟨hc38, h⟩ | ⟨hc38, h⟩
          ·rcases oB h with ⟨hc39, h⟩ | ⟨hc39, h⟩
           ·obtain ⟨r76, hf40, h⟩ := oS h
            rcases oB h with ⟨hc41, h⟩ | ⟨hc41, h⟩
            ·rcases oB h with ⟨hc42, h⟩ | ⟨hc42, h⟩
             ·refine yW<|yl rfl (b true) (yv hc37)<|yl rfl (b false) y1<|ym rfl (b false)<|yl rfl (b true) (yv hc38)<|yl rfl (b false) y1<|yl rfl (b false) yp<|ym rfl (b false)<|yl rfl (b true) (yv hc39)<|yl rfl (b false) y1<|yl rfl (b false) yp<|ym rfl (b false)<|yd rfl (agg (mXc v68 v69 l70)) (TOp.loadAgg_o rfl agg33 siz33 rfl rfl rfl rfl)<|yd rfl (agg (mXc r72 r73 r75)) (TOp.loadAgg_o rfl agg33 siz33 rfl rfl rfl rfl)<|yd rfl (b true) (TOp.eqb (TOp.callB (CallAs.func ent39 rfl rfl) (Bors.cons (Bor.agg (bP (bP (bS bN)))) (Bors.cons (Bor.agg (bP (bP (bS bN)))) bN)) rfl rfl (i_SameMatrix_ok v68 v69 l70 r72 r73 r75 r76 hf40)) hc41)<|yl rfl (b false) y1<|yl rfl (b false) yp<|ym rfl (b false)<|yl rfl (optr 0 3 2) (LOp.fao und33 rfl siz26 rfl rfl rfl)<|yd rfl (sFc l48) (TOp.load1_o rfl rfl agg26 rfl rfl)<|yl rfl (i64 (l48.length : Int)) (LOp.len_sl und26 rfl rfl)<|yl rfl (optr 3 1 2) (LOp.fao und33 rfl siz26 rfl rfl rfl)<|yd rfl (sFc r75) (TOp.load1_o rfl rfl agg26 rfl rfl)<|yl rfl (i64 (r75.length : Int)) (LOp.len_sl und26 rfl rfl)<|yl rfl (b true) (LOp.eqb (LOp.neq rfl rfl rfl) hc42)<|yl rfl (b true) yp<|zN ?_
              exact .inl ⟨(Le.of ⟨aR, aR, aR, aR, aR, trivial⟩ ⟨⟨rfl, .inr rfl⟩, ⟨rfl, .inr rfl⟩, ⟨rfl, .inl rfl⟩, ⟨rfl, .inr rfl⟩, ⟨rfl, .inr rfl⟩, trivial⟩), h⟩
             ·refine yW<|yl rfl (b true) (yv hc37)<|yl rfl (b false) y1<|ym rfl (b false)<|yl rfl (b true) (yv hc38)<|yl rfl (b false) y1<|yl rfl (b false) yp<|ym rfl (b false)<|yl rfl (b true) (yv hc39)<|yl rfl (b false) y1<|yl rfl (b false) yp<|ym rfl (b false)<|yd rfl (agg (mXc v68 v69 l70)) (TOp.loadAgg_o rfl agg33 siz33 rfl rfl rfl rfl)<|yd rfl (agg (mXc r72 r73 r75)) (TOp.loadAgg_o rfl agg33 siz33 rfl rfl rfl rfl)<|yd rfl (b true) (TOp.eqb (TOp.callB (CallAs.func ent39 rfl rfl) (Bors.cons (Bor.agg (bP (bP (bS bN)))) (Bors.cons (Bor.agg (bP (bP (bS bN)))) bN)) rfl rfl (i_SameMatrix_ok v68 v69 l70 r72 r73 r75 r76 hf40)) hc41)<|yl rfl (b false) y1<|yl rfl (b false) yp<|ym rfl (b false)<|yl rfl (optr 0 3 2) (LOp.fao und33 rfl siz26 rfl rfl rfl)<|yd rfl (sFc l48) (TOp.load1_o rfl rfl agg26 rfl rfl)<|yl rfl (i64 (l48.length : Int)) (LOp.len_sl und26 rfl rfl)<|yl rfl (optr 3 1 2) (LOp.fao und33 rfl siz26 rfl rfl rfl)<|yd rfl (sFc r75) (TOp.load1_o rfl rfl agg26 rfl rfl)<|yl rfl (i64 (r75.length : Int)) (LOp.len_sl und26 rfl rfl)<|yl rfl (b false) (LOp.eqb (LOp.neq rfl rfl rfl) hc42)<|yl rfl (b false) yp<|zN ?_
              exact .inr (⟨(Le.of ⟨aR, aR, aR, aR, aR, trivial⟩ ⟨⟨rfl, .inr rfl⟩, ⟨rfl, .inr rfl⟩, ⟨rfl, .inl rfl⟩, ⟨rfl, .inr rfl⟩, ⟨rfl, .inr rfl⟩, trivial⟩), h⟩)
            ·refine yW<|yl rfl (b true) (yv hc37)<|yl rfl (b false) y1<|ym rfl (b false)<|yl rfl (b true) (yv hc38)<|yl rfl (b false) y1<|yl rfl (b false) yp<|ym rfl (b false)<|yl rfl (b true) (yv hc39)<|yl rfl (b false) y1<|yl rfl (b false) yp<|ym rfl (b false)<|yd rfl (agg (mXc v68 v69 l70)) (TOp.loadAgg_o rfl agg33 siz33 rfl rfl rfl rfl)<|yd rfl (agg (mXc r72 r73 r75)) (TOp.loadAgg_o rfl agg33 siz33 rfl rfl rfl rfl)<|yd rfl (b false) (TOp.eqb (TOp.callB (CallAs.func ent39 rfl rfl) (Bors.cons (Bor.agg (bP (bP (bS bN)))) (Bors.cons (Bor.agg (bP (bP (bS bN)))) bN)) rfl rfl (i_SameMatrix_ok v68 v69 l70 r72 r73 r75 r76 hf40)) hc41)<|yl rfl (b true) y0<|yl rfl (b true) yp<|ym rfl (b true)<|ROps.s rfl rfl rfl<|ROps.s rfl rfl rfl<|ROps.s rfl rfl rfl<|ROps.s rfl rfl rfl<|ROps.s rfl rfl rfl<|ROps.s rfl rfl rfl<|ROps.s rfl rfl rfl<|yl rfl (b true) yq<|zN ?_
             exact .inl ⟨(Le.of ⟨aR, aR, aR, aR, aR, trivial⟩ ⟨⟨rfl, .inr rfl⟩, ⟨rfl, .inr rfl⟩, ⟨rfl, .inl rfl⟩, ⟨rfl, .inr rfl⟩, ⟨rfl, .inr rfl⟩, trivial⟩), h⟩
           ·refine yW<|yl rfl (b true) (yv hc37)<|yl rfl (b false) y1<|ym rfl (b false)<|yl rfl (b true) (yv hc38)<|yl rfl (b false) y1<|yl rfl (b false) yp<|ym rfl (b false)<|yl rfl (b false) (yv hc39)<|yl rfl (b true) y0<|yl rfl (b true) yp<|ym rfl (b true)<|ROps.s rfl rfl rfl<|ROps.s rfl rfl rfl<|ROps.s rfl rfl rfl<|ROps.s rfl rfl rfl<|yl rfl (b true) yq<|ym rfl (b true)<|ROps.s rfl rfl rfl<|ROps.s rfl rfl rfl<|ROps.s rfl rfl rfl<|ROps.s rfl rfl rfl<|ROps.s rfl rfl rfl<|ROps.s rfl rfl rfl<|ROps.s rfl rfl rfl<|yl rfl (b true) yq<|zN ?_
            exact .inl ⟨(Le.of ⟨aR, aR, aR, aR, aR, trivial⟩ ⟨⟨rfl, .inr rfl⟩, ⟨rfl, .inr rfl⟩, ⟨rfl, .inl rfl⟩, ⟨rfl, .inr rfl⟩, ⟨rfl, .inr rfl⟩, trivial⟩), h⟩
          ·refine yW<|yl rfl (b true) (yv hc37)<|yl rfl (b false) y1<|ym rfl (b false)<|yl rfl (b false) (yv hc38)<|yl rfl (b true) y0<|yl rfl (b true) yp<|ym rfl (b true)<|ROps.s rfl rfl rfl<|ROps.s rfl rfl rfl<|yl rfl (b true) yq<|ym rfl (b true)<|ROps.s rfl rfl rfl<|ROps.s rfl rfl rfl<|ROps.s rfl rfl rfl<|ROps.s rfl rfl rfl<|yl rfl (b true) yq<|ym rfl (b true)<|ROps.s rfl rfl rfl<|ROps.s rfl rfl rfl<|ROps.s rfl rfl rfl<|ROps.s rfl rfl rfl<|ROps.s rfl rfl rfl<|ROps.s rfl rfl rfl<|ROps.s rfl rfl rfl<|yl rfl (b true) yq<|zN ?_
           exact .inl ⟨(Le.of ⟨aR, aR, aR, aR, aR, trivial⟩ ⟨⟨rfl, .inr rfl⟩, ⟨rfl, .inr rfl⟩, ⟨rfl, .inl rfl⟩, ⟨rfl, .inr rfl⟩, ⟨rfl, .inr rfl⟩, trivial⟩), h⟩
         ·refine yW<|yl rfl (b false) (yv hc37)<|yl rfl (b true) y0<|ym rfl (b true)<|ROps.s rfl rfl rfl<|ROps.s rfl rfl rfl<|yl rfl (b true) yq<|ym rfl (b true)<|ROps.s rfl rfl rfl<|ROps.s rfl rfl rfl<|yl rfl (b true) yq<|ym rfl (b true)<|ROps.s rfl rfl rfl<|ROps.s rfl rfl rfl<|ROps.s rfl rfl rfl<|ROps.s rfl rfl rfl<|yl rfl (b true) yq<|ym rfl (b true)<|ROps.s rfl rfl rfl<|ROps.s rfl rfl rfl<|ROps.s rfl rfl rfl<|ROps.s rfl rfl rfl<|ROps.s rfl rfl rfl<|ROps.s rfl rfl rfl<|ROps.s rfl rfl rfl<|yl rfl (b true) yq<|zN ?_
          exact .inl ⟨(Le.of ⟨aR, aR, aR, aR, aR, trivial⟩ ⟨⟨rfl, .inr rfl⟩, ⟨rfl, .inr rfl⟩, ⟨rfl, .inl rfl⟩, ⟨rfl, .inr rfl⟩, ⟨rfl, .inr rfl⟩, trivial⟩), h⟩
        ·rintro τ37 Γ37 (⟨hw37, h⟩ | ⟨hw37, h⟩)
         ·refine RunC.le (τ' := [(5, i64 x3), (12, optr 1 1 0), (14, optr 0 3 0), (18, optr 3 1 0), (145, b true)]) (Γ' := [⟨3, some (mXc v46 v47 l48)⟩, ⟨1, some (mXc x3 x3 L28)⟩, ⟨1, none⟩, ⟨1, some (mXc r72 r73 r75)⟩, ⟨0, none⟩]) hw37 ?_
          unfold w_FnFunctions_k12 at h
          refine yT<|zQ<|ya rfl (b false)<|zN ?_
          refine RunC.ret ?_
          have hq := oI h
          subst q0
          exact bodyQ.pure (.inr rfl) rfl (Res.one rfl (RV.tmp rfl))
         ·refine RunC.le (τ' := [(5, i64 x3), (12, optr 1 1 0), (14, optr 0 3 0), (18, optr 3 1 0), (145, b false)]) (Γ' := [⟨3, some (mXc v46 v47 l48)⟩, ⟨1, some (mXc x3 x3 L28)⟩, ⟨1, none⟩, ⟨1, some (mXc r72 r73 r75)⟩, ⟨0, none⟩]) hw37 ?_
          unfold w_FnFunctions_k14 at h
          refine yF<|RunC.skip<|yS<|zQ<|ya rfl (i64 0)<|zN ?_
          obtain ⟨z38, hz_38, h⟩ := oS h
          refine RunC.cutN (fun τ Γ => Le 465 τ Γ [(18, optr 3 1 0)] [⟨3, none⟩, ⟨1, none⟩, ⟨1, none⟩, ⟨1, some (mXc r72 r73 r75)⟩, ⟨0, none⟩] ∧ z38 = .inl ()) ?_ ?_
          ·refine RunC.block (RunC.loop (RunL.loopM (x := z38) (w_FnFunctions_s17 x3 L28 l48) (fun (s : Int) τ Γ => Le 465 τ Γ [(5, i64 x3), (12, optr 1 1 0), (14, optr 0 3 0), (18, optr 3 1 0), (20, i64 s)] [⟨3, some (mXc v46 v47 l48)⟩, ⟨1, some (mXc x3 x3 L28)⟩, ⟨1, none⟩, ⟨1, some (mXc r72 r73 r75)⟩, ⟨0, none⟩]) ?_ _ _ _ hz_38 (Le.of ⟨aR, aR, aR, aR, aR, trivial⟩ ⟨⟨rfl, .inr rfl⟩, ⟨rfl, .inr rfl⟩, ⟨rfl, .inl rfl⟩, ⟨rfl, .inr rfl⟩, ⟨rfl, .inr rfl⟩, trivial⟩)))
           rintro v77 τ38 Γ38 y38_ hw38 h38_ ho38 hr38
           refine RunC.le (τ' := [(5, i64 x3), (12, optr 1 1 0), (14, optr 0 3 0), (18, optr 3 1 0), (20, i64 v77)]) (Γ' := [⟨3, some (mXc v46 v47 l48)⟩, ⟨1, some (mXc x3 x3 L28)⟩, ⟨1, none⟩, ⟨1, some (mXc r72 r73 r75)⟩, ⟨0, none⟩]) hw38 ?_
           replace h38_ : w_FnFunctions_b17 x3 L28 l48 v77 = some y38_ := h38_
           unfold w_FnFunctions_b17 at h38_
           refine yS<|yS ?_
           obtain ⟨x78, hx43, h38_⟩ := oL h38_
           rcases oB h38_ with ⟨hc44, h38_⟩ | ⟨hc44, h38_⟩
           ·refine yW<|ym rfl (i64 v77)<|ym rfl (i64 x3)<|ym rfl (i64 x3)<|yl rfl (i64 x78) (LOp.eqr (LOp.mul rfl rfl rfl) (congrArg (ik .i64) hx43))<|yl rfl (b true) (LOp.eqb (LOp.lss rfl rfl rfl) hc44)<|zN ?_
            refine yT<|RunC.skip<|yS<|RunC.cutN (fun τ Γ =>  Le 465 τ Γ [(5, i64 x3), (12, optr 1 1 0), (14, optr 0 3 0), (18, optr 3 1 0), (20, i64 v77)] [⟨3, some (mXc v46 v47 l48)⟩, ⟨1, some (mXc x3 x3 L28)⟩, ⟨1, none⟩, ⟨1, some (mXc r72 r73 r75)⟩, ⟨0, none⟩] ∧ w_FnFunctions_k16 v77 = some y38_) ?_ ?_
            ·refine RunC.block<|yS<|yS ?_
             obtain ⟨hz45, h38_⟩ := need_some h38_
             obtain ⟨x79, hx46, h38_⟩ := oL h38_
             obtain ⟨hz47, h38_⟩ := need_some h38_
             obtain ⟨x80, hx48, h38_⟩ := oL h38_
             rcases oB h38_ with ⟨hc49, h38_⟩ | ⟨hc49, h38_⟩
             ·refine RunC.region_draw (Γ' := [⟨3, some (mXc v46 v47 l48)⟩, ⟨1, some (mXc x3 x3 L28)⟩, ⟨1, none⟩, ⟨1, some (mXc r72 r73 r75)⟩, ⟨0, none⟩]) 7 mixed 
               (tm rfl (i64 v77) <|
               (tm rfl (i64 x3) <|
               (tl rfl (i64 x79) (LOp.eqr (LOp.rem rfl rfl rfl (nz hz45)) (congrArg (ik .i64) hx46)) <|
               (tm rfl (i64 v77) <|
               (tm rfl (i64 x3) <|
               (tl rfl (i64 x80) (LOp.eqr (LOp.quo rfl rfl rfl (nz hz47)) (congrArg (ik .i64) hx48)) <|
               (tl rfl (b true) (LOp.eqb (LOp.neq rfl rfl rfl) hc49) <|
               TR.nil))))))) rfl (by kernel_rfl) rfl fills_nil rfl ?_
              iterate 7 refine ROps.dropS ?_
              refine ROps.drop0<|zN ?_
              refine yT<|yS<|yS ?_
              obtain ⟨e81, he50, h38_⟩ := oS h38_
              rcases oB h38_ with ⟨hc51, h38_⟩ | ⟨hc51, h38_⟩
              ·refine yW<|yl rfl (optr 0 3 2) (LOp.fao und33 rfl siz26 rfl rfl rfl)<|yd rfl (sFc l48) (TOp.load1_o rfl rfl agg26 rfl rfl)<|ym rfl (i64 v77)<|yl rfl (ptr [f32 e81]) (LOp.le (LOp.ix (f := f32) und26 siz28 rfl rfl rfl rfl he50) ALe.ptr)<|yl rfl (f32 e81) (y2 agg28)<|yl rfl (b true) (LOp.eqb (LOp.fne rfl (OpF.tmp rfl) (OpF.const rfl (by kernel_rfl) (by kernel_rfl))) hc51)<|zN ?_
               refine yT<|zQ<|ya rfl (b false)<|zN ?_
               refine RunC.ret ?_
               cases oI h38_
               have hx39_ := hr38 _ rfl
               subst hx39_
               have hq := oI h
               subst q0
               exact bodyQ.pure (.inr rfl) rfl (Res.one rfl (RV.tmp rfl))
              ·refine yW<|yl rfl (optr 0 3 2) (LOp.fao und33 rfl siz26 rfl rfl rfl)<|yd rfl (sFc l48) (TOp.load1_o rfl rfl agg26 rfl rfl)<|ym rfl (i64 v77)<|yl rfl (ptr [f32 e81]) (LOp.le (LOp.ix (f := f32) und26 siz28 rfl rfl rfl rfl he50) ALe.ptr)<|yl rfl (f32 e81) (y2 agg28)<|yl rfl (b false) (LOp.eqb (LOp.fne rfl (OpF.tmp rfl) (OpF.const rfl (by kernel_rfl) (by kernel_rfl))) hc51)<|zN ?_
               refine yF<|RunC.skip<|RunC.exit ?_
               exact ⟨(Le.of ⟨aR, aR, aR, aR, aR, trivial⟩ ⟨⟨rfl, .inr rfl⟩, ⟨rfl, .inr rfl⟩, ⟨rfl, .inl rfl⟩, ⟨rfl, .inr rfl⟩, ⟨rfl, .inr rfl⟩, trivial⟩), h38_⟩
             ·refine RunC.region_draw (Γ' := [⟨3, some (mXc v46 v47 l48)⟩, ⟨1, some (mXc x3 x3 L28)⟩, ⟨1, none⟩, ⟨1, some (mXc r72 r73 r75)⟩, ⟨0, none⟩]) 7 mixed 
               (tm rfl (i64 v77) <|
               (tm rfl (i64 x3) <|
               (tl rfl (i64 x79) (LOp.eqr (LOp.rem rfl rfl rfl (nz hz45)) (congrArg (ik .i64) hx46)) <|
               (tm rfl (i64 v77) <|
               (tm rfl (i64 x3) <|
               (tl rfl (i64 x80) (LOp.eqr (LOp.quo rfl rfl rfl (nz hz47)) (congrArg (ik .i64) hx48)) <|
               (tl rfl (b false) (LOp.eqb (LOp.neq rfl rfl rfl) hc49) <|
               TR.nil))))))) rfl (by kernel_rfl) rfl fills_nil rfl ?_
              iterate 7 refine ROps.dropS ?_
              refine ROps.drop0<|zN ?_
              refine yF<|RunC.skip<|yS ?_
              obtain ⟨e82, he52, h38_⟩ := oS h38_
              obtain ⟨r83, hf53, h38_⟩ := oS h38_
              obtain ⟨x84, hx54, h38_⟩ := oL h38_
              refine yW<|yl rfl (optr 1 1 2) (LOp.fao und33 rfl siz26 rfl rfl rfl)<|yd rfl (sFc L28) (TOp.load1_o rfl rfl agg26 rfl rfl)<|ym rfl (i64 v77)<|yl rfl (ptr [f32 e82]) (LOp.le (LOp.ix (f := f32) und26 siz28 rfl rfl rfl rfl he52) ALe.ptr)<|yl rfl (f32 e82) (y2 agg28)<|yd rfl (f32 r83) (yc ent40 rfl rfl bN0 (i_ExpNumber_ok e82 r83 hf53))<|yd rfl (f64 x84) (TOp.eqr (TOp.widen (src := 28) (dst := 40) ⟨_, pun28⟩ pun40 rfl (OpF.tmp rfl)) (congrArg (f .f64) hx54))<|ya rfl (f64 x84)<|zN ?_
              refine yS ?_
              obtain ⟨e85, he55, h38_⟩ := oS h38_
              obtain ⟨x86, hx56, h38_⟩ := oL h38_
              obtain ⟨r87, hf57, h38_⟩ := oS h38_
              obtain ⟨x88, hx58, h38_⟩ := oL h38_
              obtain ⟨x89, hx59, h38_⟩ := oL h38_
              rcases oB h38_ with ⟨hc60, h38_⟩ | ⟨hc60, h38_⟩
              ·refine yW<|yl rfl (optr 0 3 2) (LOp.fao und33 rfl siz26 rfl rfl rfl)<|yd rfl (sFc l48) (TOp.load1_o rfl rfl agg26 rfl rfl)<|ym rfl (i64 v77)<|yl rfl (ptr [f32 e85]) (LOp.le (LOp.ix (f := f32) und26 siz28 rfl rfl rfl rfl he55) ALe.ptr)<|yl rfl (f32 e85) (y2 agg28)<|yd rfl (f64 x86) (TOp.eqr (TOp.widen (src := 28) (dst := 40) ⟨_, pun28⟩ pun40 rfl (OpF.tmp rfl)) (congrArg (f .f64) hx56))<|ym rfl (f64 x84)<|yd rfl (f64 r87) (yc ent36 rfl rfl (bP bN0) (w_r8Gap_ok x86 x84 r87 hf57))<|ym rfl (f64 x84)<|yd rfl (f64 x88) (TOp.eqr (TOp.fop (.inl rfl) rfl (OpF.const rfl (by kernel_rfl) (by kernel_rfl)) (OpF.tmp rfl)) (congrArg (f .f64) hx58))<|yd rfl (f64 x89) (TOp.eqr (TOp.fop (.inr (.inr (.inl rfl))) rfl (OpF.const rfl (by kernel_rfl) (by kernel_rfl)) (OpF.tmp rfl)) (congrArg (f .f64) hx59))<|yl rfl (b true) (LOp.eqb (LOp.fgt rfl (OpF.tmp rfl) (OpF.tmp rfl)) hc60)<|zN ?_
               refine RunC.wl (τ' := [(5, i64 x3), (12, optr 1 1 0), (14, optr 0 3 0), (18, optr 3 1 0), (20, i64 v77), (184, b true)]) (Γ' := [⟨3, some (mXc v46 v47 l48)⟩, ⟨1, some (mXc x3 x3 L28)⟩, ⟨1, none⟩, ⟨1, some (mXc r72 r73 r75)⟩, ⟨0, none⟩]) ⟨aR, aR, aR, aR, aR, aR, trivial⟩ ⟨⟨rfl, .inr rfl⟩, ⟨rfl, .inr rfl⟩, ⟨rfl, .inl rfl⟩, ⟨rfl, .inr rfl⟩, ⟨rfl, .inr rfl⟩, trivial⟩<|yT<|zQ<|ya rfl (b false)<|zN ?_
               refine RunC.ret ?_
               cases oI h38_
               have hx40_ := hr38 _ rfl
               subst hx40_
               have hq := oI h
               subst q0
               exact bodyQ.pure (.inr rfl) rfl (Res.one rfl (RV.tmp rfl))
              ·refine yW<|yl rfl (optr 0 3 2) (LOp.fao und33 rfl siz26 rfl rfl rfl)<|yd rfl (sFc l48) (TOp.load1_o rfl rfl agg26 rfl rfl)<|ym rfl (i64 v77)<|yl rfl (ptr [f32 e85]) (LOp.le (LOp.ix (f := f32) und26 siz28 rfl rfl rfl rfl he55) ALe.ptr)<|yl rfl (f32 e85) (y2 agg28)<|yd rfl (f64 x86) (TOp.eqr (TOp.widen (src := 28) (dst := 40) ⟨_, pun28⟩ pun40 rfl (OpF.tmp rfl)) (congrArg (f .f64) hx56))<|ym rfl (f64 x84)<|yd rfl (f64 r87) (yc ent36 rfl rfl (bP bN0) (w_r8Gap_ok x86 x84 r87 hf57))<|ym rfl (f64 x84)<|yd rfl (f64 x88) (TOp.eqr (TOp.fop (.inl rfl) rfl (OpF.const rfl (by kernel_rfl) (by kernel_rfl)) (OpF.tmp rfl)) (congrArg (f .f64) hx58))<|yd rfl (f64 x89) (TOp.eqr (TOp.fop (.inr (.inr (.inl rfl))) rfl (OpF.const rfl (by kernel_rfl) (by kernel_rfl)) (OpF.tmp rfl)) (congrArg (f .f64) hx59))<|yl rfl (b false) (LOp.eqb (LOp.fgt rfl (OpF.tmp rfl) (OpF.tmp rfl)) hc60)<|zN ?_
               refine RunC.wl (τ' := [(5, i64 x3), (12, optr 1 1 0), (14, optr 0 3 0), (18, optr 3 1 0), (20, i64 v77), (184, b false)]) (Γ' := [⟨3, some (mXc v46 v47 l48)⟩, ⟨1, some (mXc x3 x3 L28)⟩, ⟨1, none⟩, ⟨1, some (mXc r72 r73 r75)⟩, ⟨0, none⟩]) ⟨aR, aR, aR, aR, aR, aR, trivial⟩ ⟨⟨rfl, .inr rfl⟩, ⟨rfl, .inr rfl⟩, ⟨rfl, .inl rfl⟩, ⟨rfl, .inr rfl⟩, ⟨rfl, .inr rfl⟩, trivial⟩<|yF<|RunC.skip ?_
               exact ⟨(Le.of ⟨aR, aR, aR, aR, aR, trivial⟩ ⟨⟨rfl, .inr rfl⟩, ⟨rfl, .inr rfl⟩, ⟨rfl, .inl rfl⟩, ⟨rfl, .inr rfl⟩, ⟨rfl, .inr rfl⟩, trivial⟩), h38_⟩
            ·rintro τ41 Γ41 ⟨hw41, h38_⟩
             refine RunC.le hw41 ?_
             unfold w_FnFunctions_k16 at h38_
             obtain ⟨x90, hx61, h38_⟩ := oL h38_
             refine yW<|ym rfl (i64 v77)<|yl rfl (i64 x90) (LOp.eqr (LOp.add rfl rfl rfl) (congrArg (ik .i64) hx61))<|ya rfl (i64 x90)<|zN ?_
             cases oI h38_
             exact ⟨_, rfl, (Le.of ⟨aR, aR, aR, aR, aR, trivial⟩ ⟨⟨rfl, .inr rfl⟩, ⟨rfl, .inr rfl⟩, ⟨rfl, .inl rfl⟩, ⟨rfl, .inr rfl⟩, ⟨rfl, .inr rfl⟩, trivial⟩)⟩
           ·refine yW<|ym rfl (i64 v77)<|ym rfl (i64 x3)<|ym rfl (i64 x3)<|yl rfl (i64 x78) (LOp.eqr (LOp.mul rfl rfl rfl) (congrArg (ik .i64) hx43))<|yl rfl (b false) (LOp.eqb (LOp.lss rfl rfl rfl) hc44)<|zN ?_
            refine yF<|RunC.exit ?_
            cases oI h38_
            have hx := ho38 _ rfl
            exact ⟨(Le.of ⟨aR, trivial⟩ ⟨⟨rfl, .inl rfl⟩, ⟨rfl, .inl rfl⟩, ⟨rfl, .inl rfl⟩, ⟨rfl, .inr rfl⟩, ⟨rfl, .inr rfl⟩, trivial⟩), hx⟩
          ·rintro τ42 Γ42 ⟨hw42, rfl⟩
           refine RunC.le hw42 ?_
           replace h : w_FnFunctions_k17 r72 r73 r75 = some q0 := h
           unfold w_FnFunctions_k17 at h
           refine yS ?_
           obtain ⟨r91, r92, r93, r94, hf62, h⟩ := obind4_some h
           refine yW<|yd rfl (agg (mXc r72 r73 r75)) (TOp.loadAgg_o rfl agg33 siz33 rfl rfl rfl rfl)<|yd rfl (agg (mXc r72 r73 r75)) (TOp.loadAgg_o rfl agg33 siz33 rfl rfl rfl rfl)<|yd rfl (tup [agg (mXc r91 r92 r94), b r93]) (TOp.callS (CallAs.func ent41 rfl rfl) (ALes.cons aR (ALes.cons aR (ALes.cons (ALe.fl (by kernel_rfl) (by kernel_rfl)) (ALes.cons (ALe.fl (by kernel_rfl) (by kernel_rfl)) ALes.nil)))) (lts_cons (lt_agg (lts_cons rfl (lts_cons rfl (lts_cons (lt_sl (fun _ => rfl)) lts_nil)))) (lts_cons (lt_agg (lts_cons rfl (lts_cons rfl (lts_cons (lt_sl (fun _ => rfl)) lts_nil)))) (lts_cons rfl (lts_cons rfl lts_nil)))) (lt_tup (lts_cons (lt_agg (lts_cons rfl (lts_cons rfl (lts_cons (lt_sl (fun _ => rfl)) lts_nil)))) (lts_cons rfl lts_nil))) (i_WeighMatrices_ok r72 r73 r75 r72 r73 r75 (some 1073741824) (some 1065353216) r91 r92 r93 r94 hf62) (Bor.tup (Bors.cons (Bor.agg (bP (bP (Bors.cons (Bor.own (f := f32) (fun _ => rfl) rfl rfl) bN)))) bN0)))<|ym rfl (tup [agg (mXc r91 r92 r94), b r93])<|yl rfl (agg (mXc r91 r92 r94)) y3<|yl rfl (b r93) y3<|ye rfl (optr 0 4 0) [⟨4, some zMx⟩, ⟨1, none⟩, ⟨1, none⟩, ⟨1, some (mXc r72 r73 r75)⟩, ⟨0, none⟩] (TOp.alloc_o (g := ⟨3, none⟩) 0 rfl zer33 zok33 rfl)<|ys (agg (mXc r91 r92 r94)) (mXc r91 r92 r94) [⟨4, some (mXc r91 r92 r94)⟩, ⟨1, none⟩, ⟨1, none⟩, ⟨1, some (mXc r72 r73 r75)⟩, ⟨0, none⟩] siz33<|ya rfl (b r93)<|zN ?_
           refine yS ?_
           obtain ⟨r95, r96, r97, r98, hf63, h⟩ := obind4_some h
           refine yW<|yd rfl (agg (mXc r91 r92 r94)) (TOp.loadAgg_o rfl agg33 siz33 rfl rfl rfl rfl)<|yd rfl (tup [agg (mXc r95 r96 r98), b r97]) (TOp.callS (CallAs.func ent42 rfl rfl) (ALes.cons aR (ALes.cons aR ALes.nil)) (lts_cons (lt_agg (lts_cons rfl (lts_cons rfl (lts_cons (lt_sl (fun _ => rfl)) lts_nil)))) (lts_cons rfl lts_nil)) (lt_tup (lts_cons (lt_agg (lts_cons rfl (lts_cons rfl (lts_cons (lt_sl (fun _ => rfl)) lts_nil)))) (lts_cons rfl lts_nil))) (i_PolarPart_ok r91 r92 r94 20 r95 r96 r97 r98 hf63) (Bor.tup (Bors.cons (Bor.agg (bP (bP (Bors.cons (Bor.own (f := f32) (fun _ => rfl) rfl rfl) bN)))) bN0)))<|ym rfl (tup [agg (mXc r95 r96 r98), b r97])<|yl rfl (agg (mXc r95 r96 r98)) y3<|yl rfl (b r97) y3<|ye rfl (optr 1 2 0) [⟨4, some (mXc r91 r92 r94)⟩, ⟨2, some zMx⟩, ⟨1, none⟩, ⟨1, some (mXc r72 r73 r75)⟩, ⟨0, none⟩] (TOp.alloc_o (g := ⟨1, none⟩) 1 rfl zer33 zok33 rfl)<|ys (agg (mXc r95 r96 r98)) (mXc r95 r96 r98) [⟨4, some (mXc r91 r92 r94)⟩, ⟨2, some (mXc r95 r96 r98)⟩, ⟨1, none⟩, ⟨1, some (mXc r72 r73 r75)⟩, ⟨0, none⟩] siz33<|ya rfl (b r97)<|zN ?_
           refine RunC.wl (τ' := [(18, optr 3 1 0), (23, b r93), (24, optr 1 2 0), (25, b r97)]) (Γ' := [⟨4, none⟩, ⟨2, some (mXc r95 r96 r98)⟩, ⟨1, none⟩, ⟨1, some (mXc r72 r73 r75)⟩, ⟨0, none⟩]) ⟨aR, aR, aR, aR, trivial⟩ ⟨⟨rfl, .inl rfl⟩, ⟨rfl, .inr rfl⟩, ⟨rfl, .inl rfl⟩, ⟨rfl, .inr rfl⟩, ⟨rfl, .inr rfl⟩, trivial⟩<|yS<|yS<|RunC.cutN (fun τ Γ => ( Le 465 τ Γ [(18, optr 3 1 0), (24, optr 1 2 0), (210, b true)] [⟨4, none⟩, ⟨2, some (mXc r95 r96 r98)⟩, ⟨1, none⟩, ⟨1, some (mXc r72 r73 r75)⟩, ⟨0, none⟩] ∧ w_FnFunctions_k19 = some q0) ∨ ( Le 465 τ Γ [(18, optr 3 1 0), (24, optr 1 2 0), (210, b false)] [⟨4, none⟩, ⟨2, some (mXc r95 r96 r98)⟩, ⟨1, none⟩, ⟨1, some (mXc r72 r73 r75)⟩, ⟨0, none⟩] ∧ w_FnFunctions_k21 r75 r98 = some q0)) ?_ ?_
           ·rcases oB h with ⟨hc64, h⟩ | ⟨hc64, h⟩
            ·rcases oB h with ⟨hc65, h⟩ | ⟨hc65, h⟩
             ·rcases oB h with ⟨hc66, h⟩ | ⟨hc66, h⟩
              ·refine yW<|yl rfl (b true) (yv hc64)<|yl rfl (b false) y1<|ym rfl (b false)<|yl rfl (b true) (yv hc65)<|yl rfl (b false) y1<|yl rfl (b false) yp<|ym rfl (b false)<|yl rfl (optr 1 2 2) (LOp.fao und33 rfl siz26 rfl rfl rfl)<|yd rfl (sFc r98) (TOp.load1_o rfl rfl agg26 rfl rfl)<|yl rfl (i64 (r98.length : Int)) (LOp.len_sl und26 rfl rfl)<|yl rfl (optr 3 1 2) (LOp.fao und33 rfl siz26 rfl rfl rfl)<|yd rfl (sFc r75) (TOp.load1_o rfl rfl agg26 rfl rfl)<|yl rfl (i64 (r75.length : Int)) (LOp.len_sl und26 rfl rfl)<|yl rfl (b true) (LOp.eqb (LOp.neq rfl rfl rfl) hc66)<|yl rfl (b true) yp<|zN ?_
               exact .inl ⟨(Le.of ⟨aR, aR, aR, trivial⟩ ⟨⟨rfl, .inl rfl⟩, ⟨rfl, .inr rfl⟩, ⟨rfl, .inl rfl⟩, ⟨rfl, .inr rfl⟩, ⟨rfl, .inr rfl⟩, trivial⟩), h⟩
              ·refine yW<|yl rfl (b true) (yv hc64)<|yl rfl (b false) y1<|ym rfl (b false)<|yl rfl (b true) (yv hc65)<|yl rfl (b false) y1<|yl rfl (b false) yp<|ym rfl (b false)<|yl rfl (optr 1 2 2) (LOp.fao und33 rfl siz26 rfl rfl rfl)<|yd rfl (sFc r98) (TOp.load1_o rfl rfl agg26 rfl rfl)<|yl rfl (i64 (r98.length : Int)) (LOp.len_sl und26 rfl rfl)<|yl rfl (optr 3 1 2) (LOp.fao und33 rfl siz26 rfl rfl rfl)<|yd rfl (sFc r75) (TOp.load1_o rfl rfl agg26 rfl rfl)<|yl rfl (i64 (r75.length : Int)) (LOp.len_sl und26 rfl rfl)<|yl rfl (b false) (LOp.eqb (LOp.neq rfl rfl rfl) hc66)<|yl rfl (b false) yp<|zN ?_
               exact .inr (⟨(Le.of ⟨aR, aR, aR, trivial⟩ ⟨⟨rfl, .inl rfl⟩, ⟨rfl, .inr rfl⟩, ⟨rfl, .inl rfl⟩, ⟨rfl, .inr rfl⟩, ⟨rfl, .inr rfl⟩, trivial⟩), h⟩)
             ·refine yW<|yl rfl (b true) (yv hc64)<|yl rfl (b false) y1<|ym rfl (b false)<|yl rfl (b false) (yv hc65)<|yl rfl (b true) y0<|yl rfl (b true) yp<|ym rfl (b true)<|ROps.s rfl rfl rfl<|ROps.s rfl rfl rfl<|ROps.s rfl rfl rfl<|ROps.s rfl rfl rfl<|ROps.s rfl rfl rfl<|ROps.s rfl rfl rfl<|ROps.s rfl rfl rfl<|yl rfl (b true) yq<|zN ?_
              exact .inl ⟨(Le.of ⟨aR, aR, aR, trivial⟩ ⟨⟨rfl, .inl rfl⟩, ⟨rfl, .inr rfl⟩, ⟨rfl, .inl rfl⟩, ⟨rfl, .inr rfl⟩, ⟨rfl, .inr rfl⟩, trivial⟩), h⟩
            ·refine yW<|yl rfl (b false) (yv hc64)<|yl rfl (b true) y0<|ym rfl (b true)<|ROps.s rfl rfl rfl<|ROps.s rfl rfl rfl<|yl rfl (b true) yq<|ym rfl (b true)<|ROps.s rfl rfl rfl<|ROps.s rfl rfl rfl<|ROps.s rfl rfl rfl<|ROps.s rfl rfl rfl<|ROps.s rfl rfl rfl<|ROps.s rfl rfl rfl<|ROps.s rfl rfl rfl<|yl rfl (b true) yq<|zN ?_
             exact .inl ⟨(Le.of ⟨aR, aR, aR, trivial⟩ ⟨⟨rfl, .inl rfl⟩, ⟨rfl, .inr rfl⟩, ⟨rfl, .inl rfl⟩, ⟨rfl, .inr rfl⟩, ⟨rfl, .inr rfl⟩, trivial⟩), h⟩
           ·rintro τ43 Γ43 (⟨hw43, h⟩ | ⟨hw43, h⟩)
            ·refine RunC.le (τ' := [(18, optr 3 1 0), (24, optr 1 2 0), (210, b true)]) (Γ' := [⟨4, none⟩, ⟨2, some (mXc r95 r96 r98)⟩, ⟨1, none⟩, ⟨1, some (mXc r72 r73 r75)⟩, ⟨0, none⟩]) hw43 ?_
             unfold w_FnFunctions_k19 at h
             refine yT<|zQ<|ya rfl (b false)<|zN ?_
             refine RunC.ret ?_
             have hq := oI h
             subst q0
             exact bodyQ.pure (.inr rfl) rfl (Res.one rfl (RV.tmp rfl))
            ·refine RunC.le (τ' := [(18, optr 3 1 0), (24, optr 1 2 0), (210, b false)]) (Γ' := [⟨4, none⟩, ⟨2, some (mXc r95 r96 r98)⟩, ⟨1, none⟩, ⟨1, some (mXc r72 r73 r75)⟩, ⟨0, none⟩]) hw43 ?_
             unfold w_FnFunctions_k21 at h
             refine yF<|RunC.skip<|yS<|zQ<|ya rfl (i64 0)<|zN ?_
             obtain ⟨z44, hz_44, h⟩ := oS h
             refine RunC.cutN (fun τ Γ => Le 465 τ Γ [] [⟨4, none⟩, ⟨2, none⟩, ⟨1, none⟩, ⟨1, none⟩, ⟨0, none⟩] ∧ z44 = .inl ()) ?_ ?_
             ·refine RunC.block (RunC.loop (RunL.loopM (x := z44) (w_FnFunctions_s22 r75 r98) (fun (s : Int) τ Γ => Le 465 τ Γ [(18, optr 3 1 0), (24, optr 1 2 0), (26, i64 s)] [⟨4, none⟩, ⟨2, some (mXc r95 r96 r98)⟩, ⟨1, none⟩, ⟨1, some (mXc r72 r73 r75)⟩, ⟨0, none⟩]) ?_ _ _ _ hz_44 (Le.of ⟨aR, aR, aR, trivial⟩ ⟨⟨rfl, .inl rfl⟩, ⟨rfl, .inr rfl⟩, ⟨rfl, .inl rfl⟩, ⟨rfl, .inr rfl⟩, ⟨rfl, .inr rfl⟩, trivial⟩)))
              rintro v99 τ44 Γ44 y44_ hw44 h44_ ho44 hr44
              refine RunC.le (τ' := [(18, optr 3 1 0), (24, optr 1 2 0), (26, i64 v99)]) (Γ' := [⟨4, none⟩, ⟨2, some (mXc r95 r96 r98)⟩, ⟨1, none⟩, ⟨1, some (mXc r72 r73 r75)⟩, ⟨0, none⟩]) hw44 ?_
              replace h44_ : w_FnFunctions_b22 r75 r98 v99 = some y44_ := h44_
              unfold w_FnFunctions_b22 at h44_
              refine yS<|yS ?_
              rcases oB h44_ with ⟨hc67, h44_⟩ | ⟨hc67, h44_⟩
              ·refine yW<|ym rfl (i64 v99)<|yl rfl (optr 3 1 2) (LOp.fao und33 rfl siz26 rfl rfl rfl)<|yd rfl (sFc r75) (TOp.load1_o rfl rfl agg26 rfl rfl)<|yl rfl (i64 (r75.length : Int)) (LOp.len_sl und26 rfl rfl)<|yl rfl (b true) (LOp.eqb (LOp.lss rfl rfl rfl) hc67)<|zN ?_
               refine yT<|RunC.skip<|yS<|RunC.block<|yS ?_
               obtain ⟨e100, he68, h44_⟩ := oS h44_
               obtain ⟨x101, hx69, h44_⟩ := oL h44_
               obtain ⟨e102, he70, h44_⟩ := oS h44_
               obtain ⟨x103, hx71, h44_⟩ := oL h44_
               obtain ⟨r104, hf72, h44_⟩ := oS h44_
               rcases oB h44_ with ⟨hc73, h44_⟩ | ⟨hc73, h44_⟩
               ·refine RunC.region_draw (Γ' := [⟨4, none⟩, ⟨2, some (mXc r95 r96 r98)⟩, ⟨1, none⟩, ⟨1, some (mXc r72 r73 r75)⟩, ⟨0, none⟩]) 14 mixed 
                 (tl rfl (optr 1 2 2) (LOp.fao und33 rfl siz26 rfl rfl rfl) <|
                 (TR.d (r := (sFc r98)) (fs := []) rfl rfl (TOp.load1_o rfl rfl agg26 rfl rfl) <|
                 (tm rfl (i64 v99) <|
                 (tl rfl (ptr [f32 e100]) (LOp.le (LOp.ix (f := f32) und26 siz28 rfl rfl rfl rfl he68) ALe.ptr) <|
                 (tl rfl (f32 e100) (y2 agg28) <|
                 (TR.d (r := f64 x101) (fs := []) rfl rfl (TOp.eqr (TOp.widen (src := 28) (dst := 40) ⟨_, pun28⟩ pun40 rfl (OpF.tmp rfl)) (congrArg (f .f64) hx69)) <|
                 (tl rfl (optr 3 1 2) (LOp.fao und33 rfl siz26 rfl rfl rfl) <|
                 (TR.d (r := (sFc r75)) (fs := []) rfl rfl (TOp.load1_o rfl rfl agg26 rfl rfl) <|
                 (tm rfl (i64 v99) <|
                 (tl rfl (ptr [f32 e102]) (LOp.le (LOp.ix (f := f32) und26 siz28 rfl rfl rfl rfl he70) ALe.ptr) <|
                 (tl rfl (f32 e102) (y2 agg28) <|
                 (TR.d (r := f64 x103) (fs := []) rfl rfl (TOp.eqr (TOp.widen (src := 28) (dst := 40) ⟨_, pun28⟩ pun40 rfl (OpF.tmp rfl)) (congrArg (f .f64) hx71)) <|
                 (TR.d (r := f64 r104) (fs := []) rfl rfl (yc ent36 rfl rfl (bP bN0) (w_r8Gap_ok x101 x103 r104 hf72)) <|
                 (tl rfl (b true) (LOp.eqb (LOp.fgt rfl (OpF.tmp rfl) (OpF.const rfl (by kernel_rfl) (by kernel_rfl))) hc73) <|
                 TR.nil)))))))))))))) rfl (by kernel_rfl) rfl fills_nil rfl ?_
                iterate 14 refine ROps.dropS ?_
                refine ROps.drop0<|zN ?_
                refine RunC.wl (τ' := [(18, optr 3 1 0), (24, optr 1 2 0), (26, i64 v99), (231, b true)]) (Γ' := [⟨4, none⟩, ⟨2, some (mXc r95 r96 r98)⟩, ⟨1, none⟩, ⟨1, some (mXc r72 r73 r75)⟩, ⟨0, none⟩]) ⟨aR, aR, aR, aR, trivial⟩ ⟨⟨rfl, .inl rfl⟩, ⟨rfl, .inr rfl⟩, ⟨rfl, .inl rfl⟩, ⟨rfl, .inr rfl⟩, ⟨rfl, .inr rfl⟩, trivial⟩<|yT<|zQ<|ya rfl (b false)<|zN ?_
                refine RunC.ret ?_
                cases oI h44_
                have hx45_ := hr44 _ rfl
                subst hx45_
                have hq := oI h
                subst q0
                exact bodyQ.pure (.inr rfl) rfl (Res.one rfl (RV.tmp rfl))
               ·refine RunC.region_draw (Γ' := [⟨4, none⟩, ⟨2, some (mXc r95 r96 r98)⟩, ⟨1, none⟩, ⟨1, some (mXc r72 r73 r75)⟩, ⟨0, none⟩]) 14 mixed 
                 (tl rfl (optr 1 2 2) (LOp.fao und33 rfl siz26 rfl rfl rfl) <|
                 (TR.d (r := (sFc r98)) (fs := []) rfl rfl (TOp.load1_o rfl rfl agg26 rfl rfl) <|
                 (tm rfl (i64 v99) <|
                 (tl rfl (ptr [f32 e100]) (LOp.le (LOp.ix (f := f32) und26 siz28 rfl rfl rfl rfl he68) ALe.ptr) <|
                 (tl rfl (f32 e100) (y2 agg28) <|
                 (TR.d (r := f64 x101) (fs := []) rfl rfl (TOp.eqr (TOp.widen (src := 28) (dst := 40) ⟨_, pun28⟩ pun40 rfl (OpF.tmp rfl)) (congrArg (f .f64) hx69)) <|
                 (tl rfl (optr 3 1 2) (LOp.fao und33 rfl siz26 rfl rfl rfl) <|
                 (TR.d (r := (sFc r75)) (fs := []) rfl rfl (TOp.load1_o rfl rfl agg26 rfl rfl) <|
                 (tm rfl (i64 v99) <|
                 (tl rfl (ptr [f32 e102]) (LOp.le (LOp.ix (f := f32) und26 siz28 rfl rfl rfl rfl he70) ALe.ptr) <|
                 (tl rfl (f32 e102) (y2 agg28) <|
                 (TR.d (r := f64 x103) (fs := []) rfl rfl (TOp.eqr (TOp.widen (src := 28) (dst := 40) ⟨_, pun28⟩ pun40 rfl (OpF.tmp rfl)) (congrArg (f .f64) hx71)) <|
                 (TR.d (r := f64 r104) (fs := []) rfl rfl (yc ent36 rfl rfl (bP bN0) (w_r8Gap_ok x101 x103 r104 hf72)) <|
                 (tl rfl (b false) (LOp.eqb (LOp.fgt rfl (OpF.tmp rfl) (OpF.const rfl (by kernel_rfl) (by kernel_rfl))) hc73) <|
                 TR.nil)))))))))))))) rfl (by kernel_rfl) rfl fills_nil rfl ?_
                iterate 14 refine ROps.dropS ?_
                refine ROps.drop0<|zN ?_
                refine RunC.wl (τ' := [(18, optr 3 1 0), (24, optr 1 2 0), (26, i64 v99), (231, b false)]) (Γ' := [⟨4, none⟩, ⟨2, some (mXc r95 r96 r98)⟩, ⟨1, none⟩, ⟨1, some (mXc r72 r73 r75)⟩, ⟨0, none⟩]) ⟨aR, aR, aR, aR, trivial⟩ ⟨⟨rfl, .inl rfl⟩, ⟨rfl, .inr rfl⟩, ⟨rfl, .inl rfl⟩, ⟨rfl, .inr rfl⟩, ⟨rfl, .inr rfl⟩, trivial⟩<|yF<|RunC.skip ?_
                obtain ⟨x105, hx74, h44_⟩ := oL h44_
                refine yW<|ym rfl (i64 v99)<|yl rfl (i64 x105) (LOp.eqr (LOp.add rfl rfl rfl) (congrArg (ik .i64) hx74))<|ya rfl (i64 x105)<|zN ?_
                cases oI h44_
                exact ⟨_, rfl, (Le.of ⟨aR, aR, aR, trivial⟩ ⟨⟨rfl, .inl rfl⟩, ⟨rfl, .inr rfl⟩, ⟨rfl, .inl rfl⟩, ⟨rfl, .inr rfl⟩, ⟨rfl, .inr rfl⟩, trivial⟩)⟩
              ·refine yW<|ym rfl (i64 v99)<|yl rfl (optr 3 1 2) (LOp.fao und33 rfl siz26 rfl rfl rfl)<|yd rfl (sFc r75) (TOp.load1_o rfl rfl agg26 rfl rfl)<|yl rfl (i64 (r75.length : Int)) (LOp.len_sl und26 rfl rfl)<|yl rfl (b false) (LOp.eqb (LOp.lss rfl rfl rfl) hc67)<|zN ?_
               refine yF<|RunC.exit ?_
               cases oI h44_
               have hx := ho44 _ rfl
               exact ⟨(Le.of trivial ⟨⟨rfl, .inl rfl⟩, ⟨rfl, .inl rfl⟩, ⟨rfl, .inl rfl⟩, ⟨rfl, .inl rfl⟩, ⟨rfl, .inr rfl⟩, trivial⟩), hx⟩
             ·rintro τ46 Γ46 ⟨hw46, rfl⟩
              refine RunC.le hw46 ?_
              replace h : w_FnFunctions_k22 = some q0 := h
              unfold w_FnFunctions_k22 at h
              refine zQ<|ya rfl (b true)<|zN ?_
              refine RunC.ret ?_
              have hq := oI h
              subst q0
              exact bodyQ.pure (.inr rfl) rfl (Res.one rfl (RV.tmp rfl))
end
end Go.Proofs.Ytkdociaoknmgbaa
