/- Generated. -/
import Derived.Test.YtfhbfpdeafpelaaG0
namespace Go.Proofs.Ytfhbfpdeafpelaa
open Go Go.AM Go.AM.AV
set_option maxRecDepth 20000
set_option maxHeartbeats 4000000
set_option linter.unusedVariables false
set_option linter.unusedSimpArgs false
noncomputable section
def K14_b2 (a1 : List Int) (a2 : List Int) (v11 : Int) (v14 : Int) : Option (LR (Int) (Unit) (Bool)) :=
 olet (IntKind.i64.wrap (v11 + 1)) fun (x15 : Int) =>
 obind (at? a1 x15) fun (e16 : Int) =>
 bsel (decide (v14 < e16)) (
  olet (IntKind.i64.wrap (v14 - 1)) fun (x17 : Int) =>
  obind (at? a2 x17) fun (e18 : Int) =>
  obind (at? a2 v14) fun (e19 : Int) =>
  bsel (decide (e19 ≤ e18)) (
   some (LR.ret false)) (
   olet (IntKind.i64.wrap (v14 + 1)) fun (x20 : Int) =>
   some (LR.next x20))) (
  some (LR.out ()))
def K14_s2 (a1 : List Int) (a2 : List Int) (v11 : Int) : (Int) → Option (LR (Int) (Unit) (Bool)) := fun s => K14_b2 a1 a2 v11 s
def K14_k2 (v11 : Int) : Option (LR (Int) (Unit) (Bool)) :=
 olet (IntKind.i64.wrap (v11 + 1)) fun (x21 : Int) =>
 some (LR.next x21)
def K14_b3 (a0 : Int) (a1 : List Int) (a2 : List Int) (v11 : Int) : Option (LR (Int) (Unit) (Bool)) :=
 bsel (decide (v11 < a0)) (
  obind (at? a1 v11) fun (e12 : Int) =>
  olet (IntKind.i64.wrap (e12 + 1)) fun (x13 : Int) =>
  obind (loopM (K14_s2 a1 a2 v11) x13) fun z => osum z (fun e => K14_k2 v11) (fun r => some (LR.ret r))) (
  some (LR.out ()))
def K14_s3 (a0 : Int) (a1 : List Int) (a2 : List Int) : (Int) → Option (LR (Int) (Unit) (Bool)) := fun s => K14_b3 a0 a1 a2 s
def K14_k3  : Option (Bool) :=
 some true
def K14 (a0 : Int) (a1 : List Int) (a2 : List Int) (a3 : List F) : Option (Bool) :=
 obind (K0m a2) fun (r1 : Int) =>
 obind (K0n a0 1 32) fun (r2 : Bool) =>
 bsel r2 (
  obind (K0m a1) fun (r3 : Int) =>
  olet (IntKind.i64.wrap (a0 + 1)) fun (x4 : Int) =>
  bsel (!decide (r3 = x4)) (
   some false) (
   bsel (decide (512 < r1)) (
    some false) (
    bsel (!decide ((a3.length : Int) = (a2.length : Int))) (
     some false) (
     obind (at? a1 0) fun (e5 : Int) =>
     bsel (!decide (e5 = 0)) (
      some false) (
      obind (at? a1 a0) fun (e6 : Int) =>
      bsel (!decide (e6 = r1)) (
       some false) (
       obind (K0q a1) fun (r7 : Bool) =>
       bsel r7 (
        olet (IntKind.i64.wrap (a0 - 1)) fun (x8 : Int) =>
        obind (K0u a2 0 x8) fun (r9 : Bool) =>
        bsel r9 (
         obind (K13 a3) fun (r10 : Bool) =>
         bsel r10 (
          obind (loopM (K14_s3 a0 a1 a2) 0) fun z => osum z (fun _ => K14_k3) (fun r => some r)) (
          some false)) (
         some false)) (
        some false))))))) (
  some false)
theorem K14_ok (a0 : Int) (a1 : List Int) (a2 : List Int) (a3 : List F) (q0 : Bool) (h : K14 a0 a1 a2 a3 = some q0) : Ev Try.prog 30 [agg [i64 a0, sl a1.length (a1.map i64), sl a2.length (a2.map i64), (sFc a3)]] [] (b q0) [] := by
 refine yE Try.func30 0 211 0 ([(0, agg [i64 a0, sl a1.length (a1.map i64), sl a2.length (a2.map i64), (sFc a3)])]) [] rfl ?_
 unfold K14 at h
 refine zQ<|yd rfl (ptr [i64 a0, sl a1.length (a1.map i64), sl a2.length (a2.map i64), (sFc a3)]) (TOp.box_s rfl rfl rfl)<|ya rfl (b false)<|zN ?_
 refine yS ?_
 obtain ⟨r1, hf1, h⟩ := oS h
 refine yW<|yl rfl (ptr [sl a2.length (a2.map i64), (sFc a3)]) (LOp.fap und30 rfl siz22 rfl rfl rfl)<|yl rfl (sl a2.length (a2.map i64)) (n2 agg22)<|yd rfl (i64 r1) (yc ent104 rfl rfl (bS bN) (K0m_ok a2 r1 hf1))<|ya rfl (i64 r1)<|zN ?_
 refine yS<|yS ?_
 obtain ⟨r2, hf2, h⟩ := oS h
 rcases oB h with ⟨hc3, h⟩ | ⟨hc3, h⟩
 ·obtain ⟨r3, hf4, h⟩ := oS h
  obtain ⟨x4, hx5, h⟩ := oL h
  rcases oB h with ⟨hc6, h⟩ | ⟨hc6, h⟩
  ·refine RunC.region_draw (Γ' := []) 43 mixed 
    (tl rfl (ptr [i64 a0, sl a1.length (a1.map i64), sl a2.length (a2.map i64), (sFc a3)]) (LOp.fap und30 rfl siz2 rfl rfl rfl) <|
    (tl rfl (i64 a0) (n2 agg2) <|
    (TR.d (r := b true) (fs := []) rfl rfl (TOp.eqb (yc ent82 rfl rfl (bP (bP bN0)) (K0n_ok a0 1 32 r2 hf2)) hc3) <|
    (tl rfl (b false) (LOp.eqb (LOp.not rfl rfl) rfl) <|
    (tm rfl (b false) <|
    (tl rfl (ptr [sl a1.length (a1.map i64), sl a2.length (a2.map i64), (sFc a3)]) (LOp.fap und30 rfl siz22 rfl rfl rfl) <|
    (tl rfl (sl a1.length (a1.map i64)) (n2 agg22) <|
    (TR.d (r := i64 r3) (fs := []) rfl rfl (yc ent104 rfl rfl (bS bN) (K0m_ok a1 r3 hf4)) <|
    (tl rfl (ptr [i64 a0, sl a1.length (a1.map i64), sl a2.length (a2.map i64), (sFc a3)]) (LOp.fap und30 rfl siz2 rfl rfl rfl) <|
    (tl rfl (i64 a0) (n2 agg2) <|
    (tl rfl (i64 x4) (LOp.eqr (LOp.add rfl rfl rfl) (congrArg (ik .i64) hx5)) <|
    (tl rfl (b true) (LOp.eqb (LOp.neq rfl rfl rfl) hc6) <|
    (tl rfl (b true) yp <|
    (tm rfl (b true) <|
    (ts rfl <|
    (ts rfl <|
    (tl rfl (b true) yq <|
    (tm rfl (b true) <|
    (ts rfl <|
    (ts rfl <|
    (ts rfl <|
    (ts rfl <|
    (ts rfl <|
    (ts rfl <|
    (ts rfl <|
    (tl rfl (b true) yq <|
    (tm rfl (b true) <|
    (ts rfl <|
    (ts rfl <|
    (ts rfl <|
    (ts rfl <|
    (ts rfl <|
    (tl rfl (b true) yq <|
    (tm rfl (b true) <|
    (ts rfl <|
    (ts rfl <|
    (ts rfl <|
    (ts rfl <|
    (ts rfl <|
    (ts rfl <|
    (ts rfl <|
    (ts rfl <|
    (tl rfl (b true) yq <|
    TR.nil))))))))))))))))))))))))))))))))))))))))))) rfl (by kernel_rfl) rfl fills_nil rfl ?_
   iterate 43 refine ROps.dropS ?_
   refine ROps.drop0<|zN ?_
   refine RunC.wl (τ' := [(1, ptr [i64 a0, sl a1.length (a1.map i64), sl a2.length (a2.map i64), (sFc a3)]), (51, b true)]) (Γ' := []) ⟨aR, aR, trivial⟩ trivial<|yT<|zQ<|ya rfl (b false)<|zN ?_
   refine RunC.ret ?_
   have hq := oI h
   subst q0
   exact bR rfl
  ·rcases oB h with ⟨hc7, h⟩ | ⟨hc7, h⟩
   ·refine RunC.region_draw (Γ' := []) 43 mixed 
     (tl rfl (ptr [i64 a0, sl a1.length (a1.map i64), sl a2.length (a2.map i64), (sFc a3)]) (LOp.fap und30 rfl siz2 rfl rfl rfl) <|
     (tl rfl (i64 a0) (n2 agg2) <|
     (TR.d (r := b true) (fs := []) rfl rfl (TOp.eqb (yc ent82 rfl rfl (bP (bP bN0)) (K0n_ok a0 1 32 r2 hf2)) hc3) <|
     (tl rfl (b false) (LOp.eqb (LOp.not rfl rfl) rfl) <|
     (tm rfl (b false) <|
     (tl rfl (ptr [sl a1.length (a1.map i64), sl a2.length (a2.map i64), (sFc a3)]) (LOp.fap und30 rfl siz22 rfl rfl rfl) <|
     (tl rfl (sl a1.length (a1.map i64)) (n2 agg22) <|
     (TR.d (r := i64 r3) (fs := []) rfl rfl (yc ent104 rfl rfl (bS bN) (K0m_ok a1 r3 hf4)) <|
     (tl rfl (ptr [i64 a0, sl a1.length (a1.map i64), sl a2.length (a2.map i64), (sFc a3)]) (LOp.fap und30 rfl siz2 rfl rfl rfl) <|
     (tl rfl (i64 a0) (n2 agg2) <|
     (tl rfl (i64 x4) (LOp.eqr (LOp.add rfl rfl rfl) (congrArg (ik .i64) hx5)) <|
     (tl rfl (b false) (LOp.eqb (LOp.neq rfl rfl rfl) hc6) <|
     (tl rfl (b false) yp <|
     (tm rfl (b false) <|
     (tm rfl (i64 r1) <|
     (tl rfl (b true) (LOp.eqb (LOp.gtr rfl rfl rfl) hc7) <|
     (tl rfl (b true) yp <|
     (tm rfl (b true) <|
     (ts rfl <|
     (ts rfl <|
     (ts rfl <|
     (ts rfl <|
     (ts rfl <|
     (ts rfl <|
     (ts rfl <|
     (tl rfl (b true) yq <|
     (tm rfl (b true) <|
     (ts rfl <|
     (ts rfl <|
     (ts rfl <|
     (ts rfl <|
     (ts rfl <|
     (tl rfl (b true) yq <|
     (tm rfl (b true) <|
     (ts rfl <|
     (ts rfl <|
     (ts rfl <|
     (ts rfl <|
     (ts rfl <|
     (ts rfl <|
     (ts rfl <|
     (ts rfl <|
     (tl rfl (b true) yq <|
     TR.nil))))))))))))))))))))))))))))))))))))))))))) rfl (by kernel_rfl) rfl fills_nil rfl ?_
    iterate 43 refine ROps.dropS ?_
    refine ROps.drop0<|zN ?_
    refine RunC.wl (τ' := [(1, ptr [i64 a0, sl a1.length (a1.map i64), sl a2.length (a2.map i64), (sFc a3)]), (51, b true)]) (Γ' := []) ⟨aR, aR, trivial⟩ trivial<|yT<|zQ<|ya rfl (b false)<|zN ?_
    refine RunC.ret ?_
    have hq := oI h
    subst q0
    exact bR rfl
   ·rcases oB h with ⟨hc8, h⟩ | ⟨hc8, h⟩
    ·refine RunC.region_draw (Γ' := []) 43 mixed 
      (tl rfl (ptr [i64 a0, sl a1.length (a1.map i64), sl a2.length (a2.map i64), (sFc a3)]) (LOp.fap und30 rfl siz2 rfl rfl rfl) <|
      (tl rfl (i64 a0) (n2 agg2) <|
      (TR.d (r := b true) (fs := []) rfl rfl (TOp.eqb (yc ent82 rfl rfl (bP (bP bN0)) (K0n_ok a0 1 32 r2 hf2)) hc3) <|
      (tl rfl (b false) (LOp.eqb (LOp.not rfl rfl) rfl) <|
      (tm rfl (b false) <|
      (tl rfl (ptr [sl a1.length (a1.map i64), sl a2.length (a2.map i64), (sFc a3)]) (LOp.fap und30 rfl siz22 rfl rfl rfl) <|
      (tl rfl (sl a1.length (a1.map i64)) (n2 agg22) <|
      (TR.d (r := i64 r3) (fs := []) rfl rfl (yc ent104 rfl rfl (bS bN) (K0m_ok a1 r3 hf4)) <|
      (tl rfl (ptr [i64 a0, sl a1.length (a1.map i64), sl a2.length (a2.map i64), (sFc a3)]) (LOp.fap und30 rfl siz2 rfl rfl rfl) <|
      (tl rfl (i64 a0) (n2 agg2) <|
      (tl rfl (i64 x4) (LOp.eqr (LOp.add rfl rfl rfl) (congrArg (ik .i64) hx5)) <|
      (tl rfl (b false) (LOp.eqb (LOp.neq rfl rfl rfl) hc6) <|
      (tl rfl (b false) yp <|
      (tm rfl (b false) <|
      (tm rfl (i64 r1) <|
      (tl rfl (b false) (LOp.eqb (LOp.gtr rfl rfl rfl) hc7) <|
      (tl rfl (b false) yp <|
      (tm rfl (b false) <|
      (tl rfl (ptr [(sFc a3)]) (LOp.fap und30 rfl siz23 rfl rfl rfl) <|
      (tl rfl (sFc a3) (n2 agg23) <|
      (tl rfl (i64 (a3.length : Int)) (LOp.len_sl und23 rfl rfl) <|
      (tl rfl (ptr [sl a2.length (a2.map i64), (sFc a3)]) (LOp.fap und30 rfl siz22 rfl rfl rfl) <|
      (tl rfl (sl a2.length (a2.map i64)) (n2 agg22) <|
      (tl rfl (i64 (a2.length : Int)) (LOp.len_sl und22 rfl rfl) <|
      (tl rfl (b true) (LOp.eqb (LOp.neq rfl rfl rfl) hc8) <|
      (tl rfl (b true) yp <|
      (tm rfl (b true) <|
      (ts rfl <|
      (ts rfl <|
      (ts rfl <|
      (ts rfl <|
      (ts rfl <|
      (tl rfl (b true) yq <|
      (tm rfl (b true) <|
      (ts rfl <|
      (ts rfl <|
      (ts rfl <|
      (ts rfl <|
      (ts rfl <|
      (ts rfl <|
      (ts rfl <|
      (ts rfl <|
      (tl rfl (b true) yq <|
      TR.nil))))))))))))))))))))))))))))))))))))))))))) rfl (by kernel_rfl) rfl fills_nil rfl ?_
     iterate 43 refine ROps.dropS ?_
     refine ROps.drop0<|zN ?_
     refine RunC.wl (τ' := [(1, ptr [i64 a0, sl a1.length (a1.map i64), sl a2.length (a2.map i64), (sFc a3)]), (51, b true)]) (Γ' := []) ⟨aR, aR, trivial⟩ trivial<|yT<|zQ<|ya rfl (b false)<|zN ?_
     refine RunC.ret ?_
     have hq := oI h
     subst q0
     exact bR rfl
    ·obtain ⟨e5, he9, h⟩ := oS h
     rcases oB h with ⟨hc10, h⟩ | ⟨hc10, h⟩
     ·refine RunC.region_draw (Γ' := []) 43 mixed 
       (tl rfl (ptr [i64 a0, sl a1.length (a1.map i64), sl a2.length (a2.map i64), (sFc a3)]) (LOp.fap und30 rfl siz2 rfl rfl rfl) <|
       (tl rfl (i64 a0) (n2 agg2) <|
       (TR.d (r := b true) (fs := []) rfl rfl (TOp.eqb (yc ent82 rfl rfl (bP (bP bN0)) (K0n_ok a0 1 32 r2 hf2)) hc3) <|
       (tl rfl (b false) (LOp.eqb (LOp.not rfl rfl) rfl) <|
       (tm rfl (b false) <|
       (tl rfl (ptr [sl a1.length (a1.map i64), sl a2.length (a2.map i64), (sFc a3)]) (LOp.fap und30 rfl siz22 rfl rfl rfl) <|
       (tl rfl (sl a1.length (a1.map i64)) (n2 agg22) <|
       (TR.d (r := i64 r3) (fs := []) rfl rfl (yc ent104 rfl rfl (bS bN) (K0m_ok a1 r3 hf4)) <|
       (tl rfl (ptr [i64 a0, sl a1.length (a1.map i64), sl a2.length (a2.map i64), (sFc a3)]) (LOp.fap und30 rfl siz2 rfl rfl rfl) <|
       (tl rfl (i64 a0) (n2 agg2) <|
       (tl rfl (i64 x4) (LOp.eqr (LOp.add rfl rfl rfl) (congrArg (ik .i64) hx5)) <|
       (tl rfl (b false) (LOp.eqb (LOp.neq rfl rfl rfl) hc6) <|
       (tl rfl (b false) yp <|
       (tm rfl (b false) <|
       (tm rfl (i64 r1) <|
       (tl rfl (b false) (LOp.eqb (LOp.gtr rfl rfl rfl) hc7) <|
       (tl rfl (b false) yp <|
       (tm rfl (b false) <|
       (tl rfl (ptr [(sFc a3)]) (LOp.fap und30 rfl siz23 rfl rfl rfl) <|
       (tl rfl (sFc a3) (n2 agg23) <|
       (tl rfl (i64 (a3.length : Int)) (LOp.len_sl und23 rfl rfl) <|
       (tl rfl (ptr [sl a2.length (a2.map i64), (sFc a3)]) (LOp.fap und30 rfl siz22 rfl rfl rfl) <|
       (tl rfl (sl a2.length (a2.map i64)) (n2 agg22) <|
       (tl rfl (i64 (a2.length : Int)) (LOp.len_sl und22 rfl rfl) <|
       (tl rfl (b false) (LOp.eqb (LOp.neq rfl rfl rfl) hc8) <|
       (tl rfl (b false) yp <|
       (tm rfl (b false) <|
       (tl rfl (ptr [sl a1.length (a1.map i64), sl a2.length (a2.map i64), (sFc a3)]) (LOp.fap und30 rfl siz22 rfl rfl rfl) <|
       (tl rfl (sl a1.length (a1.map i64)) (n2 agg22) <|
       (tl rfl (ptr [i64 e5]) (LOp.le (LOp.ix (f := i64) und22 siz2 rfl rfl rfl rfl he9) ALe.ptr) <|
       (tl rfl (i64 e5) (n2 agg2) <|
       (tl rfl (b true) (LOp.eqb (LOp.neq rfl rfl rfl) hc10) <|
       (tl rfl (b true) yp <|
       (tm rfl (b true) <|
       (ts rfl <|
       (ts rfl <|
       (ts rfl <|
       (ts rfl <|
       (ts rfl <|
       (ts rfl <|
       (ts rfl <|
       (ts rfl <|
       (tl rfl (b true) yq <|
       TR.nil))))))))))))))))))))))))))))))))))))))))))) rfl (by kernel_rfl) rfl fills_nil rfl ?_
      iterate 43 refine ROps.dropS ?_
      refine ROps.drop0<|zN ?_
      refine RunC.wl (τ' := [(1, ptr [i64 a0, sl a1.length (a1.map i64), sl a2.length (a2.map i64), (sFc a3)]), (51, b true)]) (Γ' := []) ⟨aR, aR, trivial⟩ trivial<|yT<|zQ<|ya rfl (b false)<|zN ?_
      refine RunC.ret ?_
      have hq := oI h
      subst q0
      exact bR rfl
     ·obtain ⟨e6, he11, h⟩ := oS h
      rcases oB h with ⟨hc12, h⟩ | ⟨hc12, h⟩
      ·refine RunC.region_draw (Γ' := []) 43 mixed 
        (tl rfl (ptr [i64 a0, sl a1.length (a1.map i64), sl a2.length (a2.map i64), (sFc a3)]) (LOp.fap und30 rfl siz2 rfl rfl rfl) <|
        (tl rfl (i64 a0) (n2 agg2) <|
        (TR.d (r := b true) (fs := []) rfl rfl (TOp.eqb (yc ent82 rfl rfl (bP (bP bN0)) (K0n_ok a0 1 32 r2 hf2)) hc3) <|
        (tl rfl (b false) (LOp.eqb (LOp.not rfl rfl) rfl) <|
        (tm rfl (b false) <|
        (tl rfl (ptr [sl a1.length (a1.map i64), sl a2.length (a2.map i64), (sFc a3)]) (LOp.fap und30 rfl siz22 rfl rfl rfl) <|
        (tl rfl (sl a1.length (a1.map i64)) (n2 agg22) <|
        (TR.d (r := i64 r3) (fs := []) rfl rfl (yc ent104 rfl rfl (bS bN) (K0m_ok a1 r3 hf4)) <|
        (tl rfl (ptr [i64 a0, sl a1.length (a1.map i64), sl a2.length (a2.map i64), (sFc a3)]) (LOp.fap und30 rfl siz2 rfl rfl rfl) <|
        (tl rfl (i64 a0) (n2 agg2) <|
        (tl rfl (i64 x4) (LOp.eqr (LOp.add rfl rfl rfl) (congrArg (ik .i64) hx5)) <|
        (tl rfl (b false) (LOp.eqb (LOp.neq rfl rfl rfl) hc6) <|
        (tl rfl (b false) yp <|
        (tm rfl (b false) <|
        (tm rfl (i64 r1) <|
        (tl rfl (b false) (LOp.eqb (LOp.gtr rfl rfl rfl) hc7) <|
        (tl rfl (b false) yp <|
        (tm rfl (b false) <|
        (tl rfl (ptr [(sFc a3)]) (LOp.fap und30 rfl siz23 rfl rfl rfl) <|
        (tl rfl (sFc a3) (n2 agg23) <|
        (tl rfl (i64 (a3.length : Int)) (LOp.len_sl und23 rfl rfl) <|
        (tl rfl (ptr [sl a2.length (a2.map i64), (sFc a3)]) (LOp.fap und30 rfl siz22 rfl rfl rfl) <|
        (tl rfl (sl a2.length (a2.map i64)) (n2 agg22) <|
        (tl rfl (i64 (a2.length : Int)) (LOp.len_sl und22 rfl rfl) <|
        (tl rfl (b false) (LOp.eqb (LOp.neq rfl rfl rfl) hc8) <|
        (tl rfl (b false) yp <|
        (tm rfl (b false) <|
        (tl rfl (ptr [sl a1.length (a1.map i64), sl a2.length (a2.map i64), (sFc a3)]) (LOp.fap und30 rfl siz22 rfl rfl rfl) <|
        (tl rfl (sl a1.length (a1.map i64)) (n2 agg22) <|
        (tl rfl (ptr [i64 e5]) (LOp.le (LOp.ix (f := i64) und22 siz2 rfl rfl rfl rfl he9) ALe.ptr) <|
        (tl rfl (i64 e5) (n2 agg2) <|
        (tl rfl (b false) (LOp.eqb (LOp.neq rfl rfl rfl) hc10) <|
        (tl rfl (b false) yp <|
        (tm rfl (b false) <|
        (tl rfl (ptr [sl a1.length (a1.map i64), sl a2.length (a2.map i64), (sFc a3)]) (LOp.fap und30 rfl siz22 rfl rfl rfl) <|
        (tl rfl (sl a1.length (a1.map i64)) (n2 agg22) <|
        (tl rfl (ptr [i64 a0, sl a1.length (a1.map i64), sl a2.length (a2.map i64), (sFc a3)]) (LOp.fap und30 rfl siz2 rfl rfl rfl) <|
        (tl rfl (i64 a0) (n2 agg2) <|
        (tl rfl (ptr [i64 e6]) (LOp.le (LOp.ix (f := i64) und22 siz2 rfl rfl rfl rfl he11) ALe.ptr) <|
        (tl rfl (i64 e6) (n2 agg2) <|
        (tm rfl (i64 r1) <|
        (tl rfl (b true) (LOp.eqb (LOp.neq rfl rfl rfl) hc12) <|
        (tl rfl (b true) yp <|
        TR.nil))))))))))))))))))))))))))))))))))))))))))) rfl (by kernel_rfl) rfl fills_nil rfl ?_
       iterate 43 refine ROps.dropS ?_
       refine ROps.drop0<|zN ?_
       refine RunC.wl (τ' := [(1, ptr [i64 a0, sl a1.length (a1.map i64), sl a2.length (a2.map i64), (sFc a3)]), (51, b true)]) (Γ' := []) ⟨aR, aR, trivial⟩ trivial<|yT<|zQ<|ya rfl (b false)<|zN ?_
       refine RunC.ret ?_
       have hq := oI h
       subst q0
       exact bR rfl
      ·refine RunC.region_draw (Γ' := []) 43 mixed 
        (tl rfl (ptr [i64 a0, sl a1.length (a1.map i64), sl a2.length (a2.map i64), (sFc a3)]) (LOp.fap und30 rfl siz2 rfl rfl rfl) <|
        (tl rfl (i64 a0) (n2 agg2) <|
        (TR.d (r := b true) (fs := []) rfl rfl (TOp.eqb (yc ent82 rfl rfl (bP (bP bN0)) (K0n_ok a0 1 32 r2 hf2)) hc3) <|
        (tl rfl (b false) (LOp.eqb (LOp.not rfl rfl) rfl) <|
        (tm rfl (b false) <|
        (tl rfl (ptr [sl a1.length (a1.map i64), sl a2.length (a2.map i64), (sFc a3)]) (LOp.fap und30 rfl siz22 rfl rfl rfl) <|
        (tl rfl (sl a1.length (a1.map i64)) (n2 agg22) <|
        (TR.d (r := i64 r3) (fs := []) rfl rfl (yc ent104 rfl rfl (bS bN) (K0m_ok a1 r3 hf4)) <|
        (tl rfl (ptr [i64 a0, sl a1.length (a1.map i64), sl a2.length (a2.map i64), (sFc a3)]) (LOp.fap und30 rfl siz2 rfl rfl rfl) <|
        (tl rfl (i64 a0) (n2 agg2) <|
        (tl rfl (i64 x4) (LOp.eqr (LOp.add rfl rfl rfl) (congrArg (ik .i64) hx5)) <|
        (tl rfl (b false) (LOp.eqb (LOp.neq rfl rfl rfl) hc6) <|
        (tl rfl (b false) yp <|
        (tm rfl (b false) <|
        (tm rfl (i64 r1) <|
        (tl rfl (b false) (LOp.eqb (LOp.gtr rfl rfl rfl) hc7) <|
        (tl rfl (b false) yp <|
        (tm rfl (b false) <|
        (tl rfl (ptr [(sFc a3)]) (LOp.fap und30 rfl siz23 rfl rfl rfl) <|
        (tl rfl (sFc a3) (n2 agg23) <|
        (tl rfl (i64 (a3.length : Int)) (LOp.len_sl und23 rfl rfl) <|
        (tl rfl (ptr [sl a2.length (a2.map i64), (sFc a3)]) (LOp.fap und30 rfl siz22 rfl rfl rfl) <|
        (tl rfl (sl a2.length (a2.map i64)) (n2 agg22) <|
        (tl rfl (i64 (a2.length : Int)) (LOp.len_sl und22 rfl rfl) <|
        (tl rfl (b false) (LOp.eqb (LOp.neq rfl rfl rfl) hc8) <|
        (tl rfl (b false) yp <|
        (tm rfl (b false) <|
        (tl rfl (ptr [sl a1.length (a1.map i64), sl a2.length (a2.map i64), (sFc a3)]) (LOp.fap und30 rfl siz22 rfl rfl rfl) <|
        (tl rfl (sl a1.length (a1.map i64)) (n2 agg22) <|
        (tl rfl (ptr [i64 e5]) (LOp.le (LOp.ix (f := i64) und22 siz2 rfl rfl rfl rfl he9) ALe.ptr) <|
        (tl rfl (i64 e5) (n2 agg2) <|
        (tl rfl (b false) (LOp.eqb (LOp.neq rfl rfl rfl) hc10) <|
        (tl rfl (b false) yp <|
        (tm rfl (b false) <|
        (tl rfl (ptr [sl a1.length (a1.map i64), sl a2.length (a2.map i64), (sFc a3)]) (LOp.fap und30 rfl siz22 rfl rfl rfl) <|
        (tl rfl (sl a1.length (a1.map i64)) (n2 agg22) <|
        (tl rfl (ptr [i64 a0, sl a1.length (a1.map i64), sl a2.length (a2.map i64), (sFc a3)]) (LOp.fap und30 rfl siz2 rfl rfl rfl) <|
        (tl rfl (i64 a0) (n2 agg2) <|
        (tl rfl (ptr [i64 e6]) (LOp.le (LOp.ix (f := i64) und22 siz2 rfl rfl rfl rfl he11) ALe.ptr) <|
        (tl rfl (i64 e6) (n2 agg2) <|
        (tm rfl (i64 r1) <|
        (tl rfl (b false) (LOp.eqb (LOp.neq rfl rfl rfl) hc12) <|
        (tl rfl (b false) yp <|
        TR.nil))))))))))))))))))))))))))))))))))))))))))) rfl (by kernel_rfl) rfl fills_nil rfl ?_
       iterate 43 refine ROps.dropS ?_
       refine ROps.drop0<|zN ?_
       refine RunC.wl (τ' := [(1, ptr [i64 a0, sl a1.length (a1.map i64), sl a2.length (a2.map i64), (sFc a3)]), (51, b false)]) (Γ' := []) ⟨aR, aR, trivial⟩ trivial<|yF<|RunC.skip<|yS<|yS ?_
       obtain ⟨r7, hf13, h⟩ := oS h
       rcases oB h with ⟨hc14, h⟩ | ⟨hc14, h⟩
       ·obtain ⟨x8, hx15, h⟩ := oL h
        obtain ⟨r9, hf16, h⟩ := oS h
        rcases oB h with ⟨hc17, h⟩ | ⟨hc17, h⟩
        ·obtain ⟨r10, hf18, h⟩ := oS h
         rcases oB h with ⟨hc19, h⟩ | ⟨hc19, h⟩
         ·refine yW<|yl rfl (ptr [sl a1.length (a1.map i64), sl a2.length (a2.map i64), (sFc a3)]) (LOp.fap und30 rfl siz22 rfl rfl rfl)<|yl rfl (sl a1.length (a1.map i64)) (n2 agg22)<|yd rfl (b true) (TOp.eqb (yc ent105 rfl rfl (bS bN) (K0q_ok a1 r7 hf13)) hc14)<|yl rfl (b false) n1<|ym rfl (b false)<|yl rfl (ptr [sl a2.length (a2.map i64), (sFc a3)]) (LOp.fap und30 rfl siz22 rfl rfl rfl)<|yl rfl (sl a2.length (a2.map i64)) (n2 agg22)<|yl rfl (ptr [i64 a0, sl a1.length (a1.map i64), sl a2.length (a2.map i64), (sFc a3)]) (LOp.fap und30 rfl siz2 rfl rfl rfl)<|yl rfl (i64 a0) (n2 agg2)<|yl rfl (i64 x8) (LOp.eqr (LOp.sub rfl rfl rfl) (congrArg (ik .i64) hx15))<|yd rfl (b true) (TOp.eqb (yc ent106 rfl rfl (bS (bP bN0)) (K0u_ok a2 0 x8 r9 hf16)) hc17)<|yl rfl (b false) n1<|yl rfl (b false) yp<|ym rfl (b false)<|yl rfl (ptr [(sFc a3)]) (LOp.fap und30 rfl siz23 rfl rfl rfl)<|yl rfl (sFc a3) (n2 agg23)<|yd rfl (b true) (TOp.eqb (yc ent81 rfl rfl (bS bN) (K13_ok a3 r10 hf18)) hc19)<|yl rfl (b false) n1<|yl rfl (b false) yp<|zN ?_
          refine RunC.wl (τ' := [(1, ptr [i64 a0, sl a1.length (a1.map i64), sl a2.length (a2.map i64), (sFc a3)]), (70, b false)]) (Γ' := []) ⟨aR, aR, trivial⟩ trivial<|yF<|RunC.skip<|yS<|zQ<|yl rfl (ptr [i64 a0, sl a1.length (a1.map i64), sl a2.length (a2.map i64), (sFc a3)]) (LOp.fap und30 rfl siz2 rfl rfl rfl)<|yl rfl (i64 a0) (n2 agg2)<|ym rfl (i64 0)<|zN ?_
          obtain ⟨z4, hz_4, h⟩ := oS h
          refine RunC.cutN (fun τ Γ => WeakLe τ [] ∧ DeadLe Γ [] ∧ z4 = .inl ()) ?_ ?_
          ·refine RunC.block (RunC.loop (RunL.loopM (x := z4) (K14_s3 a0 a1 a2) (fun (s : Int) τ Γ => WeakLe τ [(1, ptr [i64 a0, sl a1.length (a1.map i64), sl a2.length (a2.map i64), (sFc a3)]), (72, i64 a0), (73, i64 s)] ∧ DeadLe Γ []) ?_ _ _ _ hz_4 ⟨⟨aR, aR, aR, trivial⟩, trivial⟩))
           rintro v11 τ4 Γ4 y4_ ⟨hw4, hd4⟩ h4_ ho4 hr4
           refine RunC.wl (τ' := [(1, ptr [i64 a0, sl a1.length (a1.map i64), sl a2.length (a2.map i64), (sFc a3)]), (72, i64 a0), (73, i64 v11)]) (Γ' := []) hw4 hd4 ?_
           replace h4_ : K14_b3 a0 a1 a2 v11 = some y4_ := h4_
           unfold K14_b3 at h4_
           refine yS ?_
           rcases oB h4_ with ⟨hc20, h4_⟩ | ⟨hc20, h4_⟩
           ·refine yW<|yl rfl (b true) (LOp.eqb (LOp.lss rfl rfl rfl) hc20)<|zN ?_
            refine yS<|yT<|RunC.skip<|yS<|RunC.block<|zQ<|ym rfl (i64 v11)<|ya rfl (i64 v11)<|zN ?_
            refine yS ?_
            obtain ⟨e12, he21, h4_⟩ := oS h4_
            obtain ⟨x13, hx22, h4_⟩ := oL h4_
            refine yW<|yl rfl (ptr [sl a1.length (a1.map i64), sl a2.length (a2.map i64), (sFc a3)]) (LOp.fap und30 rfl siz22 rfl rfl rfl)<|yl rfl (sl a1.length (a1.map i64)) (n2 agg22)<|ym rfl (i64 v11)<|yl rfl (ptr [i64 e12]) (LOp.le (LOp.ix (f := i64) und22 siz2 rfl rfl rfl rfl he21) ALe.ptr)<|yl rfl (i64 e12) (n2 agg2)<|yl rfl (i64 x13) (LOp.eqr (LOp.add rfl rfl rfl) (congrArg (ik .i64) hx22))<|ya rfl (i64 x13)<|zN ?_
            obtain ⟨z5, hz_5, h4_⟩ := oS h4_
            refine RunC.cutN (fun τ Γ => WeakLe τ [(1, ptr [i64 a0, sl a1.length (a1.map i64), sl a2.length (a2.map i64), (sFc a3)]), (72, i64 a0), (73, i64 v11)] ∧ DeadLe Γ [] ∧ z5 = .inl ()) ?_ ?_
            ·refine RunC.block (RunC.loop (RunL.loopM (x := z5) (K14_s2 a1 a2 v11) (fun (s : Int) τ Γ => WeakLe τ [(1, ptr [i64 a0, sl a1.length (a1.map i64), sl a2.length (a2.map i64), (sFc a3)]), (4, i64 v11), (5, i64 s), (72, i64 a0), (73, i64 v11)] ∧ DeadLe Γ []) ?_ _ _ _ hz_5 ⟨⟨aR, aR, aR, aR, aR, trivial⟩, trivial⟩))
             rintro v14 τ5 Γ5 y5_ ⟨hw5, hd5⟩ h5_ ho5 hr5
             refine RunC.wl (τ' := [(1, ptr [i64 a0, sl a1.length (a1.map i64), sl a2.length (a2.map i64), (sFc a3)]), (4, i64 v11), (5, i64 v14), (72, i64 a0), (73, i64 v11)]) (Γ' := []) hw5 hd5 ?_
             replace h5_ : K14_b2 a1 a2 v11 v14 = some y5_ := h5_
             unfold K14_b2 at h5_
             refine yS<|yS ?_
             obtain ⟨x15, hx23, h5_⟩ := oL h5_
             obtain ⟨e16, he24, h5_⟩ := oS h5_
             rcases oB h5_ with ⟨hc25, h5_⟩ | ⟨hc25, h5_⟩
             ·refine yW<|ym rfl (i64 v14)<|yl rfl (ptr [sl a1.length (a1.map i64), sl a2.length (a2.map i64), (sFc a3)]) (LOp.fap und30 rfl siz22 rfl rfl rfl)<|yl rfl (sl a1.length (a1.map i64)) (n2 agg22)<|ym rfl (i64 v11)<|yl rfl (i64 x15) (LOp.eqr (LOp.add rfl rfl rfl) (congrArg (ik .i64) hx23))<|yl rfl (ptr [i64 e16]) (LOp.le (LOp.ix (f := i64) und22 siz2 rfl rfl rfl rfl he24) ALe.ptr)<|yl rfl (i64 e16) (n2 agg2)<|yl rfl (b true) (LOp.eqb (LOp.lss rfl rfl rfl) hc25)<|zN ?_
              refine yT<|RunC.skip<|yS<|RunC.block<|yS ?_
              obtain ⟨x17, hx26, h5_⟩ := oL h5_
              obtain ⟨e18, he27, h5_⟩ := oS h5_
              obtain ⟨e19, he28, h5_⟩ := oS h5_
              rcases oB h5_ with ⟨hc29, h5_⟩ | ⟨hc29, h5_⟩
              ·refine RunC.region_draw (Γ' := []) 12 mixed 
                (tl rfl (ptr [sl a2.length (a2.map i64), (sFc a3)]) (LOp.fap und30 rfl siz22 rfl rfl rfl) <|
                (tl rfl (sl a2.length (a2.map i64)) (n2 agg22) <|
                (tm rfl (i64 v14) <|
                (tl rfl (i64 x17) (LOp.eqr (LOp.sub rfl rfl rfl) (congrArg (ik .i64) hx26)) <|
                (tl rfl (ptr [i64 e18]) (LOp.le (LOp.ix (f := i64) und22 siz2 rfl rfl rfl rfl he27) ALe.ptr) <|
                (tl rfl (i64 e18) (n2 agg2) <|
                (tl rfl (ptr [sl a2.length (a2.map i64), (sFc a3)]) (LOp.fap und30 rfl siz22 rfl rfl rfl) <|
                (tl rfl (sl a2.length (a2.map i64)) (n2 agg22) <|
                (tm rfl (i64 v14) <|
                (tl rfl (ptr [i64 e19]) (LOp.le (LOp.ix (f := i64) und22 siz2 rfl rfl rfl rfl he28) ALe.ptr) <|
                (tl rfl (i64 e19) (n2 agg2) <|
                (tl rfl (b true) (LOp.eqb (LOp.geq rfl rfl rfl) hc29) <|
                TR.nil)))))))))))) rfl (by kernel_rfl) rfl fills_nil rfl ?_
               iterate 12 refine ROps.dropS ?_
               refine ROps.drop0<|zN ?_
               refine RunC.wl (τ' := [(1, ptr [i64 a0, sl a1.length (a1.map i64), sl a2.length (a2.map i64), (sFc a3)]), (4, i64 v11), (5, i64 v14), (72, i64 a0), (73, i64 v11), (103, b true)]) (Γ' := []) ⟨aR, aR, aR, aR, aR, aR, trivial⟩ trivial<|yT<|zQ<|ya rfl (b false)<|zN ?_
               refine RunC.ret ?_
               cases oI h5_
               have hx6_ := hr5 _ rfl
               subst hx6_
               cases oI h4_
               have hx7_ := hr4 _ rfl
               subst hx7_
               have hq := oI h
               subst q0
               exact bR rfl
              ·refine RunC.region_draw (Γ' := []) 12 mixed 
                (tl rfl (ptr [sl a2.length (a2.map i64), (sFc a3)]) (LOp.fap und30 rfl siz22 rfl rfl rfl) <|
                (tl rfl (sl a2.length (a2.map i64)) (n2 agg22) <|
                (tm rfl (i64 v14) <|
                (tl rfl (i64 x17) (LOp.eqr (LOp.sub rfl rfl rfl) (congrArg (ik .i64) hx26)) <|
                (tl rfl (ptr [i64 e18]) (LOp.le (LOp.ix (f := i64) und22 siz2 rfl rfl rfl rfl he27) ALe.ptr) <|
                (tl rfl (i64 e18) (n2 agg2) <|
                (tl rfl (ptr [sl a2.length (a2.map i64), (sFc a3)]) (LOp.fap und30 rfl siz22 rfl rfl rfl) <|
                (tl rfl (sl a2.length (a2.map i64)) (n2 agg22) <|
                (tm rfl (i64 v14) <|
                (tl rfl (ptr [i64 e19]) (LOp.le (LOp.ix (f := i64) und22 siz2 rfl rfl rfl rfl he28) ALe.ptr) <|
                (tl rfl (i64 e19) (n2 agg2) <|
                (tl rfl (b false) (LOp.eqb (LOp.geq rfl rfl rfl) hc29) <|
                TR.nil)))))))))))) rfl (by kernel_rfl) rfl fills_nil rfl ?_
               iterate 12 refine ROps.dropS ?_
               refine ROps.drop0<|zN ?_
               refine RunC.wl (τ' := [(1, ptr [i64 a0, sl a1.length (a1.map i64), sl a2.length (a2.map i64), (sFc a3)]), (4, i64 v11), (5, i64 v14), (72, i64 a0), (73, i64 v11), (103, b false)]) (Γ' := []) ⟨aR, aR, aR, aR, aR, aR, trivial⟩ trivial<|yF<|RunC.skip ?_
               obtain ⟨x20, hx30, h5_⟩ := oL h5_
               refine yW<|ym rfl (i64 v14)<|yl rfl (i64 x20) (LOp.eqr (LOp.add rfl rfl rfl) (congrArg (ik .i64) hx30))<|ya rfl (i64 x20)<|zN ?_
               cases oI h5_
               exact ⟨_, rfl, ⟨aR, aR, aR, aR, aR, trivial⟩, trivial⟩
             ·refine yW<|ym rfl (i64 v14)<|yl rfl (ptr [sl a1.length (a1.map i64), sl a2.length (a2.map i64), (sFc a3)]) (LOp.fap und30 rfl siz22 rfl rfl rfl)<|yl rfl (sl a1.length (a1.map i64)) (n2 agg22)<|ym rfl (i64 v11)<|yl rfl (i64 x15) (LOp.eqr (LOp.add rfl rfl rfl) (congrArg (ik .i64) hx23))<|yl rfl (ptr [i64 e16]) (LOp.le (LOp.ix (f := i64) und22 siz2 rfl rfl rfl rfl he24) ALe.ptr)<|yl rfl (i64 e16) (n2 agg2)<|yl rfl (b false) (LOp.eqb (LOp.lss rfl rfl rfl) hc25)<|zN ?_
              refine yF<|RunC.exit ?_
              cases oI h5_
              have hx := ho5 _ rfl
              exact ⟨⟨aR, aR, aR, trivial⟩, trivial, hx⟩
            ·rintro τ8 Γ8 ⟨hw8, hd8, rfl⟩
             refine RunC.wl hw8 hd8 ?_
             replace h4_ : K14_k2 v11 = some y4_ := h4_
             unfold K14_k2 at h4_
             obtain ⟨x21, hx31, h4_⟩ := oL h4_
             refine yW<|yl rfl (i64 x21) (LOp.eqr (LOp.add rfl rfl rfl) (congrArg (ik .i64) hx31))<|ym rfl (i64 x21)<|zN ?_
             cases oI h4_
             exact ⟨_, rfl, ⟨aR, aR, aR, trivial⟩, trivial⟩
           ·refine yW<|yl rfl (b false) (LOp.eqb (LOp.lss rfl rfl rfl) hc20)<|zN ?_
            refine yS<|yF<|RunC.exit ?_
            cases oI h4_
            have hx := ho4 _ rfl
            exact ⟨trivial, trivial, hx⟩
          ·rintro τ9 Γ9 ⟨hw9, hd9, rfl⟩
           refine RunC.wl hw9 hd9 ?_
           replace h : K14_k3 = some q0 := h
           unfold K14_k3 at h
           refine zQ<|ya rfl (b true)<|zN ?_
           refine RunC.ret ?_
           have hq := oI h
           subst q0
           exact bR rfl
         ·refine yW<|yl rfl (ptr [sl a1.length (a1.map i64), sl a2.length (a2.map i64), (sFc a3)]) (LOp.fap und30 rfl siz22 rfl rfl rfl)<|yl rfl (sl a1.length (a1.map i64)) (n2 agg22)<|yd rfl (b true) (TOp.eqb (yc ent105 rfl rfl (bS bN) (K0q_ok a1 r7 hf13)) hc14)<|yl rfl (b false) n1<|ym rfl (b false)<|yl rfl (ptr [sl a2.length (a2.map i64), (sFc a3)]) (LOp.fap und30 rfl siz22 rfl rfl rfl)<|yl rfl (sl a2.length (a2.map i64)) (n2 agg22)<|yl rfl (ptr [i64 a0, sl a1.length (a1.map i64), sl a2.length (a2.map i64), (sFc a3)]) (LOp.fap und30 rfl siz2 rfl rfl rfl)<|yl rfl (i64 a0) (n2 agg2)<|yl rfl (i64 x8) (LOp.eqr (LOp.sub rfl rfl rfl) (congrArg (ik .i64) hx15))<|yd rfl (b true) (TOp.eqb (yc ent106 rfl rfl (bS (bP bN0)) (K0u_ok a2 0 x8 r9 hf16)) hc17)<|yl rfl (b false) n1<|yl rfl (b false) yp<|ym rfl (b false)<|yl rfl (ptr [(sFc a3)]) (LOp.fap und30 rfl siz23 rfl rfl rfl)<|yl rfl (sFc a3) (n2 agg23)<|yd rfl (b false) (TOp.eqb (yc ent81 rfl rfl (bS bN) (K13_ok a3 r10 hf18)) hc19)<|yl rfl (b true) n0<|yl rfl (b true) yp<|zN ?_
          refine RunC.wl (τ' := [(1, ptr [i64 a0, sl a1.length (a1.map i64), sl a2.length (a2.map i64), (sFc a3)]), (70, b true)]) (Γ' := []) ⟨aR, aR, trivial⟩ trivial<|yT<|zQ<|ya rfl (b false)<|zN ?_
          refine RunC.ret ?_
          have hq := oI h
          subst q0
          exact bR rfl
        ·refine yW<|yl rfl (ptr [sl a1.length (a1.map i64), sl a2.length (a2.map i64), (sFc a3)]) (LOp.fap und30 rfl siz22 rfl rfl rfl)<|yl rfl (sl a1.length (a1.map i64)) (n2 agg22)<|yd rfl (b true) (TOp.eqb (yc ent105 rfl rfl (bS bN) (K0q_ok a1 r7 hf13)) hc14)<|yl rfl (b false) n1<|ym rfl (b false)<|yl rfl (ptr [sl a2.length (a2.map i64), (sFc a3)]) (LOp.fap und30 rfl siz22 rfl rfl rfl)<|yl rfl (sl a2.length (a2.map i64)) (n2 agg22)<|yl rfl (ptr [i64 a0, sl a1.length (a1.map i64), sl a2.length (a2.map i64), (sFc a3)]) (LOp.fap und30 rfl siz2 rfl rfl rfl)<|yl rfl (i64 a0) (n2 agg2)<|yl rfl (i64 x8) (LOp.eqr (LOp.sub rfl rfl rfl) (congrArg (ik .i64) hx15))<|yd rfl (b false) (TOp.eqb (yc ent106 rfl rfl (bS (bP bN0)) (K0u_ok a2 0 x8 r9 hf16)) hc17)<|yl rfl (b true) n0<|yl rfl (b true) yp<|ym rfl (b true)<|yR rfl<|yR rfl<|yR rfl<|yR rfl<|yl rfl (b true) yq<|zN ?_
         refine RunC.wl (τ' := [(1, ptr [i64 a0, sl a1.length (a1.map i64), sl a2.length (a2.map i64), (sFc a3)]), (70, b true)]) (Γ' := []) ⟨aR, aR, trivial⟩ trivial<|yT<|zQ<|ya rfl (b false)<|zN ?_
         refine RunC.ret ?_
         have hq := oI h
         subst q0
         exact bR rfl
       ·refine yW<|yl rfl (ptr [sl a1.length (a1.map i64), sl a2.length (a2.map i64), (sFc a3)]) (LOp.fap und30 rfl siz22 rfl rfl rfl)<|yl rfl (sl a1.length (a1.map i64)) (n2 agg22)<|yd rfl (b false) (TOp.eqb (yc ent105 rfl rfl (bS bN) (K0q_ok a1 r7 hf13)) hc14)<|yl rfl (b true) n0<|ym rfl (b true)<|yR rfl<|yR rfl<|yR rfl<|yR rfl<|yR rfl<|yR rfl<|yR rfl<|yl rfl (b true) yq<|ym rfl (b true)<|yR rfl<|yR rfl<|yR rfl<|yR rfl<|yl rfl (b true) yq<|zN ?_
        refine RunC.wl (τ' := [(1, ptr [i64 a0, sl a1.length (a1.map i64), sl a2.length (a2.map i64), (sFc a3)]), (70, b true)]) (Γ' := []) ⟨aR, aR, trivial⟩ trivial<|yT<|zQ<|ya rfl (b false)<|zN ?_
        refine RunC.ret ?_
        have hq := oI h
        subst q0
        exact bR rfl
 ·refine RunC.region_draw (Γ' := []) 43 mixed 
   (tl rfl (ptr [i64 a0, sl a1.length (a1.map i64), sl a2.length (a2.map i64), (sFc a3)]) (LOp.fap und30 rfl siz2 rfl rfl rfl) <|
   (tl rfl (i64 a0) (n2 agg2) <|
   (TR.d (r := b false) (fs := []) rfl rfl (TOp.eqb (yc ent82 rfl rfl (bP (bP bN0)) (K0n_ok a0 1 32 r2 hf2)) hc3) <|
   (tl rfl (b true) (LOp.eqb (LOp.not rfl rfl) rfl) <|
   (tm rfl (b true) <|
   (ts rfl <|
   (ts rfl <|
   (ts rfl <|
   (ts rfl <|
   (ts rfl <|
   (ts rfl <|
   (ts rfl <|
   (tl rfl (b true) yq <|
   (tm rfl (b true) <|
   (ts rfl <|
   (ts rfl <|
   (tl rfl (b true) yq <|
   (tm rfl (b true) <|
   (ts rfl <|
   (ts rfl <|
   (ts rfl <|
   (ts rfl <|
   (ts rfl <|
   (ts rfl <|
   (ts rfl <|
   (tl rfl (b true) yq <|
   (tm rfl (b true) <|
   (ts rfl <|
   (ts rfl <|
   (ts rfl <|
   (ts rfl <|
   (ts rfl <|
   (tl rfl (b true) yq <|
   (tm rfl (b true) <|
   (ts rfl <|
   (ts rfl <|
   (ts rfl <|
   (ts rfl <|
   (ts rfl <|
   (ts rfl <|
   (ts rfl <|
   (ts rfl <|
   (tl rfl (b true) yq <|
   TR.nil))))))))))))))))))))))))))))))))))))))))))) rfl (by kernel_rfl) rfl fills_nil rfl ?_
  iterate 43 refine ROps.dropS ?_
  refine ROps.drop0<|zN ?_
  refine RunC.wl (τ' := [(1, ptr [i64 a0, sl a1.length (a1.map i64), sl a2.length (a2.map i64), (sFc a3)]), (51, b true)]) (Γ' := []) ⟨aR, aR, trivial⟩ trivial<|yT<|zQ<|ya rfl (b false)<|zN ?_
  refine RunC.ret ?_
  have hq := oI h
  subst q0
  exact bR rfl
def K15 (a0 : List F) : Option (Int) :=
 some (a0.length : Int)
theorem K15_ok (a0 : List F) (q0 : Int) (h : K15 a0 = some q0) : Ev Try.prog 145 [(sFc a0)] [] (i64 q0) [] := by
 refine yE Try.func145 0 11 0 [(0, (sFc a0))] [] rfl ?_
 unfold K15 at h
 refine zQ<|ya rfl (i64 0)<|zN ?_
 refine zQ<|ym rfl (sFc a0)<|yl rfl (i64 (a0.length : Int)) (LOp.len_sl und23 rfl rfl)<|ya rfl (i64 (a0.length : Int))<|zN ?_
 refine RunC.ret ?_
 have hq := oI h
 subst q0
 exact bR rfl
def K16 (a0 : List F) : Option (Bool) :=
 obind (K15 a0) fun (r1 : Int) =>
 obind (K0n r1 1 256) fun (r2 : Bool) =>
 bsel r2 (
  obind (K13 a0) fun (r3 : Bool) =>
  some r3) (
  some false)
theorem K16_ok (a0 : List F) (q0 : Bool) (h : K16 a0 = some q0) : Ev Try.prog 144 [(sFc a0)] [] (b q0) [] := by
 refine yE Try.func144 0 21 0 [(0, (sFc a0))] [] rfl ?_
 unfold K16 at h
 refine zQ<|ya rfl (b false)<|zN ?_
 refine yS ?_
 obtain ⟨r1, hf1, h⟩ := oS h
 obtain ⟨r2, hf2, h⟩ := oS h
 rcases oB h with ⟨hc3, h⟩ | ⟨hc3, h⟩
 ·obtain ⟨r3, hf4, h⟩ := oS h
  refine yW<|ym rfl (sFc a0)<|yd rfl (i64 r1) (yc ent145 rfl rfl (bS bN) (K15_ok a0 r1 hf1))<|yd rfl (b true) (TOp.eqb (yc ent82 rfl rfl (bP (bP bN0)) (K0n_ok r1 1 256 r2 hf2)) hc3)<|ym rfl (b true)<|ym rfl (sFc a0)<|yd rfl (b r3) (yc ent81 rfl rfl (bS bN) (K13_ok a0 r3 hf4))<|yl rfl (b r3) yq<|ya rfl (b r3)<|zN ?_
  refine RunC.ret ?_
  have hq := oI h
  subst q0
  exact bR rfl
 ·refine yW<|ym rfl (sFc a0)<|yd rfl (i64 r1) (yc ent145 rfl rfl (bS bN) (K15_ok a0 r1 hf1))<|yd rfl (b false) (TOp.eqb (yc ent82 rfl rfl (bP (bP bN0)) (K0n_ok r1 1 256 r2 hf2)) hc3)<|ym rfl (b false)<|yR rfl<|yR rfl<|yl rfl (b false) yp<|ya rfl (b false)<|zN ?_
  refine RunC.ret ?_
  have hq := oI h
  subst q0
  exact bR rfl
def K17 (a0 : Int) (a1 : List Int) (a2 : List Int) (a3 : List F) (a4 : List F) : Option (Bool) :=
 obind (K14 a0 a1 a2 a3) fun (r1 : Bool) =>
 bsel r1 (
  obind (K16 a4) fun (r2 : Bool) =>
  bsel r2 (
   obind (K15 a4) fun (r3 : Int) =>
   some (decide (r3 = a0))) (
   some false)) (
  some false)
theorem K17_ok (a0 : Int) (a1 : List Int) (a2 : List Int) (a3 : List F) (a4 : List F) (q0 : Bool) (h : K17 a0 a1 a2 a3 a4 = some q0) : Ev Try.prog 80 [agg [i64 a0, sl a1.length (a1.map i64), sl a2.length (a2.map i64), (sFc a3)], (sFc a4)] [] (b q0) [] := by
 refine yE Try.func80 0 37 0 ([(0, agg [i64 a0, sl a1.length (a1.map i64), sl a2.length (a2.map i64), (sFc a3)]), (1, (sFc a4))]) [] rfl ?_
 unfold K17 at h
 refine zQ<|yd rfl (ptr [i64 a0, sl a1.length (a1.map i64), sl a2.length (a2.map i64), (sFc a3)]) (TOp.box_s rfl rfl rfl)<|ya rfl (b false)<|zN ?_
 refine yS ?_
 obtain ⟨r1, hf1, h⟩ := oS h
 rcases oB h with ⟨hc2, h⟩ | ⟨hc2, h⟩
 ·obtain ⟨r2, hf3, h⟩ := oS h
  rcases oB h with ⟨hc4, h⟩ | ⟨hc4, h⟩
  ·obtain ⟨r3, hf5, h⟩ := oS h
   refine RunC.region_draw (Γ' := []) 14 mixed 
    (tl rfl (agg [i64 a0, sl a1.length (a1.map i64), sl a2.length (a2.map i64), (sFc a3)]) (yL agg30 siz30) <|
    (TR.d (r := b true) (fs := []) rfl rfl (TOp.eqb (TOp.callB (CallAs.func ent30 rfl rfl) (Bors.cons (Bor.agg (bP (bS (bS (bS bN))))) bN) rfl rfl (K14_ok a0 a1 a2 a3 r1 hf1)) hc2) <|
    (tm rfl (b true) <|
    (tm rfl (sFc a4) <|
    (TR.d (r := b true) (fs := []) rfl rfl (TOp.eqb (yc ent144 rfl rfl (bS bN) (K16_ok a4 r2 hf3)) hc4) <|
    (tl rfl (b true) yq <|
    (tm rfl (b true) <|
    (tm rfl (sFc a4) <|
    (TR.d (r := i64 r3) (fs := []) rfl rfl (yc ent145 rfl rfl (bS bN) (K15_ok a4 r3 hf5)) <|
    (tl rfl (ptr [i64 a0, sl a1.length (a1.map i64), sl a2.length (a2.map i64), (sFc a3)]) (LOp.fap und30 rfl siz2 rfl rfl rfl) <|
    (tl rfl (i64 a0) (n2 agg2) <|
    (tl rfl (b (decide (r3 = a0))) (LOp.eql rfl rfl rfl) <|
    (tl rfl (b (decide (r3 = a0))) yq <|
    (tl rfl (b (decide (r3 = a0))) (LOp.assign rfl rfl) <|
    TR.nil)))))))))))))) rfl (by kernel_rfl) rfl fills_nil rfl ?_
   iterate 14 refine ROps.dropS ?_
   refine ROps.drop0<|zN ?_
   refine RunC.ret ?_
   have hq := oI h
   subst q0
   exact bR rfl
  ·refine RunC.region_draw (Γ' := []) 14 mixed 
    (tl rfl (agg [i64 a0, sl a1.length (a1.map i64), sl a2.length (a2.map i64), (sFc a3)]) (yL agg30 siz30) <|
    (TR.d (r := b true) (fs := []) rfl rfl (TOp.eqb (TOp.callB (CallAs.func ent30 rfl rfl) (Bors.cons (Bor.agg (bP (bS (bS (bS bN))))) bN) rfl rfl (K14_ok a0 a1 a2 a3 r1 hf1)) hc2) <|
    (tm rfl (b true) <|
    (tm rfl (sFc a4) <|
    (TR.d (r := b false) (fs := []) rfl rfl (TOp.eqb (yc ent144 rfl rfl (bS bN) (K16_ok a4 r2 hf3)) hc4) <|
    (tl rfl (b false) yq <|
    (tm rfl (b false) <|
    (ts rfl <|
    (ts rfl <|
    (ts rfl <|
    (ts rfl <|
    (ts rfl <|
    (tl rfl (b false) yp <|
    (tl rfl (b false) (LOp.assign rfl rfl) <|
    TR.nil)))))))))))))) rfl (by kernel_rfl) rfl fills_nil rfl ?_
   iterate 14 refine ROps.dropS ?_
   refine ROps.drop0<|zN ?_
   refine RunC.ret ?_
   have hq := oI h
   subst q0
   exact bR rfl
 ·refine RunC.region_draw (Γ' := []) 14 mixed 
   (tl rfl (agg [i64 a0, sl a1.length (a1.map i64), sl a2.length (a2.map i64), (sFc a3)]) (yL agg30 siz30) <|
   (TR.d (r := b false) (fs := []) rfl rfl (TOp.eqb (TOp.callB (CallAs.func ent30 rfl rfl) (Bors.cons (Bor.agg (bP (bS (bS (bS bN))))) bN) rfl rfl (K14_ok a0 a1 a2 a3 r1 hf1)) hc2) <|
   (tm rfl (b false) <|
   (ts rfl <|
   (ts rfl <|
   (tl rfl (b false) yp <|
   (tm rfl (b false) <|
   (ts rfl <|
   (ts rfl <|
   (ts rfl <|
   (ts rfl <|
   (ts rfl <|
   (tl rfl (b false) yp <|
   (tl rfl (b false) (LOp.assign rfl rfl) <|
   TR.nil)))))))))))))) rfl (by kernel_rfl) rfl fills_nil rfl ?_
  iterate 14 refine ROps.dropS ?_
  refine ROps.drop0<|zN ?_
  refine RunC.ret ?_
  have hq := oI h
  subst q0
  exact bR rfl
def K18 (a0 : Int) (a1 : F) (a2 : List (Int × Int × F)) (a3 : Int) : Option ((List (Int × Int × F))) :=
 olet (mput a2 a3 a0 a1) fun (L1 : List (Int × Int × F)) =>
 some L1
theorem K18_ok (a0 : Int) (a1 : F) (a2 : List (Int × Int × F)) (a3 : Int) (q0 : List (Int × Int × F)) (h : K18 a0 a1 a2 a3 = some q0) : Ev Try.prog 176 [i64 a0, f32 a1, optr 0 0 0, optr 2 0 0] [⟨0, some [mref 1 0]⟩, ⟨0, some (mpc a2)⟩, ⟨0, some [i64 a3]⟩] (tup []) [⟨0, some [mref 1 0]⟩, ⟨0, some (mpc q0)⟩, ⟨0, some [i64 a3]⟩] := by
 refine Ev.start Try.func176 rfl rfl 0 (τ := [(0, i64 a0), (1, f32 a1), (2, optr 0 0 0), (3, optr 2 0 0)]) rfl (Γ' := [⟨0, some [mref 1 0]⟩, ⟨0, some (mpc a2)⟩, ⟨0, some [i64 a3]⟩]) rfl (n := 22) rfl (g := 3) rfl (by decide) ?_
 unfold K18 at h
 obtain ⟨L1, hx1, h⟩ := oL h
 refine yW<|yd rfl (mref 1 0) (TOp.load1_o rfl rfl agg98 rfl rfl)<|yd rfl (i64 a3) (TOp.load1_o rfl rfl agg2 rfl rfl)<|ym rfl (i64 a0)<|yl rfl (agg [i64 a3, i64 a0]) (LOp.build (qs := [(0, [i64 a3]), (1, [i64 a0])]) zer101 zok101 und101 plc101 rfl ⟨rfl, ⟨_, ALe.refl _, rfl⟩, ⟨rfl, ⟨_, ALe.refl _, rfl⟩, trivial⟩⟩ rfl)<|ym rfl (f32 a1)<|ROps.mput (L' := L1) (Γ' := [⟨0, some [mref 1 0]⟩, ⟨0, some (mpc L1)⟩, ⟨0, some [i64 a3]⟩]) rfl und98 pky101 rfl rfl rfl rfl aR rfl hx1 rfl<|zN ?_
 have hq := oI h
 subst q0
 exact yB (tup []) [(0, 0), (1, 0), (2, 0)] (Res.zero rfl) (SelL.cells rfl (by first | rfl | simp [ren, rens, sigma, rens_f32, rens_f64, rens_i64, rens_ik, rens_str, rens_cp, rens_mpc]) rfl (SelL.map rfl (SelL.cells rfl (by first | rfl | simp [ren, rens, sigma, rens_f32, rens_f64, rens_i64, rens_ik, rens_str, rens_cp, rens_mpc]) rfl trivial)))
def K19_b1 (a1 : List Int) (a2 : List Int) (a3 : List F) (a4 : Int) (a6 : Int) (L2 : List (Int × Int × F)) (v3 : Int) : Option (LR ((List (Int × Int × F)) × Int) ((List (Int × Int × F))) ((List (Int × Int × F)))) :=
 olet (IntKind.i64.wrap (a4 + 1)) fun (x4 : Int) =>
 obind (at? a1 x4) fun (e5 : Int) =>
 bsel (decide (v3 < e5)) (
  obind (at? a2 v3) fun (e8 : Int) =>
  obind (at? a3 v3) fun (e9 : F) =>
  obind (K18 e8 e9 L2 a6) fun (r10 : List (Int × Int × F)) =>
  olet (IntKind.i64.wrap (v3 + 1)) fun (x11 : Int) =>
  some (LR.next (r10, x11))) (
  some (LR.out L2))
def K19_s1 (a1 : List Int) (a2 : List Int) (a3 : List F) (a4 : Int) (a6 : Int) : ((List (Int × Int × F)) × Int) → Option (LR ((List (Int × Int × F)) × Int) ((List (Int × Int × F))) ((List (Int × Int × F)))) := fun s => K19_b1 a1 a2 a3 a4 a6 s.1 s.2
def K19_k1 (L12 : List (Int × Int × F)) : Option ((List (Int × Int × F))) :=
 some L12
def K19 (a0 : Int) (a1 : List Int) (a2 : List Int) (a3 : List F) (a4 : Int) (a5 : List (Int × Int × F)) (a6 : Int) : Option ((List (Int × Int × F))) :=
 obind (at? a1 a4) fun (e1 : Int) =>
 obind (loopM (K19_s1 a1 a2 a3 a4 a6) (a5, e1)) fun z => osum z (fun e => K19_k1 e) (fun r => some r)
theorem K19_ok (a0 : Int) (a1 : List Int) (a2 : List Int) (a3 : List F) (a4 : Int) (a5 : List (Int × Int × F)) (a6 : Int) (q0 : List (Int × Int × F)) (h : K19 a0 a1 a2 a3 a4 a5 a6 = some q0) : Ev Try.prog 84 [agg [i64 a0, sl a1.length (a1.map i64), sl a2.length (a2.map i64), (sFc a3)], i64 a4, fn (.func 176) [] [optr 0 0 0, optr 2 0 0]] [⟨0, some [mref 1 0]⟩, ⟨0, some (mpc a5)⟩, ⟨0, some [i64 a6]⟩] (tup []) [⟨0, some [mref 1 0]⟩, ⟨0, some (mpc q0)⟩, ⟨0, some [i64 a6]⟩] := by
 refine Ev.start Try.func84 rfl rfl 0 (τ := [(0, agg [i64 a0, sl a1.length (a1.map i64), sl a2.length (a2.map i64), (sFc a3)]), (1, i64 a4), (2, fn (.func 176) [] [optr 0 0 0, optr 2 0 0])]) rfl (Γ' := [⟨0, some [mref 1 0]⟩, ⟨0, some (mpc a5)⟩, ⟨0, some [i64 a6]⟩]) rfl (n := 68) rfl (g := 3) rfl (by decide) ?_
 unfold K19 at h
 refine zQ<|yd rfl (ptr [i64 a0, sl a1.length (a1.map i64), sl a2.length (a2.map i64), (sFc a3)]) (TOp.box_s rfl rfl rfl)<|zN ?_
 refine yS ?_
 obtain ⟨e1, he1, h⟩ := oS h
 refine yW<|yl rfl (ptr [sl a1.length (a1.map i64), sl a2.length (a2.map i64), (sFc a3)]) (LOp.fap und30 rfl siz22 rfl rfl rfl)<|yl rfl (sl a1.length (a1.map i64)) (n2 agg22)<|ym rfl (i64 a4)<|yl rfl (ptr [i64 e1]) (LOp.le (LOp.ix (f := i64) und22 siz2 rfl rfl rfl rfl he1) ALe.ptr)<|yl rfl (i64 e1) (n2 agg2)<|ya rfl (i64 e1)<|zN ?_
 obtain ⟨z2, hz_2, h⟩ := oS h
 refine RunC.cutN (fun τ Γ => ∃ (L12 : List (Int × Int × F)), WeakLe τ [] ∧ DeadLe Γ [⟨0, some [mref 1 0]⟩, ⟨0, some (mpc L12)⟩, ⟨0, some [i64 a6]⟩] ∧ z2 = .inl L12) ?_ ?_
 ·refine RunC.block (RunC.loop (RunL.loopM (x := z2) (K19_s1 a1 a2 a3 a4 a6) (fun (s : (List (Int × Int × F)) × Int) τ Γ => WeakLe τ [(1, i64 a4), (2, fn (.func 176) [] [optr 0 0 0, optr 2 0 0]), (3, ptr [i64 a0, sl a1.length (a1.map i64), sl a2.length (a2.map i64), (sFc a3)]), (6, i64 s.2)] ∧ DeadLe Γ [⟨0, some [mref 1 0]⟩, ⟨0, some (mpc s.1)⟩, ⟨0, some [i64 a6]⟩]) ?_ _ _ _ hz_2 ⟨⟨aR, aR, aR, aR, trivial⟩, ⟨⟨rfl, .inr rfl⟩, ⟨rfl, .inr rfl⟩, ⟨rfl, .inr rfl⟩, trivial⟩⟩))
  rintro ⟨L2, v3⟩ τ2 Γ2 y2_ ⟨hw2, hd2⟩ h2_ ho2 hr2
  refine RunC.wl (τ' := [(1, i64 a4), (2, fn (.func 176) [] [optr 0 0 0, optr 2 0 0]), (3, ptr [i64 a0, sl a1.length (a1.map i64), sl a2.length (a2.map i64), (sFc a3)]), (6, i64 v3)]) (Γ' := [⟨0, some [mref 1 0]⟩, ⟨0, some (mpc L2)⟩, ⟨0, some [i64 a6]⟩]) hw2 hd2 ?_
  replace h2_ : K19_b1 a1 a2 a3 a4 a6 L2 v3 = some y2_ := h2_
  unfold K19_b1 at h2_
  refine yS<|yS ?_
  obtain ⟨x4, hx2, h2_⟩ := oL h2_
  obtain ⟨e5, he3, h2_⟩ := oS h2_
  rcases oB h2_ with ⟨hc4, h2_⟩ | ⟨hc4, h2_⟩
  ·refine yW<|ym rfl (i64 v3)<|yl rfl (ptr [sl a1.length (a1.map i64), sl a2.length (a2.map i64), (sFc a3)]) (LOp.fap und30 rfl siz22 rfl rfl rfl)<|yl rfl (sl a1.length (a1.map i64)) (n2 agg22)<|ym rfl (i64 a4)<|yl rfl (i64 x4) (LOp.eqr (LOp.add rfl rfl rfl) (congrArg (ik .i64) hx2))<|yl rfl (ptr [i64 e5]) (LOp.le (LOp.ix (f := i64) und22 siz2 rfl rfl rfl rfl he3) ALe.ptr)<|yl rfl (i64 e5) (n2 agg2)<|yl rfl (b true) (LOp.eqb (LOp.lss rfl rfl rfl) hc4)<|zN ?_
   refine yT<|RunC.skip<|yS<|RunC.block ?_
   obtain ⟨e8, he7, h2_⟩ := oS h2_
   obtain ⟨e9, he8, h2_⟩ := oS h2_
   obtain ⟨r10, hf9, h2_⟩ := oS h2_
   refine RunC.region_draw (Γ' := [⟨0, some [mref 1 0]⟩, ⟨0, some (mpc L2)⟩, ⟨0, some [i64 a6]⟩]) 11 mixed 
    (tm rfl (fn (.func 176) [] [optr 0 0 0, optr 2 0 0]) <|
    (tl rfl (ptr [sl a2.length (a2.map i64), (sFc a3)]) (LOp.fap und30 rfl siz22 rfl rfl rfl) <|
    (tl rfl (sl a2.length (a2.map i64)) (n2 agg22) <|
    (tm rfl (i64 v3) <|
    (tl rfl (ptr [i64 e8]) (LOp.le (LOp.ix (f := i64) und22 siz2 rfl rfl rfl rfl he7) ALe.ptr) <|
    (tl rfl (i64 e8) (n2 agg2) <|
    (tl rfl (ptr [(sFc a3)]) (LOp.fap und30 rfl siz23 rfl rfl rfl) <|
    (tl rfl (sFc a3) (n2 agg23) <|
    (tm rfl (i64 v3) <|
    (tl rfl (ptr [f32 e9]) (LOp.le (LOp.ix (f := f32) und23 siz26 rfl rfl rfl rfl he8) ALe.ptr) <|
    (tl rfl (f32 e9) (n2 agg26) <|
    TR.nil))))))))))) rfl (by kernel_rfl) rfl fills_nil rfl ?_
   iterate 11 refine ROps.dropS ?_
   refine ROps.drop0<|ROps.callO (A := [i64 e8, f32 e9, optr 0 0 0, optr 2 0 0]) (args := [i64 e8, f32 e9, optr 0 0 0, optr 2 0 0]) (Γc := [⟨0, some [mref 1 0]⟩, ⟨0, some (mpc L2)⟩, ⟨0, some [i64 a6]⟩]) (Γc' := [⟨0, some [mref 1 0]⟩, ⟨0, some (mpc r10)⟩, ⟨0, some [i64 a6]⟩]) (r' := tup []) (Γ' := [⟨0, some [mref 1 0]⟩, ⟨0, some (mpc r10)⟩, ⟨0, some [i64 a6]⟩]) [(0, 0), (1, 0), (2, 0)] [] rfl (CallAs.fn ent176 rfl rfl rfl rfl) rfl rfl (SelOk.of (show List.Nodup [0, 1, 2] from by decide) (SelL.cells0 rfl (by simp [ren, rens, sigma, rens_f32, rens_f64, rens_i64, rens_ik, rens_str, rens_cp, rens_mpc]) rfl (SelL.map0 rfl (SelL.cells0 rfl (by simp [ren, rens, sigma, rens_f32, rens_f64, rens_i64, rens_ik, rens_str, rens_cp, rens_mpc]) rfl trivial)))) (live_of ⟨⟨_, _, rfl⟩, ⟨_, _, rfl⟩, ⟨_, _, rfl⟩, trivial⟩) (by simp [ren, rens, sigma, rens_f32, rens_f64, rens_i64, rens_ik, rens_str, rens_cp, rens_mpc]) rfl (K18_ok e8 e9 L2 a6 r10 hf9) rfl (news_of trivial) (show List.Nodup [0, 1, 2] from by decide) (by simp [ren, rens, sigma]) (by simp [backOb, sigma, ren, rens, rens_f32, rens_f64, rens_i64, rens_ik, rens_str, rens_cp, rens_mpc] <;> omega)<|zN ?_
   refine RunC.wl (τ' := [(1, i64 a4), (2, fn (.func 176) [] [optr 0 0 0, optr 2 0 0]), (3, ptr [i64 a0, sl a1.length (a1.map i64), sl a2.length (a2.map i64), (sFc a3)]), (6, i64 v3)]) (Γ' := [⟨0, some [mref 1 0]⟩, ⟨0, some (mpc r10)⟩, ⟨0, some [i64 a6]⟩]) ⟨aR, aR, aR, aR, trivial⟩ ⟨⟨rfl, .inr rfl⟩, ⟨rfl, .inr rfl⟩, ⟨rfl, .inr rfl⟩, trivial⟩ ?_
   obtain ⟨x11, hx10, h2_⟩ := oL h2_
   refine yW<|ym rfl (i64 v3)<|yl rfl (i64 x11) (LOp.eqr (LOp.add rfl rfl rfl) (congrArg (ik .i64) hx10))<|ya rfl (i64 x11)<|zN ?_
   cases oI h2_
   exact ⟨_, rfl, ⟨aR, aR, aR, aR, trivial⟩, ⟨⟨rfl, .inr rfl⟩, ⟨rfl, .inr rfl⟩, ⟨rfl, .inr rfl⟩, trivial⟩⟩
  ·refine yW<|ym rfl (i64 v3)<|yl rfl (ptr [sl a1.length (a1.map i64), sl a2.length (a2.map i64), (sFc a3)]) (LOp.fap und30 rfl siz22 rfl rfl rfl)<|yl rfl (sl a1.length (a1.map i64)) (n2 agg22)<|ym rfl (i64 a4)<|yl rfl (i64 x4) (LOp.eqr (LOp.add rfl rfl rfl) (congrArg (ik .i64) hx2))<|yl rfl (ptr [i64 e5]) (LOp.le (LOp.ix (f := i64) und22 siz2 rfl rfl rfl rfl he3) ALe.ptr)<|yl rfl (i64 e5) (n2 agg2)<|yl rfl (b false) (LOp.eqb (LOp.lss rfl rfl rfl) hc4)<|zN ?_
   refine yF<|RunC.exit ?_
   cases oI h2_
   have hx := ho2 _ rfl
   exact ⟨L2, trivial, ⟨⟨rfl, .inr rfl⟩, ⟨rfl, .inr rfl⟩, ⟨rfl, .inr rfl⟩, trivial⟩, hx⟩
 ·rintro τ3 Γ3 ⟨L12, hw3, hd3, rfl⟩
  replace h : K19_k1 L12 = some q0 := h
  unfold K19_k1 at h
  refine bodyQ.wl hw3 hd3 ?_
  have hq := oI h
  subst q0
  exact yB (tup []) [(0, 0), (1, 0), (2, 0)] (Res.zero rfl) (SelL.cells rfl (by first | rfl | simp [ren, rens, sigma, rens_f32, rens_f64, rens_i64, rens_ik, rens_str, rens_cp, rens_mpc]) rfl (SelL.map rfl (SelL.cells rfl (by first | rfl | simp [ren, rens, sigma, rens_f32, rens_f64, rens_i64, rens_ik, rens_str, rens_cp, rens_mpc]) rfl trivial)))
def K1a_b1 (a0 : Int) (a1 : List Int) (a2 : List Int) (a3 : List F) (L2 : List (Int × Int × F)) (v3 : Int) : Option (LR ((List (Int × Int × F)) × Int) ((List (Int × Int × F))) ((List (Int × Int × F)))) :=
 bsel (decide (v3 < a0)) (
  obind (K19 a0 a1 a2 a3 v3 L2 v3) fun (r4 : List (Int × Int × F)) =>
  olet (IntKind.i64.wrap (v3 + 1)) fun (x5 : Int) =>
  some (LR.next (r4, x5))) (
  some (LR.out L2))
def K1a_s1 (a0 : Int) (a1 : List Int) (a2 : List Int) (a3 : List F) : ((List (Int × Int × F)) × Int) → Option (LR ((List (Int × Int × F)) × Int) ((List (Int × Int × F))) ((List (Int × Int × F)))) := fun s => K1a_b1 a0 a1 a2 a3 s.1 s.2
def K1a_k1 (L7 : List (Int × Int × F)) : Option ((List (Int × Int × F))) :=
 some L7
def K1a (a0 : Int) (a1 : List Int) (a2 : List Int) (a3 : List F) : Option ((List (Int × Int × F))) :=
 obind (loopM (K1a_s1 a0 a1 a2 a3) (([] : List (Int × Int × F)), 0)) fun z => osum z (fun e => K1a_k1 e) (fun r => some r)
theorem K1a_ok (a0 : Int) (a1 : List Int) (a2 : List Int) (a3 : List F) (q0 : List (Int × Int × F)) (h : K1a a0 a1 a2 a3 = some q0) : Ev Try.prog 83 [agg [i64 a0, sl a1.length (a1.map i64), sl a2.length (a2.map i64), (sFc a3)]] [] (mref 0 0) [⟨0, some (mpc q0)⟩] := by
 refine yE Try.func83 3 35 0 ([(0, agg [i64 a0, sl a1.length (a1.map i64), sl a2.length (a2.map i64), (sFc a3)])]) [o0, o0, o0] rfl ?_
 unfold K1a at h
 refine zQ<|yd rfl (ptr [i64 a0, sl a1.length (a1.map i64), sl a2.length (a2.map i64), (sFc a3)]) (TOp.box_s rfl rfl rfl)<|ya rfl (x (.map none))<|zN ?_
 refine zQ<|ye rfl (mref 0 1) ([⟨1, some (mpc ([] : List (Int × Int × F)))⟩, o0, o0]) (TOp.mkMap (g := o0) 0 rfl rfl)<|ye rfl (optr 1 1 0) ([⟨1, some (mpc ([] : List (Int × Int × F)))⟩, ⟨1, some [x (.map none)]⟩, o0]) (TOp.alloc_o (g := o0) 1 rfl zer98 zok98 rfl)<|ys (mref 0 1) [mref 0 1] ([⟨1, some (mpc ([] : List (Int × Int × F)))⟩, ⟨1, some [mref 0 1]⟩, o0]) siz98<|zN ?_
 refine yS<|zQ<|yl rfl (ptr [i64 a0, sl a1.length (a1.map i64), sl a2.length (a2.map i64), (sFc a3)]) (LOp.fap und30 rfl siz2 rfl rfl rfl)<|yl rfl (i64 a0) (n2 agg2)<|ym rfl (i64 0)<|zN ?_
 obtain ⟨z2, hz_2, h⟩ := oS h
 refine RunC.cutN (fun τ Γ => ∃ (L7 : List (Int × Int × F)) (u6 : Nat), WeakLe τ [(3, optr 1 1 0)] ∧ DeadLe Γ [⟨1, some (mpc L7)⟩, ⟨1, some [mref 0 1]⟩, ⟨u6, none⟩] ∧ z2 = .inl L7) ?_ ?_
 ·refine RunC.block (RunC.loop (RunL.loopM (x := z2) (K1a_s1 a0 a1 a2 a3) (fun (s : (List (Int × Int × F)) × Int) τ Γ => ∃ (u1 : Nat), WeakLe τ [(1, ptr [i64 a0, sl a1.length (a1.map i64), sl a2.length (a2.map i64), (sFc a3)]), (3, optr 1 1 0), (7, i64 a0), (8, i64 s.2)] ∧ DeadLe Γ [⟨1, some (mpc s.1)⟩, ⟨1, some [mref 0 1]⟩, ⟨u1, none⟩]) ?_ _ _ _ hz_2 ⟨0, ⟨aR, aR, aR, aR, trivial⟩, ⟨⟨rfl, .inr rfl⟩, ⟨rfl, .inr rfl⟩, ⟨rfl, .inl rfl⟩, trivial⟩⟩))
  rintro ⟨L2, v3⟩ τ2 Γ2 y2_ ⟨u1, hw2, hd2⟩ h2_ ho2 hr2
  refine RunC.wl (τ' := [(1, ptr [i64 a0, sl a1.length (a1.map i64), sl a2.length (a2.map i64), (sFc a3)]), (3, optr 1 1 0), (7, i64 a0), (8, i64 v3)]) (Γ' := [⟨1, some (mpc L2)⟩, ⟨1, some [mref 0 1]⟩, ⟨u1, none⟩]) hw2 hd2 ?_
  replace h2_ : K1a_b1 a0 a1 a2 a3 L2 v3 = some y2_ := h2_
  unfold K1a_b1 at h2_
  refine yS ?_
  rcases oB h2_ with ⟨hc1, h2_⟩ | ⟨hc1, h2_⟩
  ·refine yW<|yl rfl (b true) (LOp.eqb (LOp.lss rfl rfl rfl) hc1)<|zN ?_
   refine yS<|yT<|RunC.skip<|yS<|RunC.block<|zQ<|ym rfl (i64 v3)<|ye rfl (optr 2 (u1 + 1) 0) ([⟨1, some (mpc L2)⟩, ⟨1, some [mref 0 1]⟩, ⟨(u1 + 1), some [i64 0]⟩]) (TOp.alloc_o (g := ⟨u1, none⟩) 2 rfl zer2 zok2 rfl)<|ys (i64 v3) [i64 v3] ([⟨1, some (mpc L2)⟩, ⟨1, some [mref 0 1]⟩, ⟨(u1 + 1), some [i64 v3]⟩]) siz2<|zN ?_
   obtain ⟨r4, hf2, h2_⟩ := oS h2_
   refine yW<|yl rfl (agg [i64 a0, sl a1.length (a1.map i64), sl a2.length (a2.map i64), (sFc a3)]) (yL agg30 siz30)<|yd rfl (i64 v3) (TOp.load1_o rfl rfl agg2 rfl rfl)<|yl rfl (fn (.func 176) [] [optr 1 1 0, optr 2 (u1 + 1) 0]) (LOp.makeFunc rfl rfl)<|ROps.callO (A := [agg [i64 a0, sl a1.length (a1.map i64), sl a2.length (a2.map i64), (sFc a3)], i64 v3, fn (.func 176) [] [optr 1 1 0, optr 2 (u1 + 1) 0]]) (args := [agg [i64 a0, sl a1.length (a1.map i64), sl a2.length (a2.map i64), (sFc a3)], i64 v3, fn (.func 176) [] [optr 0 0 0, optr 2 0 0]]) (Γc := [⟨0, some [mref 1 0]⟩, ⟨0, some (mpc L2)⟩, ⟨0, some [i64 v3]⟩]) (Γc' := [⟨0, some [mref 1 0]⟩, ⟨0, some (mpc r4)⟩, ⟨0, some [i64 v3]⟩]) (r' := tup []) (Γ' := [⟨1, some (mpc r4)⟩, ⟨1, some [mref 0 1]⟩, ⟨(u1 + 1), some [i64 v3]⟩]) [(1, 1), (0, 1), (2, (u1 + 1))] [] rfl (CallAs.func ent84 rfl rfl) rfl rfl (SelOk.of (show List.Nodup [1, 0, 2] from by decide) (SelL.cells0 rfl (by simp [ren, rens, sigma, rens_f32, rens_f64, rens_i64, rens_ik, rens_str, rens_cp, rens_mpc]) rfl (SelL.map0 rfl (SelL.cells0 rfl (by simp [ren, rens, sigma, rens_f32, rens_f64, rens_i64, rens_ik, rens_str, rens_cp, rens_mpc]) rfl trivial)))) (live_of ⟨⟨_, _, rfl⟩, ⟨_, _, rfl⟩, ⟨_, _, rfl⟩, trivial⟩) (by simp [ren, rens, sigma, rens_f32, rens_f64, rens_i64, rens_ik, rens_str, rens_cp, rens_mpc]) (lts_cons (lt_agg (lts_cons rfl (lts_cons (lt_slk (fun _ => rfl)) (lts_cons (lt_slk (fun _ => rfl)) (lts_cons (lt_slk (fun _ => rfl)) lts_nil))))) (lts_cons rfl (lts_cons rfl lts_nil))) (K19_ok a0 a1 a2 a3 v3 L2 v3 r4 hf2) rfl (news_of trivial) (show List.Nodup [1, 0, 2] from by decide) (by simp [ren, rens, sigma]) (by simp [backOb, sigma, ren, rens, rens_f32, rens_f64, rens_i64, rens_ik, rens_str, rens_cp, rens_mpc] <;> omega)<|zN ?_
   refine RunC.wl (τ' := [(1, ptr [i64 a0, sl a1.length (a1.map i64), sl a2.length (a2.map i64), (sFc a3)]), (3, optr 1 1 0), (7, i64 a0), (8, i64 v3)]) (Γ' := [⟨1, some (mpc r4)⟩, ⟨1, some [mref 0 1]⟩, ⟨(u1 + 1), none⟩]) ⟨aR, aR, aR, aR, trivial⟩ ⟨⟨rfl, .inr rfl⟩, ⟨rfl, .inr rfl⟩, ⟨rfl, .inl rfl⟩, trivial⟩ ?_
   obtain ⟨x5, hx3, h2_⟩ := oL h2_
   refine yW<|yl rfl (i64 x5) (LOp.eqr (LOp.add rfl rfl rfl) (congrArg (ik .i64) hx3))<|ym rfl (i64 x5)<|zN ?_
   cases oI h2_
   exact ⟨_, rfl, (u1 + 1), ⟨aR, aR, aR, aR, trivial⟩, ⟨⟨rfl, .inr rfl⟩, ⟨rfl, .inr rfl⟩, ⟨rfl, .inl rfl⟩, trivial⟩⟩
  ·refine yW<|yl rfl (b false) (LOp.eqb (LOp.lss rfl rfl rfl) hc1)<|zN ?_
   refine yS<|yF<|RunC.exit ?_
   cases oI h2_
   have hx := ho2 _ rfl
   exact ⟨L2, u1, ⟨aR, trivial⟩, ⟨⟨rfl, .inr rfl⟩, ⟨rfl, .inr rfl⟩, ⟨rfl, .inl rfl⟩, trivial⟩, hx⟩
 ·rintro τ3 Γ3 ⟨L7, u6, hw3, hd3, rfl⟩
  refine RunC.wl hw3 hd3 ?_
  replace h : K1a_k1 L7 = some q0 := h
  unfold K1a_k1 at h
  refine zQ<|yd rfl (mref 0 1) (TOp.load1_o rfl rfl agg98 rfl rfl)<|ya rfl (mref 0 1)<|zN ?_
  refine RunC.ret ?_
  have hq := oI h
  subst q0
  exact yB (mref 0 1) [(0, 1)] (Res.one rfl (RV.tmp rfl)) (SelL.map0 rfl trivial)
def K1b (a0 : F) (a1 : F) : Option (F) :=
 olet (fop .mul .f32 a0 a1) fun (x1 : F) =>
 some x1
theorem K1b_ok (a0 : F) (a1 : F) (q0 : F) (h : K1b a0 a1 = some q0) : Ev Try.prog 86 [f32 a0, f32 a1] [] (f32 q0) [] := by
 refine yE Try.func86 0 17 0 [(0, f32 a0), (1, f32 a1)] [] rfl ?_
 unfold K1b at h
 refine zQ<|yl rfl (f32 (some 0)) (LOp.le (LOp.assign rfl rfl) (ALe.fl (by kernel_rfl) (by kernel_rfl)))<|zN ?_
 refine yS ?_
 obtain ⟨x1, hx1, h⟩ := oL h
 refine yW<|ym rfl (f32 a0)<|ym rfl (f32 a1)<|yd rfl (f32 x1) (TOp.eqr (TOp.fop (.inr (.inr (.inl rfl))) rfl (OpF.tmp rfl) (OpF.tmp rfl)) (congrArg (f .f32) hx1))<|ya rfl (f32 x1)<|zN ?_
 refine RunC.ret ?_
 have hq := oI h
 subst q0
 exact bR rfl
def K1c (a0 : Int) (a1 : F) (a2 : Int) (a3 : F) (a4 : List F) : Option (F × (List F)) :=
 bsel (!decide (a0 = a2)) (
  obind (at? a4 a0) fun (e1 : F) =>
  obind (K1b a1 e1) fun (r2 : F) =>
  olet (fop .sub .f32 a3 r2) fun (x3 : F) =>
  some (x3, a4)) (
  some (a3, a4))
theorem K1c_ok (a0 : Int) (a1 : F) (a2 : Int) (a3 : F) (a4 : List F) (q0 : F) (q1 : List F) (h : K1c a0 a1 a2 a3 a4 = some (q0, q1)) : Ev Try.prog 85 [i64 a0, f32 a1, optr 0 0 0, optr 1 0 0, optr 2 0 0] [⟨0, some [i64 a2]⟩, ⟨0, some [f32 a3]⟩, ⟨0, some [oref 3 0 0 a4.length]⟩, oF 0 a4] (tup []) [⟨0, some [i64 a2]⟩, ⟨0, some [f32 q0]⟩, ⟨0, some [oref 3 0 0 a4.length]⟩, oF 0 q1] := by
 refine Ev.start Try.func85 rfl rfl 0 (τ := [(0, i64 a0), (1, f32 a1), (2, optr 0 0 0), (3, optr 1 0 0), (4, optr 2 0 0)]) rfl (Γ' := [⟨0, some [i64 a2]⟩, ⟨0, some [f32 a3]⟩, ⟨0, some [oref 3 0 0 a4.length]⟩, oF 0 a4]) rfl (n := 36) rfl (g := 4) rfl (by decide) ?_
 unfold K1c at h
 refine yS ?_
 rcases oB h with ⟨hc1, h⟩ | ⟨hc1, h⟩
 ·refine yW<|ym rfl (i64 a0)<|yd rfl (i64 a2) (TOp.load1_o rfl rfl agg2 rfl rfl)<|yl rfl (b true) (LOp.eqb (LOp.neq rfl rfl rfl) hc1)<|zN ?_
  refine yT ?_
  obtain ⟨e1, he2, h⟩ := oS h
  obtain ⟨r2, hf3, h⟩ := oS h
  obtain ⟨x3, hx4, h⟩ := oL h
  refine RunC.region_draw (Γ' := [⟨0, some [i64 a2]⟩, ⟨0, some [f32 a3]⟩, ⟨0, some [oref 3 0 0 a4.length]⟩, oF 0 a4]) 8 mixed 
   (TR.d (r := f32 a3) (fs := []) rfl rfl (TOp.load1_o rfl rfl agg26 rfl rfl) <|
   (tm rfl (f32 a1) <|
   (TR.d (r := oref 3 0 0 a4.length) (fs := []) rfl rfl (TOp.load1_o rfl rfl agg23 rfl rfl) <|
   (tm rfl (i64 a0) <|
   (TR.d (r := optr 3 0 a0.toNat) (fs := []) rfl rfl (TOp.ixo und23 siz26 rfl rfl rfl (at_in he2 rfl) rfl) <|
   (TR.d (r := f32 e1) (fs := []) rfl rfl (TOp.load1_o rfl (at_cell he2) agg26 rfl rfl) <|
   (TR.d (r := f32 r2) (fs := []) rfl rfl (yc ent86 rfl rfl (bP bN0) (K1b_ok a1 e1 r2 hf3)) <|
   (TR.d (r := f32 x3) (fs := []) rfl rfl (TOp.eqr (TOp.fop (.inr (.inl rfl)) rfl (OpF.tmp rfl) (OpF.tmp rfl)) (congrArg (f .f32) hx4)) <|
   TR.nil)))))))) rfl (by kernel_rfl) rfl fills_nil rfl ?_
  iterate 8 refine ROps.dropS ?_
  refine ROps.drop0<|ys (f32 x3) [f32 x3] ([⟨0, some [i64 a2]⟩, ⟨0, some [f32 x3]⟩, ⟨0, some [oref 3 0 0 a4.length]⟩, oF 0 a4]) siz26<|zN ?_
  have hq := oI h
  obtain ⟨hq0, hq⟩ := Prod.mk.inj hq
  subst q0
  subst q1
  exact yB (tup []) [(0, 0), (1, 0), (2, 0), (3, 0)] (Res.zero rfl) (SelL.cells rfl (by first | rfl | simp [ren, rens, sigma, rens_f32, rens_f64, rens_i64, rens_ik, rens_str, rens_cp]) rfl (SelL.cells rfl (by first | rfl | simp [ren, rens, sigma, rens_f32, rens_f64, rens_i64, rens_ik, rens_str, rens_cp]) rfl (SelL.cells rfl (by first | rfl | simp [ren, rens, sigma, rens_f32, rens_f64, rens_i64, rens_ik, rens_str, rens_cp]) rfl (SelL.arr (f := f32) (fun _ => rfl) rfl trivial))))
 ·refine yW<|ym rfl (i64 a0)<|yd rfl (i64 a2) (TOp.load1_o rfl rfl agg2 rfl rfl)<|yl rfl (b false) (LOp.eqb (LOp.neq rfl rfl rfl) hc1)<|zN ?_
  refine yF<|RunC.skip ?_
  have hq := oI h
  obtain ⟨hq0, hq⟩ := Prod.mk.inj hq
  subst q0
  subst q1
  exact yB (tup []) [(0, 0), (1, 0), (2, 0), (3, 0)] (Res.zero rfl) (SelL.cells rfl (by first | rfl | simp [ren, rens, sigma, rens_f32, rens_f64, rens_i64, rens_ik, rens_str, rens_cp]) rfl (SelL.cells rfl (by first | rfl | simp [ren, rens, sigma, rens_f32, rens_f64, rens_i64, rens_ik, rens_str, rens_cp]) rfl (SelL.cells rfl (by first | rfl | simp [ren, rens, sigma, rens_f32, rens_f64, rens_i64, rens_ik, rens_str, rens_cp]) rfl (SelL.arr (f := f32) (fun _ => rfl) rfl trivial))))
def K1d_b1 (a1 : List Int) (a2 : List Int) (a3 : List F) (a4 : Int) (a5 : Int) (a7 : List F) (L2 : List F) (y4 : F) (v5 : Int) : Option (LR ((List F) × F × Int) ((List F) × F) (F × (List F))) :=
 olet (IntKind.i64.wrap (a4 + 1)) fun (x6 : Int) =>
 obind (at? a1 x6) fun (e7 : Int) =>
 bsel (decide (v5 < e7)) (
  obind (at? a2 v5) fun (e10 : Int) =>
  obind (at? a3 v5) fun (e11 : F) =>
  obind2 (K1c e10 e11 a5 y4 L2) fun (r12 : F) (r13 : List F) =>
  need (decide (r13.length = a7.length)) <|
  olet (IntKind.i64.wrap (v5 + 1)) fun (x14 : Int) =>
  some (LR.next (r13, r12, x14))) (
  some (LR.out (L2, y4)))
def K1d_s1 (a1 : List Int) (a2 : List Int) (a3 : List F) (a4 : Int) (a5 : Int) (a7 : List F) : ((List F) × F × Int) → Option (LR ((List F) × F × Int) ((List F) × F) (F × (List F))) := fun s => K1d_b1 a1 a2 a3 a4 a5 a7 s.1 s.2.1 s.2.2
def K1d_k1 (L15 : List F) (y17 : F) : Option (F × (List F)) :=
 some (y17, L15)
def K1d (a0 : Int) (a1 : List Int) (a2 : List Int) (a3 : List F) (a4 : Int) (a5 : Int) (a6 : F) (a7 : List F) : Option (F × (List F)) :=
 obind (at? a1 a4) fun (e1 : Int) =>
 obind (loopM (K1d_s1 a1 a2 a3 a4 a5 a7) (a7, a6, e1)) fun z => osum z (fun e => K1d_k1 e.1 e.2) (fun r => some r)
theorem K1d_ok (a0 : Int) (a1 : List Int) (a2 : List Int) (a3 : List F) (a4 : Int) (a5 : Int) (a6 : F) (a7 : List F) (q0 : F) (q1 : List F) (h : K1d a0 a1 a2 a3 a4 a5 a6 a7 = some (q0, q1)) : Ev Try.prog 84 [agg [i64 a0, sl a1.length (a1.map i64), sl a2.length (a2.map i64), (sFc a3)], i64 a4, fn (.func 85) [] [optr 0 0 0, optr 1 0 0, optr 2 0 0]] [⟨0, some [i64 a5]⟩, ⟨0, some [f32 a6]⟩, ⟨0, some [oref 3 0 0 a7.length]⟩, oF 0 a7] (tup []) [⟨0, some [i64 a5]⟩, ⟨0, some [f32 q0]⟩, ⟨0, some [oref 3 0 0 a7.length]⟩, oF 0 q1] := by
 refine Ev.start Try.func84 rfl rfl 0 (τ := [(0, agg [i64 a0, sl a1.length (a1.map i64), sl a2.length (a2.map i64), (sFc a3)]), (1, i64 a4), (2, fn (.func 85) [] [optr 0 0 0, optr 1 0 0, optr 2 0 0])]) rfl (Γ' := [⟨0, some [i64 a5]⟩, ⟨0, some [f32 a6]⟩, ⟨0, some [oref 3 0 0 a7.length]⟩, oF 0 a7]) rfl (n := 68) rfl (g := 4) rfl (by decide) ?_
 unfold K1d at h
 refine zQ<|yd rfl (ptr [i64 a0, sl a1.length (a1.map i64), sl a2.length (a2.map i64), (sFc a3)]) (TOp.box_s rfl rfl rfl)<|zN ?_
 refine yS ?_
 obtain ⟨e1, he1, h⟩ := oS h
 refine yW<|yl rfl (ptr [sl a1.length (a1.map i64), sl a2.length (a2.map i64), (sFc a3)]) (LOp.fap und30 rfl siz22 rfl rfl rfl)<|yl rfl (sl a1.length (a1.map i64)) (n2 agg22)<|ym rfl (i64 a4)<|yl rfl (ptr [i64 e1]) (LOp.le (LOp.ix (f := i64) und22 siz2 rfl rfl rfl rfl he1) ALe.ptr)<|yl rfl (i64 e1) (n2 agg2)<|ya rfl (i64 e1)<|zN ?_
 obtain ⟨z2, hz_2, h⟩ := oS h
 refine RunC.cutN (fun τ Γ => ∃ (L15 : List F) (y17 : F), L15.length = a7.length ∧ WeakLe τ [] ∧ DeadLe Γ [⟨0, some [i64 a5]⟩, ⟨0, some [f32 y17]⟩, ⟨0, some [oref 3 0 0 a7.length]⟩, oF 0 L15] ∧ z2 = .inl (L15, y17)) ?_ ?_
 ·refine RunC.block (RunC.loop (RunL.loopM (x := z2) (K1d_s1 a1 a2 a3 a4 a5 a7) (fun (s : (List F) × F × Int) τ Γ => s.1.length = a7.length ∧ WeakLe τ [(1, i64 a4), (2, fn (.func 85) [] [optr 0 0 0, optr 1 0 0, optr 2 0 0]), (3, ptr [i64 a0, sl a1.length (a1.map i64), sl a2.length (a2.map i64), (sFc a3)]), (6, i64 s.2.2)] ∧ DeadLe Γ [⟨0, some [i64 a5]⟩, ⟨0, some [f32 s.2.1]⟩, ⟨0, some [oref 3 0 0 a7.length]⟩, ⟨0, some (s.1.map f32)⟩]) ?_ _ _ _ hz_2 ⟨rfl, ⟨aR, aR, aR, aR, trivial⟩, ⟨⟨rfl, .inr rfl⟩, ⟨rfl, .inr rfl⟩, ⟨rfl, .inr rfl⟩, ⟨rfl, .inr rfl⟩, trivial⟩⟩))
  rintro ⟨L2, y4, v5⟩ τ2 Γ2 y2_ ⟨hl3, hw2, hd2⟩ h2_ ho2 hr2
  refine RunC.wl (τ' := [(1, i64 a4), (2, fn (.func 85) [] [optr 0 0 0, optr 1 0 0, optr 2 0 0]), (3, ptr [i64 a0, sl a1.length (a1.map i64), sl a2.length (a2.map i64), (sFc a3)]), (6, i64 v5)]) (Γ' := [⟨0, some [i64 a5]⟩, ⟨0, some [f32 y4]⟩, ⟨0, some [oref 3 0 0 a7.length]⟩, oF 0 L2]) hw2 hd2 ?_
  replace hl3 : L2.length = a7.length := hl3
  replace h2_ : K1d_b1 a1 a2 a3 a4 a5 a7 L2 y4 v5 = some y2_ := h2_
  unfold K1d_b1 at h2_
  refine yS<|yS ?_
  obtain ⟨x6, hx2, h2_⟩ := oL h2_
  obtain ⟨e7, he3, h2_⟩ := oS h2_
  rcases oB h2_ with ⟨hc4, h2_⟩ | ⟨hc4, h2_⟩
  ·refine yW<|ym rfl (i64 v5)<|yl rfl (ptr [sl a1.length (a1.map i64), sl a2.length (a2.map i64), (sFc a3)]) (LOp.fap und30 rfl siz22 rfl rfl rfl)<|yl rfl (sl a1.length (a1.map i64)) (n2 agg22)<|ym rfl (i64 a4)<|yl rfl (i64 x6) (LOp.eqr (LOp.add rfl rfl rfl) (congrArg (ik .i64) hx2))<|yl rfl (ptr [i64 e7]) (LOp.le (LOp.ix (f := i64) und22 siz2 rfl rfl rfl rfl he3) ALe.ptr)<|yl rfl (i64 e7) (n2 agg2)<|yl rfl (b true) (LOp.eqb (LOp.lss rfl rfl rfl) hc4)<|zN ?_
   refine yT<|RunC.skip<|yS<|RunC.block ?_
   obtain ⟨e10, he7, h2_⟩ := oS h2_
   obtain ⟨e11, he8, h2_⟩ := oS h2_
   obtain ⟨r12, r13, hf9, h2_⟩ := obind2_some h2_
   obtain ⟨hn10, h2_⟩ := need_some h2_
   refine RunC.region_draw (Γ' := [⟨0, some [i64 a5]⟩, ⟨0, some [f32 y4]⟩, ⟨0, some [oref 3 0 0 a7.length]⟩, oF 0 L2]) 11 mixed 
    (tm rfl (fn (.func 85) [] [optr 0 0 0, optr 1 0 0, optr 2 0 0]) <|
    (tl rfl (ptr [sl a2.length (a2.map i64), (sFc a3)]) (LOp.fap und30 rfl siz22 rfl rfl rfl) <|
    (tl rfl (sl a2.length (a2.map i64)) (n2 agg22) <|
    (tm rfl (i64 v5) <|
    (tl rfl (ptr [i64 e10]) (LOp.le (LOp.ix (f := i64) und22 siz2 rfl rfl rfl rfl he7) ALe.ptr) <|
    (tl rfl (i64 e10) (n2 agg2) <|
    (tl rfl (ptr [(sFc a3)]) (LOp.fap und30 rfl siz23 rfl rfl rfl) <|
    (tl rfl (sFc a3) (n2 agg23) <|
    (tm rfl (i64 v5) <|
    (tl rfl (ptr [f32 e11]) (LOp.le (LOp.ix (f := f32) und23 siz26 rfl rfl rfl rfl he8) ALe.ptr) <|
    (tl rfl (f32 e11) (n2 agg26) <|
    TR.nil))))))))))) rfl (by kernel_rfl) rfl fills_nil rfl ?_
   iterate 11 refine ROps.dropS ?_
   refine ROps.drop0<|ROps.callO (A := [i64 e10, f32 e11, optr 0 0 0, optr 1 0 0, optr 2 0 0]) (args := [i64 e10, f32 e11, optr 0 0 0, optr 1 0 0, optr 2 0 0]) (Γc := [⟨0, some [i64 a5]⟩, ⟨0, some [f32 y4]⟩, ⟨0, some [oref 3 0 0 L2.length]⟩, oF 0 L2]) (Γc' := [⟨0, some [i64 a5]⟩, ⟨0, some [f32 r12]⟩, ⟨0, some [oref 3 0 0 L2.length]⟩, oF 0 r13]) (r' := tup []) (Γ' := [⟨0, some [i64 a5]⟩, ⟨0, some [f32 r12]⟩, ⟨0, some [oref 3 0 0 a7.length]⟩, oF 0 r13]) [(0, 0), (1, 0), (2, 0), (3, 0)] [] rfl (CallAs.fn ent85 rfl rfl rfl rfl) rfl rfl (SelOk.of (show List.Nodup [0, 1, 2, 3] from by decide) (SelL.cells0 rfl (by simp [ren, rens, sigma, rens_f32, rens_f64, rens_i64, rens_ik, rens_str, rens_cp, hl3]) rfl (SelL.cells0 rfl (by simp [ren, rens, sigma, rens_f32, rens_f64, rens_i64, rens_ik, rens_str, rens_cp, hl3]) rfl (SelL.cells0 rfl (by simp [ren, rens, sigma, rens_f32, rens_f64, rens_i64, rens_ik, rens_str, rens_cp, hl3]) rfl (sA rfl trivial))))) (live_of ⟨⟨_, _, rfl⟩, ⟨_, _, rfl⟩, ⟨_, _, rfl⟩, ⟨_, _, rfl⟩, trivial⟩) (by simp [ren, rens, sigma, rens_f32, rens_f64, rens_i64, rens_ik, rens_str, rens_cp, hl3]) rfl (K1c_ok e10 e11 a5 y4 L2 r12 r13 hf9) rfl (news_of trivial) (show List.Nodup [0, 1, 2, 3] from by decide) (by simp [ren, rens, sigma, of_decide_eq_true hn10]) (by simp [backOb, sigma, ren, rens, rens_f32, rens_f64, rens_i64, rens_ik, rens_str, rens_cp, hl3, of_decide_eq_true hn10] <;> omega)<|zN ?_
   refine RunC.wl (τ' := [(1, i64 a4), (2, fn (.func 85) [] [optr 0 0 0, optr 1 0 0, optr 2 0 0]), (3, ptr [i64 a0, sl a1.length (a1.map i64), sl a2.length (a2.map i64), (sFc a3)]), (6, i64 v5)]) (Γ' := [⟨0, some [i64 a5]⟩, ⟨0, some [f32 r12]⟩, ⟨0, some [oref 3 0 0 a7.length]⟩, oF 0 r13]) ⟨aR, aR, aR, aR, trivial⟩ ⟨⟨rfl, .inr rfl⟩, ⟨rfl, .inr rfl⟩, ⟨rfl, .inr rfl⟩, ⟨rfl, .inr rfl⟩, trivial⟩ ?_
   obtain ⟨x14, hx11, h2_⟩ := oL h2_
   refine yW<|ym rfl (i64 v5)<|yl rfl (i64 x14) (LOp.eqr (LOp.add rfl rfl rfl) (congrArg (ik .i64) hx11))<|ya rfl (i64 x14)<|zN ?_
   cases oI h2_
   exact ⟨_, rfl, (of_decide_eq_true hn10), ⟨aR, aR, aR, aR, trivial⟩, ⟨⟨rfl, .inr rfl⟩, ⟨rfl, .inr rfl⟩, ⟨rfl, .inr rfl⟩, ⟨rfl, .inr rfl⟩, trivial⟩⟩
  ·refine yW<|ym rfl (i64 v5)<|yl rfl (ptr [sl a1.length (a1.map i64), sl a2.length (a2.map i64), (sFc a3)]) (LOp.fap und30 rfl siz22 rfl rfl rfl)<|yl rfl (sl a1.length (a1.map i64)) (n2 agg22)<|ym rfl (i64 a4)<|yl rfl (i64 x6) (LOp.eqr (LOp.add rfl rfl rfl) (congrArg (ik .i64) hx2))<|yl rfl (ptr [i64 e7]) (LOp.le (LOp.ix (f := i64) und22 siz2 rfl rfl rfl rfl he3) ALe.ptr)<|yl rfl (i64 e7) (n2 agg2)<|yl rfl (b false) (LOp.eqb (LOp.lss rfl rfl rfl) hc4)<|zN ?_
   refine yF<|RunC.exit ?_
   cases oI h2_
   have hx := ho2 _ rfl
   exact ⟨L2, y4, hl3, trivial, ⟨⟨rfl, .inr rfl⟩, ⟨rfl, .inr rfl⟩, ⟨rfl, .inr rfl⟩, ⟨rfl, .inr rfl⟩, trivial⟩, hx⟩
 ·rintro τ3 Γ3 ⟨L15, y17, hl16, hw3, hd3, rfl⟩
  replace h : K1d_k1 L15 y17 = some (q0, q1) := h
  unfold K1d_k1 at h
  refine bodyQ.wl hw3 hd3 ?_
  have hq := oI h
  obtain ⟨hq0, hq⟩ := Prod.mk.inj hq
  subst q0
  subst q1
  exact yB (tup []) [(0, 0), (1, 0), (2, 0), (3, 0)] (Res.zero rfl) (SelL.cells rfl (by first | rfl | simp [ren, rens, sigma, rens_f32, rens_f64, rens_i64, rens_ik, rens_str, rens_cp]) rfl (SelL.cells rfl (by first | rfl | simp [ren, rens, sigma, rens_f32, rens_f64, rens_i64, rens_ik, rens_str, rens_cp]) rfl (SelL.cells rfl (by first | rfl | simp [ren, rens, sigma, rens_f32, rens_f64, rens_i64, rens_ik, rens_str, rens_cp]) rfl (SelL.arr (f := f32) (fun _ => rfl) rfl trivial))))
def K1e (a0 : Int) (a1 : F) (a2 : List F) (a3 : F) : Option (F) :=
 obind (at? a2 a0) fun (e1 : F) =>
 obind (K1b a1 e1) fun (r2 : F) =>
 olet (fop .add .f32 a3 r2) fun (x3 : F) =>
 some x3
theorem K1e_ok (a0 : Int) (a1 : F) (a2 : List F) (a3 : F) (q0 : F) (h : K1e a0 a1 a2 a3 = some q0) : Ev Try.prog 177 [i64 a0, f32 a1, optr 0 0 0, ptr [(sFc a2)]] [⟨0, some [f32 a3]⟩] (tup []) [⟨0, some [f32 q0]⟩] := by
 refine Ev.start Try.func177 rfl rfl 0 (τ := [(0, i64 a0), (1, f32 a1), (2, optr 0 0 0), (3, ptr [(sFc a2)])]) rfl (Γ' := [⟨0, some [f32 a3]⟩]) rfl (n := 28) rfl (g := 1) rfl (by decide) ?_
 unfold K1e at h
 obtain ⟨e1, he1, h⟩ := oS h
 obtain ⟨r2, hf2, h⟩ := oS h
 obtain ⟨x3, hx3, h⟩ := oL h
 refine RunC.region_draw (Γ' := [⟨0, some [f32 a3]⟩]) 8 mixed 
  (TR.d (r := f32 a3) (fs := []) rfl rfl (TOp.load1_o rfl rfl agg26 rfl rfl) <|
  (tm rfl (f32 a1) <|
  (tl rfl (sFc a2) (n2 agg23) <|
  (tm rfl (i64 a0) <|
  (tl rfl (ptr [f32 e1]) (LOp.le (LOp.ix (f := f32) und23 siz26 rfl rfl rfl rfl he1) ALe.ptr) <|
  (tl rfl (f32 e1) (n2 agg26) <|
  (TR.d (r := f32 r2) (fs := []) rfl rfl (yc ent86 rfl rfl (bP bN0) (K1b_ok a1 e1 r2 hf2)) <|
  (TR.d (r := f32 x3) (fs := []) rfl rfl (TOp.eqr (TOp.fop (.inl rfl) rfl (OpF.tmp rfl) (OpF.tmp rfl)) (congrArg (f .f32) hx3)) <|
  TR.nil)))))))) rfl (by kernel_rfl) rfl fills_nil rfl ?_
 iterate 8 refine ROps.dropS ?_
 refine ROps.drop0<|ys (f32 x3) [f32 x3] ([⟨0, some [f32 x3]⟩]) siz26<|zN ?_
 have hq := oI h
 subst q0
 exact yB (tup []) [(0, 0)] (Res.zero rfl) (SelL.cells rfl (by first | rfl | simp [ren, rens, sigma, rens_f32, rens_f64, rens_i64, rens_ik, rens_str, rens_cp]) rfl trivial)
def K1f_b1 (a1 : List Int) (a2 : List Int) (a3 : List F) (a4 : Int) (a5 : List F) (y2 : F) (v3 : Int) : Option (LR (F × Int) (F) (F)) :=
 olet (IntKind.i64.wrap (a4 + 1)) fun (x4 : Int) =>
 obind (at? a1 x4) fun (e5 : Int) =>
 bsel (decide (v3 < e5)) (
  obind (at? a2 v3) fun (e8 : Int) =>
  obind (at? a3 v3) fun (e9 : F) =>
  obind (K1e e8 e9 a5 y2) fun (r10 : F) =>
  olet (IntKind.i64.wrap (v3 + 1)) fun (x11 : Int) =>
  some (LR.next (r10, x11))) (
  some (LR.out y2))
def K1f_s1 (a1 : List Int) (a2 : List Int) (a3 : List F) (a4 : Int) (a5 : List F) : (F × Int) → Option (LR (F × Int) (F) (F)) := fun s => K1f_b1 a1 a2 a3 a4 a5 s.1 s.2
def K1f_k1 (y12 : F) : Option (F) :=
 some y12
def K1f (a0 : Int) (a1 : List Int) (a2 : List Int) (a3 : List F) (a4 : Int) (a5 : List F) (a6 : F) : Option (F) :=
 obind (at? a1 a4) fun (e1 : Int) =>
 obind (loopM (K1f_s1 a1 a2 a3 a4 a5) (a6, e1)) fun z => osum z (fun e => K1f_k1 e) (fun r => some r)
theorem K1f_ok (a0 : Int) (a1 : List Int) (a2 : List Int) (a3 : List F) (a4 : Int) (a5 : List F) (a6 : F) (q0 : F) (h : K1f a0 a1 a2 a3 a4 a5 a6 = some q0) : Ev Try.prog 84 [agg [i64 a0, sl a1.length (a1.map i64), sl a2.length (a2.map i64), (sFc a3)], i64 a4, fn (.func 177) [] [optr 0 0 0, ptr [(sFc a5)]]] [⟨0, some [f32 a6]⟩] (tup []) [⟨0, some [f32 q0]⟩] := by
 refine Ev.start Try.func84 rfl rfl 0 (τ := [(0, agg [i64 a0, sl a1.length (a1.map i64), sl a2.length (a2.map i64), (sFc a3)]), (1, i64 a4), (2, fn (.func 177) [] [optr 0 0 0, ptr [(sFc a5)]])]) rfl (Γ' := [⟨0, some [f32 a6]⟩]) rfl (n := 68) rfl (g := 1) rfl (by decide) ?_
 unfold K1f at h
 refine zQ<|yd rfl (ptr [i64 a0, sl a1.length (a1.map i64), sl a2.length (a2.map i64), (sFc a3)]) (TOp.box_s rfl rfl rfl)<|zN ?_
 refine yS ?_
 obtain ⟨e1, he1, h⟩ := oS h
 refine yW<|yl rfl (ptr [sl a1.length (a1.map i64), sl a2.length (a2.map i64), (sFc a3)]) (LOp.fap und30 rfl siz22 rfl rfl rfl)<|yl rfl (sl a1.length (a1.map i64)) (n2 agg22)<|ym rfl (i64 a4)<|yl rfl (ptr [i64 e1]) (LOp.le (LOp.ix (f := i64) und22 siz2 rfl rfl rfl rfl he1) ALe.ptr)<|yl rfl (i64 e1) (n2 agg2)<|ya rfl (i64 e1)<|zN ?_
 obtain ⟨z2, hz_2, h⟩ := oS h
 refine RunC.cutN (fun τ Γ => ∃ (y12 : F), WeakLe τ [] ∧ DeadLe Γ [⟨0, some [f32 y12]⟩] ∧ z2 = .inl y12) ?_ ?_
 ·refine RunC.block (RunC.loop (RunL.loopM (x := z2) (K1f_s1 a1 a2 a3 a4 a5) (fun (s : F × Int) τ Γ => WeakLe τ [(1, i64 a4), (2, fn (.func 177) [] [optr 0 0 0, ptr [(sFc a5)]]), (3, ptr [i64 a0, sl a1.length (a1.map i64), sl a2.length (a2.map i64), (sFc a3)]), (6, i64 s.2)] ∧ DeadLe Γ [⟨0, some [f32 s.1]⟩]) ?_ _ _ _ hz_2 ⟨⟨aR, aR, aR, aR, trivial⟩, ⟨⟨rfl, .inr rfl⟩, trivial⟩⟩))
  rintro ⟨y2, v3⟩ τ2 Γ2 y2_ ⟨hw2, hd2⟩ h2_ ho2 hr2
  refine RunC.wl (τ' := [(1, i64 a4), (2, fn (.func 177) [] [optr 0 0 0, ptr [(sFc a5)]]), (3, ptr [i64 a0, sl a1.length (a1.map i64), sl a2.length (a2.map i64), (sFc a3)]), (6, i64 v3)]) (Γ' := [⟨0, some [f32 y2]⟩]) hw2 hd2 ?_
  replace h2_ : K1f_b1 a1 a2 a3 a4 a5 y2 v3 = some y2_ := h2_
  unfold K1f_b1 at h2_
  refine yS<|yS ?_
  obtain ⟨x4, hx2, h2_⟩ := oL h2_
  obtain ⟨e5, he3, h2_⟩ := oS h2_
  rcases oB h2_ with ⟨hc4, h2_⟩ | ⟨hc4, h2_⟩
  ·refine yW<|ym rfl (i64 v3)<|yl rfl (ptr [sl a1.length (a1.map i64), sl a2.length (a2.map i64), (sFc a3)]) (LOp.fap und30 rfl siz22 rfl rfl rfl)<|yl rfl (sl a1.length (a1.map i64)) (n2 agg22)<|ym rfl (i64 a4)<|yl rfl (i64 x4) (LOp.eqr (LOp.add rfl rfl rfl) (congrArg (ik .i64) hx2))<|yl rfl (ptr [i64 e5]) (LOp.le (LOp.ix (f := i64) und22 siz2 rfl rfl rfl rfl he3) ALe.ptr)<|yl rfl (i64 e5) (n2 agg2)<|yl rfl (b true) (LOp.eqb (LOp.lss rfl rfl rfl) hc4)<|zN ?_
   refine yT<|RunC.skip<|yS<|RunC.block ?_
   obtain ⟨e8, he7, h2_⟩ := oS h2_
   obtain ⟨e9, he8, h2_⟩ := oS h2_
   obtain ⟨r10, hf9, h2_⟩ := oS h2_
   refine RunC.region_draw (Γ' := [⟨0, some [f32 y2]⟩]) 11 mixed 
    (tm rfl (fn (.func 177) [] [optr 0 0 0, ptr [(sFc a5)]]) <|
    (tl rfl (ptr [sl a2.length (a2.map i64), (sFc a3)]) (LOp.fap und30 rfl siz22 rfl rfl rfl) <|
    (tl rfl (sl a2.length (a2.map i64)) (n2 agg22) <|
    (tm rfl (i64 v3) <|
    (tl rfl (ptr [i64 e8]) (LOp.le (LOp.ix (f := i64) und22 siz2 rfl rfl rfl rfl he7) ALe.ptr) <|
    (tl rfl (i64 e8) (n2 agg2) <|
    (tl rfl (ptr [(sFc a3)]) (LOp.fap und30 rfl siz23 rfl rfl rfl) <|
    (tl rfl (sFc a3) (n2 agg23) <|
    (tm rfl (i64 v3) <|
    (tl rfl (ptr [f32 e9]) (LOp.le (LOp.ix (f := f32) und23 siz26 rfl rfl rfl rfl he8) ALe.ptr) <|
    (tl rfl (f32 e9) (n2 agg26) <|
    TR.nil))))))))))) rfl (by kernel_rfl) rfl fills_nil rfl ?_
   iterate 11 refine ROps.dropS ?_
   refine ROps.drop0<|ROps.callO (A := [i64 e8, f32 e9, optr 0 0 0, ptr [(sFc a5)]]) (args := [i64 e8, f32 e9, optr 0 0 0, ptr [(sFc a5)]]) (Γc := [⟨0, some [f32 y2]⟩]) (Γc' := [⟨0, some [f32 r10]⟩]) (r' := tup []) (Γ' := [⟨0, some [f32 r10]⟩]) [(0, 0)] [] rfl (CallAs.fn ent177 rfl rfl rfl rfl) rfl rfl (SelOk.of (ndB_ok rfl) (SelL.cells0 rfl (by simp [ren, rens, sigma, rens_f32, rens_f64, rens_i64, rens_ik, rens_str, rens_cp]) rfl trivial)) (live_of ⟨⟨_, _, rfl⟩, trivial⟩) (by simp [ren, rens, sigma, rens_f32, rens_f64, rens_i64, rens_ik, rens_str, rens_cp]) (lts_cons rfl (lts_cons rfl (lts_cons rfl (lts_cons (lt_ptr (lts_cons (lt_slk (fun _ => rfl)) lts_nil)) lts_nil)))) (K1e_ok e8 e9 a5 y2 r10 hf9) rfl (news_of trivial) (ndB_ok rfl) (by simp [ren, rens, sigma]) (by simp [backOb, sigma, ren, rens, rens_f32, rens_f64, rens_i64, rens_ik, rens_str, rens_cp] <;> omega)<|zN ?_
   refine RunC.wl (τ' := [(1, i64 a4), (2, fn (.func 177) [] [optr 0 0 0, ptr [(sFc a5)]]), (3, ptr [i64 a0, sl a1.length (a1.map i64), sl a2.length (a2.map i64), (sFc a3)]), (6, i64 v3)]) (Γ' := [⟨0, some [f32 r10]⟩]) ⟨aR, aR, aR, aR, trivial⟩ ⟨⟨rfl, .inr rfl⟩, trivial⟩ ?_
   obtain ⟨x11, hx10, h2_⟩ := oL h2_
   refine yW<|ym rfl (i64 v3)<|yl rfl (i64 x11) (LOp.eqr (LOp.add rfl rfl rfl) (congrArg (ik .i64) hx10))<|ya rfl (i64 x11)<|zN ?_
   cases oI h2_
   exact ⟨_, rfl, ⟨aR, aR, aR, aR, trivial⟩, ⟨⟨rfl, .inr rfl⟩, trivial⟩⟩
  ·refine yW<|ym rfl (i64 v3)<|yl rfl (ptr [sl a1.length (a1.map i64), sl a2.length (a2.map i64), (sFc a3)]) (LOp.fap und30 rfl siz22 rfl rfl rfl)<|yl rfl (sl a1.length (a1.map i64)) (n2 agg22)<|ym rfl (i64 a4)<|yl rfl (i64 x4) (LOp.eqr (LOp.add rfl rfl rfl) (congrArg (ik .i64) hx2))<|yl rfl (ptr [i64 e5]) (LOp.le (LOp.ix (f := i64) und22 siz2 rfl rfl rfl rfl he3) ALe.ptr)<|yl rfl (i64 e5) (n2 agg2)<|yl rfl (b false) (LOp.eqb (LOp.lss rfl rfl rfl) hc4)<|zN ?_
   refine yF<|RunC.exit ?_
   cases oI h2_
   have hx := ho2 _ rfl
   exact ⟨y2, trivial, ⟨⟨rfl, .inr rfl⟩, trivial⟩, hx⟩
 ·rintro τ3 Γ3 ⟨y12, hw3, hd3, rfl⟩
  replace h : K1f_k1 y12 = some q0 := h
  unfold K1f_k1 at h
  refine bodyQ.wl hw3 hd3 ?_
  have hq := oI h
  subst q0
  exact yB (tup []) [(0, 0)] (Res.zero rfl) (SelL.cells rfl (by first | rfl | simp [ren, rens, sigma, rens_f32, rens_f64, rens_i64, rens_ik, rens_str, rens_cp]) rfl trivial)
def K1g_b1 (a0 : Int) (a1 : List Int) (a2 : List Int) (a3 : List F) (a4 : List F) (L4 : List F) (v5 : Int) : Option (LR ((List F) × Int) ((List F)) ((List F))) :=
 bsel (decide (v5 < a0)) (
  obind (K1f a0 a1 a2 a3 v5 a4 (some 0)) fun (r6 : F) =>
  need (apok 4 L4.length 1) <|
  olet (IntKind.i64.wrap (v5 + 1)) fun (x7 : Int) =>
  some (LR.next ((L4 ++ ([r6] : List F)), x7))) (
  some (LR.out L4))
def K1g_s1 (a0 : Int) (a1 : List Int) (a2 : List Int) (a3 : List F) (a4 : List F) : ((List F) × Int) → Option (LR ((List F) × Int) ((List F)) ((List F))) := fun s => K1g_b1 a0 a1 a2 a3 a4 s.1 s.2
def K1g_k1 (L11 : List F) : Option ((List F)) :=
 some L11
def K1g (a0 : Int) (a1 : List Int) (a2 : List Int) (a3 : List F) (a4 : List F) : Option ((List F)) :=
 obind (loopM (K1g_s1 a0 a1 a2 a3 a4) (([] : List F), 0)) fun z => osum z (fun e => K1g_k1 e) (fun r => some r)
theorem K1g_ok (a0 : Int) (a1 : List Int) (a2 : List Int) (a3 : List F) (a4 : List F) (q0 : List F) (h : K1g a0 a1 a2 a3 a4 = some q0) : Ev Try.prog 89 [agg [i64 a0, sl a1.length (a1.map i64), sl a2.length (a2.map i64), (sFc a3)], (sFc a4)] [] (oref 0 0 0 q0.length) [oF 0 q0] := by
 refine yE Try.func89 3 49 0 ([(0, agg [i64 a0, sl a1.length (a1.map i64), sl a2.length (a2.map i64), (sFc a3)]), (1, (sFc a4))]) [o0, o0, o0] rfl ?_
 unfold K1g at h
 refine zQ<|yd rfl (ptr [i64 a0, sl a1.length (a1.map i64), sl a2.length (a2.map i64), (sFc a3)]) (TOp.box_s rfl rfl rfl)<|yd rfl (ptr [(sFc a4)]) (TOp.box_s rfl rfl rfl)<|ya rfl nilsl<|zN ?_
 refine zQ<|ye rfl (oref 0 1 0 0) ([⟨1, some (([] : List F).map f32)⟩, o0, o0]) (TOp.buildSlice_o (g := o0) (za := f32 (some 0)) (qs := []) 0 rfl und23 siz26 zer26 rfl zel26 rfl rfl trivial rfl)<|ya rfl (oref 0 1 0 0)<|zN ?_
 refine yS<|zQ<|yl rfl (ptr [i64 a0, sl a1.length (a1.map i64), sl a2.length (a2.map i64), (sFc a3)]) (LOp.fap und30 rfl siz2 rfl rfl rfl)<|yl rfl (i64 a0) (n2 agg2)<|ym rfl (i64 0)<|zN ?_
 obtain ⟨z2, hz_2, h⟩ := oS h
 refine RunC.cutN (fun τ Γ => ∃ (L11 : List F) (u8 : Nat) (u9 : Nat) (u10 : Nat), WeakLe τ [(5, oref 0 u8 0 L11.length)] ∧ DeadLe Γ [⟨u8, some (L11.map f32)⟩, ⟨u9, none⟩, ⟨u10, none⟩] ∧ z2 = .inl L11) ?_ ?_
 ·refine RunC.block (RunC.loop (RunL.loopM (x := z2) (K1g_s1 a0 a1 a2 a3 a4) (fun (s : (List F) × Int) τ Γ => ∃ (u1 : Nat) (u2 : Nat) (u3 : Nat), WeakLe τ [(2, ptr [i64 a0, sl a1.length (a1.map i64), sl a2.length (a2.map i64), (sFc a3)]), (3, ptr [(sFc a4)]), (5, oref 0 u1 0 s.1.length), (10, i64 a0), (11, i64 s.2)] ∧ DeadLe Γ [⟨u1, some (s.1.map f32)⟩, ⟨u2, none⟩, ⟨u3, none⟩]) ?_ _ _ _ hz_2 ⟨1, 0, 0, ⟨aR, aR, aR, aR, aR, trivial⟩, ⟨⟨rfl, .inr rfl⟩, ⟨rfl, .inl rfl⟩, ⟨rfl, .inl rfl⟩, trivial⟩⟩))
  rintro ⟨L4, v5⟩ τ2 Γ2 y2_ ⟨u1, u2, u3, hw2, hd2⟩ h2_ ho2 hr2
  refine RunC.wl (τ' := [(2, ptr [i64 a0, sl a1.length (a1.map i64), sl a2.length (a2.map i64), (sFc a3)]), (3, ptr [(sFc a4)]), (5, oref 0 u1 0 L4.length), (10, i64 a0), (11, i64 v5)]) (Γ' := [⟨u1, some (L4.map f32)⟩, ⟨u2, none⟩, ⟨u3, none⟩]) hw2 hd2 ?_
  replace h2_ : K1g_b1 a0 a1 a2 a3 a4 L4 v5 = some y2_ := h2_
  unfold K1g_b1 at h2_
  refine yS ?_
  rcases oB h2_ with ⟨hc1, h2_⟩ | ⟨hc1, h2_⟩
  ·refine yW<|yl rfl (b true) (LOp.eqb (LOp.lss rfl rfl rfl) hc1)<|zN ?_
   refine yS<|yT<|RunC.skip<|yS<|RunC.block<|zQ<|ym rfl (i64 v5)<|ya rfl (i64 v5)<|zN ?_
   refine zQ<|ye rfl (optr 1 (u2 + 1) 0) ([⟨u1, some (L4.map f32)⟩, ⟨(u2 + 1), some [f32 (some 0)]⟩, ⟨u3, none⟩]) (TOp.alloc_o (g := ⟨u2, none⟩) 1 rfl zer26 zok26 rfl)<|ROps.store_le (r := f32 (some 0)) (l' := [f32 (some 0)]) (Γ' := [⟨u1, some (L4.map f32)⟩, ⟨(u2 + 1), some [f32 (some 0)]⟩, ⟨u3, none⟩]) rfl siz26 rfl rfl rfl (ALe.fl (by kernel_rfl) (by kernel_rfl)) rfl rfl rfl rfl (Nat.le_of_ble_eq_true rfl) rfl rfl<|zN ?_
   refine yS ?_
   obtain ⟨r6, hf2, h2_⟩ := oS h2_
   refine yW<|yl rfl (agg [i64 a0, sl a1.length (a1.map i64), sl a2.length (a2.map i64), (sFc a3)]) (yL agg30 siz30)<|ym rfl (i64 v5)<|yl rfl (fn (.func 177) [] [optr 1 (u2 + 1) 0, ptr [(sFc a4)]]) (LOp.makeFunc rfl rfl)<|ROps.callO (A := [agg [i64 a0, sl a1.length (a1.map i64), sl a2.length (a2.map i64), (sFc a3)], i64 v5, fn (.func 177) [] [optr 1 (u2 + 1) 0, ptr [(sFc a4)]]]) (args := [agg [i64 a0, sl a1.length (a1.map i64), sl a2.length (a2.map i64), (sFc a3)], i64 v5, fn (.func 177) [] [optr 0 0 0, ptr [(sFc a4)]]]) (Γc := [⟨0, some [f32 (some 0)]⟩]) (Γc' := [⟨0, some [f32 r6]⟩]) (r' := tup []) (Γ' := [⟨u1, some (L4.map f32)⟩, ⟨(u2 + 1), some [f32 r6]⟩, ⟨u3, none⟩]) [(1, (u2 + 1))] [] rfl (CallAs.func ent84 rfl rfl) rfl rfl (SelOk.of (ndB_ok rfl) (SelL.cells0 rfl (by simp [ren, rens, sigma, rens_f32, rens_f64, rens_i64, rens_ik, rens_str, rens_cp]) rfl trivial)) (live_of ⟨⟨_, _, rfl⟩, trivial⟩) (by simp [ren, rens, sigma, rens_f32, rens_f64, rens_i64, rens_ik, rens_str, rens_cp]) (lts_cons (lt_agg (lts_cons rfl (lts_cons (lt_slk (fun _ => rfl)) (lts_cons (lt_slk (fun _ => rfl)) (lts_cons (lt_slk (fun _ => rfl)) lts_nil))))) (lts_cons rfl (lts_cons (lt_fn rfl (lts_cons rfl (lts_cons (lt_ptr (lts_cons (lt_slk (fun _ => rfl)) lts_nil)) lts_nil))) lts_nil))) (K1f_ok a0 a1 a2 a3 v5 a4 (some 0) r6 hf2) rfl (news_of trivial) (ndB_ok rfl) (by simp [ren, rens, sigma]) (by simp [backOb, sigma, ren, rens, rens_f32, rens_f64, rens_i64, rens_ik, rens_str, rens_cp] <;> omega)<|zN ?_
   obtain ⟨hm3, h2_⟩ := need_some h2_
   refine yW<|ym rfl (oref 0 u1 0 L4.length)<|yd rfl (f32 r6) (TOp.load1_o rfl rfl agg26 rfl rfl)<|ye rfl (oref 2 (u3 + 1) 0 1) ([⟨u1, some (L4.map f32)⟩, ⟨(u2 + 1), some [f32 r6]⟩, ⟨(u3 + 1), some (([r6] : List F).map f32)⟩]) (TOp.buildSlice_o (g := ⟨u3, none⟩) (za := f32 (some 0)) (qs := [(0, [f32 r6])]) 2 rfl und23 siz26 zer26 rfl zel26 rfl rfl ⟨rfl, ⟨_, ALe.refl _, rfl⟩, trivial⟩ rfl)<|ROps.app (f := f32) (xs := L4) (ys := ([r6] : List F)) (Γ' := [⟨(u1 + 1), some ((L4 ++ ([r6] : List F)).map f32)⟩, ⟨(u2 + 1), some [f32 r6]⟩, ⟨(u3 + 1), some (([r6] : List F).map f32)⟩]) rfl pun23 inf26 rfl rfl rfl rfl rfl rfl rfl rfl rfl (by simp) (ReadAs.own rfl (by simp)) (ones_map (fun _ => rfl)) (ap_by hm3) (ap_mx hm3) rfl<|ya rfl (oref 0 (u1 + 1) 0 (L4.length + 1))<|zN ?_
   refine RunC.wl (τ' := [(2, ptr [i64 a0, sl a1.length (a1.map i64), sl a2.length (a2.map i64), (sFc a3)]), (3, ptr [(sFc a4)]), (5, oref 0 (u1 + 1) 0 (L4.length + 1)), (10, i64 a0), (11, i64 v5)]) (Γ' := [⟨(u1 + 1), some ((L4 ++ ([r6] : List F)).map f32)⟩, ⟨(u2 + 1), none⟩, ⟨(u3 + 1), none⟩]) ⟨aR, aR, aR, aR, aR, trivial⟩ ⟨⟨rfl, .inr rfl⟩, ⟨rfl, .inl rfl⟩, ⟨rfl, .inl rfl⟩, trivial⟩ ?_
   obtain ⟨x7, hx4, h2_⟩ := oL h2_
   refine yW<|yl rfl (i64 x7) (LOp.eqr (LOp.add rfl rfl rfl) (congrArg (ik .i64) hx4))<|ym rfl (i64 x7)<|zN ?_
   cases oI h2_
   exact ⟨_, rfl, (u1 + 1), (u2 + 1), (u3 + 1), ⟨aR, aR, (ALe.eq (by rw [(app_len rfl rfl)] <;> rfl)), aR, aR, trivial⟩, ⟨⟨rfl, .inr rfl⟩, ⟨rfl, .inl rfl⟩, ⟨rfl, .inl rfl⟩, trivial⟩⟩
  ·refine yW<|yl rfl (b false) (LOp.eqb (LOp.lss rfl rfl rfl) hc1)<|zN ?_
   refine yS<|yF<|RunC.exit ?_
   cases oI h2_
   have hx := ho2 _ rfl
   exact ⟨L4, u1, u2, u3, ⟨aR, trivial⟩, ⟨⟨rfl, .inr rfl⟩, ⟨rfl, .inl rfl⟩, ⟨rfl, .inl rfl⟩, trivial⟩, hx⟩
 ·rintro τ3 Γ3 ⟨L11, u8, u9, u10, hw3, hd3, rfl⟩
  refine RunC.wl hw3 hd3 ?_
  replace h : K1g_k1 L11 = some q0 := h
  unfold K1g_k1 at h
  refine zQ<|ym rfl (oref 0 u8 0 L11.length)<|ya rfl (oref 0 u8 0 L11.length)<|zN ?_
  refine RunC.ret ?_
  have hq := oI h
  subst q0
  exact bodyQ.mk (r' := oref 0 u8 0 L11.length) [(0, u8)] (.inr rfl) rfl (ndB_ok rfl) (by simp [ren, rens, sigma]) rfl (Res.one rfl (RV.tmp rfl)) (sA rfl trivial)
def K1h_b1 (a0 : List F) (a1 : List F) (L3 : List F) (v4 : Int) : Option (LR ((List F) × Int) ((List F)) ((List F))) :=
 bsel (decide (v4 < (a0.length : Int))) (
  obind (at? a0 v4) fun (e5 : F) =>
  obind (at? a1 v4) fun (e6 : F) =>
  olet (fop .sub .f32 e5 e6) fun (x7 : F) =>
  need (apok 4 L3.length 1) <|
  olet (IntKind.i64.wrap (v4 + 1)) fun (x8 : Int) =>
  some (LR.next ((L3 ++ ([x7] : List F)), x8))) (
  some (LR.out L3))
def K1h_s1 (a0 : List F) (a1 : List F) : ((List F) × Int) → Option (LR ((List F) × Int) ((List F)) ((List F))) := fun s => K1h_b1 a0 a1 s.1 s.2
def K1h_k1 (L11 : List F) : Option ((List F)) :=
 some L11
def K1h (a0 : List F) (a1 : List F) : Option ((List F)) :=
 obind (loopM (K1h_s1 a0 a1) (([] : List F), 0)) fun z => osum z (fun e => K1h_k1 e) (fun r => some r)
theorem K1h_ok (a0 : List F) (a1 : List F) (q0 : List F) (h : K1h a0 a1 = some q0) : Ev Try.prog 88 [(sFc a0), (sFc a1)] [] (oref 0 0 0 q0.length) [oF 0 q0] := by
 refine yE Try.func88 2 55 0 [(0, (sFc a0)), (1, (sFc a1))] [o0, o0] rfl ?_
 unfold K1h at h
 refine zQ<|ya rfl nilsl<|zN ?_
 refine zQ<|ye rfl (oref 0 1 0 0) ([⟨1, some (([] : List F).map f32)⟩, o0]) (TOp.buildSlice_o (g := o0) (za := f32 (some 0)) (qs := []) 0 rfl und23 siz26 zer26 rfl zel26 rfl rfl trivial rfl)<|ya rfl (oref 0 1 0 0)<|zN ?_
 refine yS<|zQ<|ym rfl (sFc a0)<|yl rfl (i64 (a0.length : Int)) (LOp.len_sl und23 rfl rfl)<|ym rfl (i64 0)<|zN ?_
 obtain ⟨z2, hz_2, h⟩ := oS h
 refine RunC.cutN (fun τ Γ => ∃ (L11 : List F) (u9 : Nat) (u10 : Nat), WeakLe τ [(5, oref 0 u9 0 L11.length)] ∧ DeadLe Γ [⟨u9, some (L11.map f32)⟩, ⟨u10, none⟩] ∧ z2 = .inl L11) ?_ ?_
 ·refine RunC.block (RunC.loop (RunL.loopM (x := z2) (K1h_s1 a0 a1) (fun (s : (List F) × Int) τ Γ => ∃ (u1 : Nat) (u2 : Nat), WeakLe τ [(1, (sFc a1)), (5, oref 0 u1 0 s.1.length), (9, (sFc a0)), (10, i64 (a0.length : Int)), (11, i64 s.2)] ∧ DeadLe Γ [⟨u1, some (s.1.map f32)⟩, ⟨u2, none⟩]) ?_ _ _ _ hz_2 ⟨1, 0, ⟨aR, aR, aR, aR, aR, trivial⟩, ⟨⟨rfl, .inr rfl⟩, ⟨rfl, .inl rfl⟩, trivial⟩⟩))
  rintro ⟨L3, v4⟩ τ2 Γ2 y2_ ⟨u1, u2, hw2, hd2⟩ h2_ ho2 hr2
  refine RunC.wl (τ' := [(1, (sFc a1)), (5, oref 0 u1 0 L3.length), (9, (sFc a0)), (10, i64 (a0.length : Int)), (11, i64 v4)]) (Γ' := [⟨u1, some (L3.map f32)⟩, ⟨u2, none⟩]) hw2 hd2 ?_
  replace h2_ : K1h_b1 a0 a1 L3 v4 = some y2_ := h2_
  unfold K1h_b1 at h2_
  refine yS ?_
  rcases oB h2_ with ⟨hc1, h2_⟩ | ⟨hc1, h2_⟩
  ·refine yW<|yl rfl (b true) (LOp.eqb (LOp.lss rfl rfl rfl) hc1)<|zN ?_
   refine yS<|yT<|RunC.skip<|yS<|RunC.block<|yS ?_
   obtain ⟨e5, he2, h2_⟩ := oS h2_
   refine yW<|ym rfl (i64 v4)<|yl rfl (ptr [f32 e5]) (LOp.le (LOp.ix (f := f32) und23 siz26 rfl rfl rfl rfl he2) ALe.ptr)<|yl rfl (f32 e5) (n2 agg26)<|ya rfl (i64 v4)<|ya rfl (f32 e5)<|zN ?_
   obtain ⟨e6, he3, h2_⟩ := oS h2_
   obtain ⟨x7, hx4, h2_⟩ := oL h2_
   obtain ⟨hm5, h2_⟩ := need_some h2_
   refine yW<|ym rfl (oref 0 u1 0 L3.length)<|ym rfl (f32 e5)<|ym rfl (sFc a1)<|ym rfl (i64 v4)<|yl rfl (ptr [f32 e6]) (LOp.le (LOp.ix (f := f32) und23 siz26 rfl rfl rfl rfl he3) ALe.ptr)<|yl rfl (f32 e6) (n2 agg26)<|yd rfl (f32 x7) (TOp.eqr (TOp.fop (.inr (.inl rfl)) rfl (OpF.tmp rfl) (OpF.tmp rfl)) (congrArg (f .f32) hx4))<|ye rfl (oref 1 (u2 + 1) 0 1) ([⟨u1, some (L3.map f32)⟩, ⟨(u2 + 1), some (([x7] : List F).map f32)⟩]) (TOp.buildSlice_o (g := ⟨u2, none⟩) (za := f32 (some 0)) (qs := [(0, [f32 x7])]) 1 rfl und23 siz26 zer26 rfl zel26 rfl rfl ⟨rfl, ⟨_, ALe.refl _, rfl⟩, trivial⟩ rfl)<|ROps.app (f := f32) (xs := L3) (ys := ([x7] : List F)) (Γ' := [⟨(u1 + 1), some ((L3 ++ ([x7] : List F)).map f32)⟩, ⟨(u2 + 1), some (([x7] : List F).map f32)⟩]) rfl pun23 inf26 rfl rfl rfl rfl rfl rfl rfl rfl rfl (by simp) (ReadAs.own rfl (by simp)) (ones_map (fun _ => rfl)) (ap_by hm5) (ap_mx hm5) rfl<|ya rfl (oref 0 (u1 + 1) 0 (L3.length + 1))<|zN ?_
   refine RunC.wl (τ' := [(1, (sFc a1)), (5, oref 0 (u1 + 1) 0 (L3.length + 1)), (9, (sFc a0)), (10, i64 (a0.length : Int)), (11, i64 v4)]) (Γ' := [⟨(u1 + 1), some ((L3 ++ ([x7] : List F)).map f32)⟩, ⟨(u2 + 1), none⟩]) ⟨aR, aR, aR, aR, aR, trivial⟩ ⟨⟨rfl, .inr rfl⟩, ⟨rfl, .inl rfl⟩, trivial⟩ ?_
   obtain ⟨x8, hx6, h2_⟩ := oL h2_
   refine yW<|yl rfl (i64 x8) (LOp.eqr (LOp.add rfl rfl rfl) (congrArg (ik .i64) hx6))<|ym rfl (i64 x8)<|zN ?_
   cases oI h2_
   exact ⟨_, rfl, (u1 + 1), (u2 + 1), ⟨aR, (ALe.eq (by rw [(app_len rfl rfl)] <;> rfl)), aR, aR, aR, trivial⟩, ⟨⟨rfl, .inr rfl⟩, ⟨rfl, .inl rfl⟩, trivial⟩⟩
  ·refine yW<|yl rfl (b false) (LOp.eqb (LOp.lss rfl rfl rfl) hc1)<|zN ?_
   refine yS<|yF<|RunC.exit ?_
   cases oI h2_
   have hx := ho2 _ rfl
   exact ⟨L3, u1, u2, ⟨aR, trivial⟩, ⟨⟨rfl, .inr rfl⟩, ⟨rfl, .inl rfl⟩, trivial⟩, hx⟩
 ·rintro τ3 Γ3 ⟨L11, u9, u10, hw3, hd3, rfl⟩
  refine RunC.wl hw3 hd3 ?_
  replace h : K1h_k1 L11 = some q0 := h
  unfold K1h_k1 at h
  refine zQ<|ym rfl (oref 0 u9 0 L11.length)<|ya rfl (oref 0 u9 0 L11.length)<|zN ?_
  refine RunC.ret ?_
  have hq := oI h
  subst q0
  exact bodyQ.mk (r' := oref 0 u9 0 L11.length) [(0, u9)] (.inr rfl) rfl (ndB_ok rfl) (by simp [ren, rens, sigma]) rfl (Res.one rfl (RV.tmp rfl)) (sA rfl trivial)
def K1i_b1 (a0 : List F) (a1 : List F) (y1 : F) (v2 : Int) : Option (LR (F × Int) (F) (F)) :=
 bsel (decide (v2 < (a0.length : Int))) (
  obind (at? a0 v2) fun (e3 : F) =>
  obind (at? a1 v2) fun (e4 : F) =>
  obind (K1b e3 e4) fun (r5 : F) =>
  olet (fop .add .f32 y1 r5) fun (x6 : F) =>
  olet (IntKind.i64.wrap (v2 + 1)) fun (x7 : Int) =>
  some (LR.next (x6, x7))) (
  some (LR.out y1))
def K1i_s1 (a0 : List F) (a1 : List F) : (F × Int) → Option (LR (F × Int) (F) (F)) := fun s => K1i_b1 a0 a1 s.1 s.2
def K1i_k1 (y8 : F) : Option (F) :=
 some y8
def K1i (a0 : List F) (a1 : List F) : Option (F) :=
 obind (loopM (K1i_s1 a0 a1) (some 0, 0)) fun z => osum z (fun e => K1i_k1 e) (fun r => some r)
theorem K1i_ok (a0 : List F) (a1 : List F) (q0 : F) (h : K1i a0 a1 = some q0) : Ev Try.prog 132 [(sFc a0), (sFc a1)] [] (f32 q0) [] := by
 refine yE Try.func132 0 51 0 [(0, (sFc a0)), (1, (sFc a1))] [] rfl ?_
 unfold K1i at h
 refine zQ<|yl rfl (f32 (some 0)) (LOp.le (LOp.assign rfl rfl) (ALe.fl (by kernel_rfl) (by kernel_rfl)))<|zN ?_
 refine zQ<|yl rfl (f32 (some 0)) (LOp.le (LOp.assign rfl rfl) (ALe.fl (by kernel_rfl) (by kernel_rfl)))<|zN ?_
 refine yS<|zQ<|ym rfl (sFc a0)<|yl rfl (i64 (a0.length : Int)) (LOp.len_sl und23 rfl rfl)<|ym rfl (i64 0)<|zN ?_
 obtain ⟨z2, hz_2, h⟩ := oS h
 refine RunC.cutN (fun τ Γ => ∃ (y8 : F), WeakLe τ [(5, f32 y8)] ∧ DeadLe Γ [] ∧ z2 = .inl y8) ?_ ?_
 ·refine RunC.block (RunC.loop (RunL.loopM (x := z2) (K1i_s1 a0 a1) (fun (s : F × Int) τ Γ => WeakLe τ [(1, (sFc a1)), (5, f32 s.1), (8, (sFc a0)), (9, i64 (a0.length : Int)), (10, i64 s.2)] ∧ DeadLe Γ []) ?_ _ _ _ hz_2 ⟨⟨aR, aR, aR, aR, aR, trivial⟩, trivial⟩))
  rintro ⟨y1, v2⟩ τ2 Γ2 y2_ ⟨hw2, hd2⟩ h2_ ho2 hr2
  refine RunC.wl (τ' := [(1, (sFc a1)), (5, f32 y1), (8, (sFc a0)), (9, i64 (a0.length : Int)), (10, i64 v2)]) (Γ' := []) hw2 hd2 ?_
  replace h2_ : K1i_b1 a0 a1 y1 v2 = some y2_ := h2_
  unfold K1i_b1 at h2_
  refine yS ?_
  rcases oB h2_ with ⟨hc1, h2_⟩ | ⟨hc1, h2_⟩
  ·refine yW<|yl rfl (b true) (LOp.eqb (LOp.lss rfl rfl rfl) hc1)<|zN ?_
   refine yS<|yT<|RunC.skip<|yS<|RunC.block<|yS ?_
   obtain ⟨e3, he2, h2_⟩ := oS h2_
   refine yW<|ym rfl (i64 v2)<|yl rfl (ptr [f32 e3]) (LOp.le (LOp.ix (f := f32) und23 siz26 rfl rfl rfl rfl he2) ALe.ptr)<|yl rfl (f32 e3) (n2 agg26)<|ya rfl (i64 v2)<|ya rfl (f32 e3)<|zN ?_
   obtain ⟨e4, he3, h2_⟩ := oS h2_
   obtain ⟨r5, hf4, h2_⟩ := oS h2_
   obtain ⟨x6, hx5, h2_⟩ := oL h2_
   refine yW<|ym rfl (f32 y1)<|ym rfl (f32 e3)<|ym rfl (sFc a1)<|ym rfl (i64 v2)<|yl rfl (ptr [f32 e4]) (LOp.le (LOp.ix (f := f32) und23 siz26 rfl rfl rfl rfl he3) ALe.ptr)<|yl rfl (f32 e4) (n2 agg26)<|yd rfl (f32 r5) (yc ent86 rfl rfl (bP bN0) (K1b_ok e3 e4 r5 hf4))<|yd rfl (f32 x6) (TOp.eqr (TOp.fop (.inl rfl) rfl (OpF.tmp rfl) (OpF.tmp rfl)) (congrArg (f .f32) hx5))<|ya rfl (f32 x6)<|zN ?_
   refine RunC.wl (τ' := [(1, (sFc a1)), (5, f32 x6), (8, (sFc a0)), (9, i64 (a0.length : Int)), (10, i64 v2)]) (Γ' := []) ⟨aR, aR, aR, aR, aR, trivial⟩ trivial ?_
   obtain ⟨x7, hx6, h2_⟩ := oL h2_
   refine yW<|yl rfl (i64 x7) (LOp.eqr (LOp.add rfl rfl rfl) (congrArg (ik .i64) hx6))<|ym rfl (i64 x7)<|zN ?_
   cases oI h2_
   exact ⟨_, rfl, ⟨aR, aR, aR, aR, aR, trivial⟩, trivial⟩
  ·refine yW<|yl rfl (b false) (LOp.eqb (LOp.lss rfl rfl rfl) hc1)<|zN ?_
   refine yS<|yF<|RunC.exit ?_
   cases oI h2_
   have hx := ho2 _ rfl
   exact ⟨y1, ⟨aR, trivial⟩, trivial, hx⟩
 ·rintro τ3 Γ3 ⟨y8, hw3, hd3, rfl⟩
  refine RunC.wl hw3 hd3 ?_
  replace h : K1i_k1 y8 = some q0 := h
  unfold K1i_k1 at h
  refine zQ<|ym rfl (f32 y8)<|ya rfl (f32 y8)<|zN ?_
  refine RunC.ret ?_
  have hq := oI h
  subst q0
  exact bR rfl
def K1j (a0 : F) : Option (F) :=
 olet (fwiden a0) fun (x1 : F) =>
 obind (K0h x1) fun (r2 : F) =>
 obind (fnarrow r2) fun (y3 : F) =>
 some y3
theorem K1j_ok (a0 : F) (q0 : F) (h : K1j a0 = some q0) : Ev Try.prog 154 [f32 a0] [] (f32 q0) [] := by
 refine yE Try.func154 0 15 0 [(0, f32 a0)] [] rfl ?_
 unfold K1j at h
 refine zQ<|yl rfl (f32 (some 0)) (LOp.le (LOp.assign rfl rfl) (ALe.fl (by kernel_rfl) (by kernel_rfl)))<|zN ?_
 refine yS ?_
 obtain ⟨x1, hx1, h⟩ := oL h
 obtain ⟨r2, hf2, h⟩ := oS h
 obtain ⟨y3, hy3, h⟩ := oS h
 refine yW<|ym rfl (f32 a0)<|yd rfl (f64 x1) (TOp.eqr (TOp.widen (src := 26) (dst := 56) ⟨_, pun26⟩ pun56 rfl (OpF.tmp rfl)) (congrArg (f .f64) hx1))<|yd rfl (f64 r2) (yc ent197 rfl rfl bN0 (K0h_ok x1 r2 hf2))<|yd rfl (f32 y3) (TOp.narrow (src := 56) (dst := 26) ⟨_, pun56⟩ pun26 rfl (OpF.tmp rfl) hy3)<|ya rfl (f32 y3)<|zN ?_
 refine RunC.ret ?_
 have hq := oI h
 subst q0
 exact bR rfl
def K1k (a0 : List F) : Option (F) :=
 obind (K1i a0 a0) fun (r1 : F) =>
 obind (K1j r1) fun (r2 : F) =>
 some r2
theorem K1k_ok (a0 : List F) (q0 : F) (h : K1k a0 = some q0) : Ev Try.prog 87 [(sFc a0)] [] (f32 q0) [] := by
 refine yE Try.func87 0 15 0 [(0, (sFc a0))] [] rfl ?_
 unfold K1k at h
 refine zQ<|yl rfl (f32 (some 0)) (LOp.le (LOp.assign rfl rfl) (ALe.fl (by kernel_rfl) (by kernel_rfl)))<|zN ?_
 refine yS ?_
 obtain ⟨r1, hf1, h⟩ := oS h
 obtain ⟨r2, hf2, h⟩ := oS h
 refine yW<|ym rfl (sFc a0)<|ym rfl (sFc a0)<|yd rfl (f32 r1) (yc ent132 rfl rfl (bS (bS bN)) (K1i_ok a0 a0 r1 hf1))<|yd rfl (f32 r2) (yc ent154 rfl rfl bN0 (K1j_ok r1 r2 hf2))<|ya rfl (f32 r2)<|zN ?_
 refine RunC.ret ?_
 have hq := oI h
 subst q0
 exact bR rfl
def K1l_b1 (a0 : Int) (r4 : List (Int × Int × F)) (v5 : Int) : Option (LR (Int) (Unit) (Int × Bool × (List F))) :=
 bsel (decide (v5 < a0)) (
  olet ((mget r4 v5 v5).getD (some 0)) fun (x6 : F) =>
  bsel (feq .f32 x6 (some 0)) (
   some (LR.ret (0, false, ([] : List F)))) (
   olet (IntKind.i64.wrap (v5 + 1)) fun (x7 : Int) =>
   some (LR.next x7))) (
  some (LR.out ()))
def K1l_s1 (a0 : Int) (r4 : List (Int × Int × F)) : (Int) → Option (LR (Int) (Unit) (Int × Bool × (List F))) := fun s => K1l_b1 a0 r4 s
def K1l_b3 (a0 : Int) (a1 : List Int) (a2 : List Int) (a3 : List F) (a4 : List F) (a5 : F) (r4 : List (Int × Int × F)) (L15 : List F) (v17 : Int) : Option (LR ((List F) × Int) ((List F)) (Int × Bool × (List F))) :=
 bsel (decide (v17 < a0)) (
  obind (at? a4 v17) fun (e18 : F) =>
  obind2 (K1d a0 a1 a2 a3 v17 v17 e18 L15) fun (r19 : F) (r20 : List F) =>
  need (decide (r20.length = a0.toNat)) <|
  olet ((mget r4 v17 v17).getD (some 0)) fun (x21 : F) =>
  olet (fop .quo .f32 r19 x21) fun (x22 : F) =>
  obind (at? r20 v17) fun (e23 : F) =>
  obind (at? r20 v17) fun (e24 : F) =>
  olet (fop .sub .f32 x22 e24) fun (x25 : F) =>
  obind (K1b a5 x25) fun (r26 : F) =>
  olet (fop .add .f32 e23 r26) fun (x27 : F) =>
  obind (setAt? r20 v17 x27) fun (L28 : List F) =>
  olet (IntKind.i64.wrap (v17 + 1)) fun (x29 : Int) =>
  some (LR.next (L28, x29))) (
  some (LR.out L15))
def K1l_s3 (a0 : Int) (a1 : List Int) (a2 : List Int) (a3 : List F) (a4 : List F) (a5 : F) (r4 : List (Int × Int × F)) : ((List F) × Int) → Option (LR ((List F) × Int) ((List F)) (Int × Bool × (List F))) := fun s => K1l_b3 a0 a1 a2 a3 a4 a5 r4 s.1 s.2
def K1l_k3 (a0 : Int) (a1 : List Int) (a2 : List Int) (a3 : List F) (a4 : List F) (a6 : F) (v12 : Int) (L32 : List F) : Option (LR ((List F) × Int) (Unit) (Int × Bool × (List F))) :=
 obind (K13 L32) fun (r34 : Bool) =>
 bsel r34 (
  obind (K1g a0 a1 a2 a3 L32) fun (r35 : List F) =>
  obind (K1h a4 r35) fun (r36 : List F) =>
  obind (K1k r36) fun (r37 : F) =>
  obind (K0z r37) fun (r38 : Bool) =>
  bsel r38 (
   bsel (fle .f32 r37 a6) (
    some (LR.ret (v12, true, L32))) (
    olet (IntKind.i64.wrap (v12 + 1)) fun (x39 : Int) =>
    some (LR.next (L32, x39)))) (
   some (LR.ret (0, false, ([] : List F))))) (
  some (LR.ret (0, false, ([] : List F))))
def K1l_b4 (a0 : Int) (a1 : List Int) (a2 : List Int) (a3 : List F) (a4 : List F) (a5 : F) (a6 : F) (a7 : Int) (r4 : List (Int × Int × F)) (L10 : List F) (v12 : Int) : Option (LR ((List F) × Int) (Unit) (Int × Bool × (List F))) :=
 bsel (decide (v12 ≤ a7)) (
  obind (loopM (K1l_s3 a0 a1 a2 a3 a4 a5 r4) (L10, 0)) fun z => osum z (fun e => K1l_k3 a0 a1 a2 a3 a4 a6 v12 e) (fun r => some (LR.ret r))) (
  some (LR.out ()))
def K1l_s4 (a0 : Int) (a1 : List Int) (a2 : List Int) (a3 : List F) (a4 : List F) (a5 : F) (a6 : F) (a7 : Int) (r4 : List (Int × Int × F)) : ((List F) × Int) → Option (LR ((List F) × Int) (Unit) (Int × Bool × (List F))) := fun s => K1l_b4 a0 a1 a2 a3 a4 a5 a6 a7 r4 s.1 s.2
def K1l_k4  : Option (Int × Bool × (List F)) :=
 some (0, false, ([] : List F))
def K1l_k1 (a0 : Int) (a1 : List Int) (a2 : List Int) (a3 : List F) (a4 : List F) (a5 : F) (a6 : F) (a7 : Int) (r4 : List (Int × Int × F)) : Option (Int × Bool × (List F)) :=
 need (mkok 4 a0) <|
 obind (loopM (K1l_s4 a0 a1 a2 a3 a4 a5 a6 a7 r4) ((List.replicate a0.toNat (some 0)), 1)) fun z => osum z (fun _ => K1l_k4) (fun r => some r)
def K1l (a0 : Int) (a1 : List Int) (a2 : List Int) (a3 : List F) (a4 : List F) (a5 : F) (a6 : F) (a7 : Int) : Option (Int × Bool × (List F)) :=
 obind (K17 a0 a1 a2 a3 a4) fun (r1 : Bool) =>
 bsel r1 (
  obind (K13 ([a5, a6] : List F)) fun (r2 : Bool) =>
  bsel r2 (
   bsel (fle .f32 a5 (some 0)) (
    some (0, false, ([] : List F))) (
    bsel (fle .f32 (some 1073741824) a5) (
     some (0, false, ([] : List F))) (
     bsel (flt .f32 a6 (some 0)) (
      some (0, false, ([] : List F))) (
      obind (K0n a7 1 128) fun (r3 : Bool) =>
      bsel r3 (
       obind (K1a a0 a1 a2 a3) fun (r4 : List (Int × Int × F)) =>
       obind (loopM (K1l_s1 a0 r4) 0) fun z => osum z (fun e => K1l_k1 a0 a1 a2 a3 a4 a5 a6 a7 r4) (fun r => some r)) (
       some (0, false, ([] : List F))))))) (
   some (0, false, ([] : List F)))) (
  some (0, false, ([] : List F)))
theorem K1l_ok (a0 : Int) (a1 : List Int) (a2 : List Int) (a3 : List F) (a4 : List F) (a5 : F) (a6 : F) (a7 : Int) (q0 : Int) (q1 : Bool) (q2 : List F) (h : K1l a0 a1 a2 a3 a4 a5 a6 a7 = some (q0, q1, q2)) : Ev Try.prog 12 [agg [i64 a0, sl a1.length (a1.map i64), sl a2.length (a2.map i64), (sFc a3)], (sFc a4), f32 a5, f32 a6, i64 a7] [] (tup [oref 0 0 0 q2.length, i64 q0, b q1]) [oF 0 q2] := by
 refine yE Try.func12 5 245 0 ([(0, agg [i64 a0, sl a1.length (a1.map i64), sl a2.length (a2.map i64), (sFc a3)]), (1, (sFc a4)), (2, f32 a5), (3, f32 a6), (4, i64 a7)]) [o0, o0, o0, o0, o0] rfl ?_
 unfold K1l at h
 refine zQ<|yd rfl (ptr [i64 a0, sl a1.length (a1.map i64), sl a2.length (a2.map i64), (sFc a3)]) (TOp.box_s rfl rfl rfl)<|ya rfl nilsl<|ya rfl (i64 0)<|ya rfl (b false)<|zN ?_
 refine yS<|yS ?_
 obtain ⟨r1, hf1, h⟩ := oS h
 rcases oB h with ⟨hc2, h⟩ | ⟨hc2, h⟩
 ·obtain ⟨r2, hf3, h⟩ := oS h
  rcases oB h with ⟨hc4, h⟩ | ⟨hc4, h⟩
  ·rcases oB h with ⟨hc5, h⟩ | ⟨hc5, h⟩
   ·refine yW<|yl rfl (agg [i64 a0, sl a1.length (a1.map i64), sl a2.length (a2.map i64), (sFc a3)]) (yL agg30 siz30)<|ym rfl (sFc a4)<|yd rfl (b true) (TOp.eqb (TOp.callB (CallAs.func ent80 rfl rfl) (Bors.cons (Bor.agg (bP (bS (bS (bS bN))))) (bS bN)) rfl rfl (K17_ok a0 a1 a2 a3 a4 r1 hf1)) hc2)<|yl rfl (b false) n1<|ym rfl (b false)<|ym rfl (f32 a5)<|ym rfl (f32 a6)<|ye rfl (oref 0 1 0 2) ([⟨1, some (([a5, a6] : List F).map f32)⟩, o0, o0, o0, o0]) (TOp.buildSlice_o (g := o0) (za := f32 (some 0)) (qs := [(0, [f32 a5]), (1, [f32 a6])]) 0 rfl und23 siz26 zer26 rfl zel26 rfl rfl ⟨rfl, ⟨_, ALe.refl _, rfl⟩, ⟨rfl, ⟨_, ALe.refl _, rfl⟩, trivial⟩⟩ rfl)<|yd rfl (b true) (TOp.eqb (yc ent81 rfl rfl (Bors.cons (Bor.own (f := f32) (n := 2) (l := ([a5, a6] : List F)) (fun _ => rfl) rfl rfl) bN) (K13_ok ([a5, a6] : List F) r2 hf3)) hc4)<|yl rfl (b false) n1<|yl rfl (b false) yp<|ym rfl (b false)<|ym rfl (f32 a5)<|yl rfl (b true) (LOp.eqb (LOp.fle rfl (OpF.tmp rfl) (OpF.const rfl (by kernel_rfl) (by kernel_rfl))) hc5)<|yl rfl (b true) yp<|ym rfl (b true)<|yR rfl<|yR rfl<|yl rfl (b true) yq<|ym rfl (b true)<|yR rfl<|yR rfl<|yl rfl (b true) yq<|ym rfl (b true)<|yR rfl<|yR rfl<|yR rfl<|yl rfl (b true) yq<|zN ?_
    refine RunC.wl (τ' := [(1, (sFc a4)), (2, f32 a5), (3, f32 a6), (4, i64 a7), (5, ptr [i64 a0, sl a1.length (a1.map i64), sl a2.length (a2.map i64), (sFc a3)]), (47, b true)]) (Γ' := [⟨1, none⟩, o0, o0, o0, o0]) ⟨aR, aR, aR, aR, aR, aR, trivial⟩ ⟨⟨rfl, .inl rfl⟩, ⟨rfl, .inr rfl⟩, ⟨rfl, .inr rfl⟩, ⟨rfl, .inr rfl⟩, ⟨rfl, .inr rfl⟩, trivial⟩<|yT<|zQ<|ya rfl nilsl<|ya rfl (i64 0)<|ya rfl (b false)<|zN ?_
    refine RunC.nil_slot (Γ' := [⟨2, some (([] : List F).map f32)⟩, o0, o0, o0, o0]) 10 0 rfl rfl rfl<|RunC.ret ?_
    have hq := oI h
    obtain ⟨hq0, hq⟩ := Prod.mk.inj hq
    obtain ⟨hq1, hq⟩ := Prod.mk.inj hq
    subst q0
    subst q1
    subst q2
    exact yB (tup [oref 0 2 0 (([] : List F).length), i64 0, b false]) [(0, 2)] (Res.eq (Res.three rfl (RV.tmp rfl) (RV.tmp rfl) (RV.tmp rfl)) (by first | rfl | (rw [(show ([] : List F).length = 0 from rfl)] <;> rfl))) (sA rfl trivial)
   ·rcases oB h with ⟨hc6, h⟩ | ⟨hc6, h⟩
    ·refine yW<|yl rfl (agg [i64 a0, sl a1.length (a1.map i64), sl a2.length (a2.map i64), (sFc a3)]) (yL agg30 siz30)<|ym rfl (sFc a4)<|yd rfl (b true) (TOp.eqb (TOp.callB (CallAs.func ent80 rfl rfl) (Bors.cons (Bor.agg (bP (bS (bS (bS bN))))) (bS bN)) rfl rfl (K17_ok a0 a1 a2 a3 a4 r1 hf1)) hc2)<|yl rfl (b false) n1<|ym rfl (b false)<|ym rfl (f32 a5)<|ym rfl (f32 a6)<|ye rfl (oref 0 1 0 2) ([⟨1, some (([a5, a6] : List F).map f32)⟩, o0, o0, o0, o0]) (TOp.buildSlice_o (g := o0) (za := f32 (some 0)) (qs := [(0, [f32 a5]), (1, [f32 a6])]) 0 rfl und23 siz26 zer26 rfl zel26 rfl rfl ⟨rfl, ⟨_, ALe.refl _, rfl⟩, ⟨rfl, ⟨_, ALe.refl _, rfl⟩, trivial⟩⟩ rfl)<|yd rfl (b true) (TOp.eqb (yc ent81 rfl rfl (Bors.cons (Bor.own (f := f32) (n := 2) (l := ([a5, a6] : List F)) (fun _ => rfl) rfl rfl) bN) (K13_ok ([a5, a6] : List F) r2 hf3)) hc4)<|yl rfl (b false) n1<|yl rfl (b false) yp<|ym rfl (b false)<|ym rfl (f32 a5)<|yl rfl (b false) (LOp.eqb (LOp.fle rfl (OpF.tmp rfl) (OpF.const rfl (by kernel_rfl) (by kernel_rfl))) hc5)<|yl rfl (b false) yp<|ym rfl (b false)<|ym rfl (f32 a5)<|yl rfl (b true) (LOp.eqb (LOp.fge rfl (OpF.tmp rfl) (OpF.const rfl (by kernel_rfl) (by kernel_rfl))) hc6)<|yl rfl (b true) yp<|ym rfl (b true)<|yR rfl<|yR rfl<|yl rfl (b true) yq<|ym rfl (b true)<|yR rfl<|yR rfl<|yR rfl<|yl rfl (b true) yq<|zN ?_
     refine RunC.wl (τ' := [(1, (sFc a4)), (2, f32 a5), (3, f32 a6), (4, i64 a7), (5, ptr [i64 a0, sl a1.length (a1.map i64), sl a2.length (a2.map i64), (sFc a3)]), (47, b true)]) (Γ' := [⟨1, none⟩, o0, o0, o0, o0]) ⟨aR, aR, aR, aR, aR, aR, trivial⟩ ⟨⟨rfl, .inl rfl⟩, ⟨rfl, .inr rfl⟩, ⟨rfl, .inr rfl⟩, ⟨rfl, .inr rfl⟩, ⟨rfl, .inr rfl⟩, trivial⟩<|yT<|zQ<|ya rfl nilsl<|ya rfl (i64 0)<|ya rfl (b false)<|zN ?_
     refine RunC.nil_slot (Γ' := [⟨2, some (([] : List F).map f32)⟩, o0, o0, o0, o0]) 10 0 rfl rfl rfl<|RunC.ret ?_
     have hq := oI h
     obtain ⟨hq0, hq⟩ := Prod.mk.inj hq
     obtain ⟨hq1, hq⟩ := Prod.mk.inj hq
     subst q0
     subst q1
     subst q2
     exact yB (tup [oref 0 2 0 (([] : List F).length), i64 0, b false]) [(0, 2)] (Res.eq (Res.three rfl (RV.tmp rfl) (RV.tmp rfl) (RV.tmp rfl)) (by first | rfl | (rw [(show ([] : List F).length = 0 from rfl)] <;> rfl))) (sA rfl trivial)
    ·rcases oB h with ⟨hc7, h⟩ | ⟨hc7, h⟩
     ·refine yW<|yl rfl (agg [i64 a0, sl a1.length (a1.map i64), sl a2.length (a2.map i64), (sFc a3)]) (yL agg30 siz30)<|ym rfl (sFc a4)<|yd rfl (b true) (TOp.eqb (TOp.callB (CallAs.func ent80 rfl rfl) (Bors.cons (Bor.agg (bP (bS (bS (bS bN))))) (bS bN)) rfl rfl (K17_ok a0 a1 a2 a3 a4 r1 hf1)) hc2)<|yl rfl (b false) n1<|ym rfl (b false)<|ym rfl (f32 a5)<|ym rfl (f32 a6)<|ye rfl (oref 0 1 0 2) ([⟨1, some (([a5, a6] : List F).map f32)⟩, o0, o0, o0, o0]) (TOp.buildSlice_o (g := o0) (za := f32 (some 0)) (qs := [(0, [f32 a5]), (1, [f32 a6])]) 0 rfl und23 siz26 zer26 rfl zel26 rfl rfl ⟨rfl, ⟨_, ALe.refl _, rfl⟩, ⟨rfl, ⟨_, ALe.refl _, rfl⟩, trivial⟩⟩ rfl)<|yd rfl (b true) (TOp.eqb (yc ent81 rfl rfl (Bors.cons (Bor.own (f := f32) (n := 2) (l := ([a5, a6] : List F)) (fun _ => rfl) rfl rfl) bN) (K13_ok ([a5, a6] : List F) r2 hf3)) hc4)<|yl rfl (b false) n1<|yl rfl (b false) yp<|ym rfl (b false)<|ym rfl (f32 a5)<|yl rfl (b false) (LOp.eqb (LOp.fle rfl (OpF.tmp rfl) (OpF.const rfl (by kernel_rfl) (by kernel_rfl))) hc5)<|yl rfl (b false) yp<|ym rfl (b false)<|ym rfl (f32 a5)<|yl rfl (b false) (LOp.eqb (LOp.fge rfl (OpF.tmp rfl) (OpF.const rfl (by kernel_rfl) (by kernel_rfl))) hc6)<|yl rfl (b false) yp<|ym rfl (b false)<|ym rfl (f32 a6)<|yl rfl (b true) (LOp.eqb (LOp.flt rfl (OpF.tmp rfl) (OpF.const rfl (by kernel_rfl) (by kernel_rfl))) hc7)<|yl rfl (b true) yp<|ym rfl (b true)<|yR rfl<|yR rfl<|yR rfl<|yl rfl (b true) yq<|zN ?_
      refine RunC.wl (τ' := [(1, (sFc a4)), (2, f32 a5), (3, f32 a6), (4, i64 a7), (5, ptr [i64 a0, sl a1.length (a1.map i64), sl a2.length (a2.map i64), (sFc a3)]), (47, b true)]) (Γ' := [⟨1, none⟩, o0, o0, o0, o0]) ⟨aR, aR, aR, aR, aR, aR, trivial⟩ ⟨⟨rfl, .inl rfl⟩, ⟨rfl, .inr rfl⟩, ⟨rfl, .inr rfl⟩, ⟨rfl, .inr rfl⟩, ⟨rfl, .inr rfl⟩, trivial⟩<|yT<|zQ<|ya rfl nilsl<|ya rfl (i64 0)<|ya rfl (b false)<|zN ?_
      refine RunC.nil_slot (Γ' := [⟨2, some (([] : List F).map f32)⟩, o0, o0, o0, o0]) 10 0 rfl rfl rfl<|RunC.ret ?_
      have hq := oI h
      obtain ⟨hq0, hq⟩ := Prod.mk.inj hq
      obtain ⟨hq1, hq⟩ := Prod.mk.inj hq
      subst q0
      subst q1
      subst q2
      exact yB (tup [oref 0 2 0 (([] : List F).length), i64 0, b false]) [(0, 2)] (Res.eq (Res.three rfl (RV.tmp rfl) (RV.tmp rfl) (RV.tmp rfl)) (by first | rfl | (rw [(show ([] : List F).length = 0 from rfl)] <;> rfl))) (sA rfl trivial)
     ·obtain ⟨r3, hf8, h⟩ := oS h
      rcases oB h with ⟨hc9, h⟩ | ⟨hc9, h⟩
      ·refine yW<|yl rfl (agg [i64 a0, sl a1.length (a1.map i64), sl a2.length (a2.map i64), (sFc a3)]) (yL agg30 siz30)<|ym rfl (sFc a4)<|yd rfl (b true) (TOp.eqb (TOp.callB (CallAs.func ent80 rfl rfl) (Bors.cons (Bor.agg (bP (bS (bS (bS bN))))) (bS bN)) rfl rfl (K17_ok a0 a1 a2 a3 a4 r1 hf1)) hc2)<|yl rfl (b false) n1<|ym rfl (b false)<|ym rfl (f32 a5)<|ym rfl (f32 a6)<|ye rfl (oref 0 1 0 2) ([⟨1, some (([a5, a6] : List F).map f32)⟩, o0, o0, o0, o0]) (TOp.buildSlice_o (g := o0) (za := f32 (some 0)) (qs := [(0, [f32 a5]), (1, [f32 a6])]) 0 rfl und23 siz26 zer26 rfl zel26 rfl rfl ⟨rfl, ⟨_, ALe.refl _, rfl⟩, ⟨rfl, ⟨_, ALe.refl _, rfl⟩, trivial⟩⟩ rfl)<|yd rfl (b true) (TOp.eqb (yc ent81 rfl rfl (Bors.cons (Bor.own (f := f32) (n := 2) (l := ([a5, a6] : List F)) (fun _ => rfl) rfl rfl) bN) (K13_ok ([a5, a6] : List F) r2 hf3)) hc4)<|yl rfl (b false) n1<|yl rfl (b false) yp<|ym rfl (b false)<|ym rfl (f32 a5)<|yl rfl (b false) (LOp.eqb (LOp.fle rfl (OpF.tmp rfl) (OpF.const rfl (by kernel_rfl) (by kernel_rfl))) hc5)<|yl rfl (b false) yp<|ym rfl (b false)<|ym rfl (f32 a5)<|yl rfl (b false) (LOp.eqb (LOp.fge rfl (OpF.tmp rfl) (OpF.const rfl (by kernel_rfl) (by kernel_rfl))) hc6)<|yl rfl (b false) yp<|ym rfl (b false)<|ym rfl (f32 a6)<|yl rfl (b false) (LOp.eqb (LOp.flt rfl (OpF.tmp rfl) (OpF.const rfl (by kernel_rfl) (by kernel_rfl))) hc7)<|yl rfl (b false) yp<|ym rfl (b false)<|ym rfl (i64 a7)<|yd rfl (b true) (TOp.eqb (yc ent82 rfl rfl (bP (bP bN0)) (K0n_ok a7 1 128 r3 hf8)) hc9)<|yl rfl (b false) n1<|yl rfl (b false) yp<|zN ?_
       refine RunC.wl (τ' := [(1, (sFc a4)), (2, f32 a5), (3, f32 a6), (4, i64 a7), (5, ptr [i64 a0, sl a1.length (a1.map i64), sl a2.length (a2.map i64), (sFc a3)]), (47, b false)]) (Γ' := [⟨1, none⟩, o0, o0, o0, o0]) ⟨aR, aR, aR, aR, aR, aR, trivial⟩ ⟨⟨rfl, .inl rfl⟩, ⟨rfl, .inr rfl⟩, ⟨rfl, .inr rfl⟩, ⟨rfl, .inr rfl⟩, ⟨rfl, .inr rfl⟩, trivial⟩<|yF<|RunC.skip<|yS ?_
       obtain ⟨r4, hf10, h⟩ := oS h
       refine yW<|yl rfl (agg [i64 a0, sl a1.length (a1.map i64), sl a2.length (a2.map i64), (sFc a3)]) (yL agg30 siz30)<|ye rfl (mref 0 2) [⟨2, some (mpc r4)⟩, o0, o0, o0, o0] (TOp.callBN (ls := [(mpc r4)]) [0] (CallAs.func ent83 rfl rfl) (Bors.cons (Bor.agg (bP (bS (bS (bS bN))))) bN) rfl (K1a_ok a0 a1 a2 a3 r4 hf10) (and_all (lt_mpc 0 _) rfl) (and_all (noss_mpc _) rfl) rfl (by decide) (ns_of ⟨⟨_, rfl⟩, trivial⟩))<|ya rfl (mref 0 2)<|zN ?_
       refine yS<|zQ<|yl rfl (ptr [i64 a0, sl a1.length (a1.map i64), sl a2.length (a2.map i64), (sFc a3)]) (LOp.fap und30 rfl siz2 rfl rfl rfl)<|yl rfl (i64 a0) (n2 agg2)<|ym rfl (i64 0)<|zN ?_
       obtain ⟨z5, hz_5, h⟩ := oS h
       refine RunC.cutN (fun τ Γ => WeakLe τ [(1, (sFc a4)), (2, f32 a5), (3, f32 a6), (4, i64 a7), (5, ptr [i64 a0, sl a1.length (a1.map i64), sl a2.length (a2.map i64), (sFc a3)]), (13, mref 0 2)] ∧ DeadLe Γ [⟨2, some (mpc r4)⟩, o0, o0, o0, o0] ∧ z5 = .inl ()) ?_ ?_
       ·refine RunC.block (RunC.loop (RunL.loopM (x := z5) (K1l_s1 a0 r4) (fun (s : Int) τ Γ => WeakLe τ [(1, (sFc a4)), (2, f32 a5), (3, f32 a6), (4, i64 a7), (5, ptr [i64 a0, sl a1.length (a1.map i64), sl a2.length (a2.map i64), (sFc a3)]), (13, mref 0 2), (51, i64 a0), (52, i64 s)] ∧ DeadLe Γ [⟨2, some (mpc r4)⟩, o0, o0, o0, o0]) ?_ _ _ _ hz_5 ⟨⟨aR, aR, aR, aR, aR, aR, aR, aR, trivial⟩, ⟨⟨rfl, .inr rfl⟩, ⟨rfl, .inr rfl⟩, ⟨rfl, .inr rfl⟩, ⟨rfl, .inr rfl⟩, ⟨rfl, .inr rfl⟩, trivial⟩⟩))
        rintro v5 τ5 Γ5 y5_ ⟨hw5, hd5⟩ h5_ ho5 hr5
        refine RunC.wl (τ' := [(1, (sFc a4)), (2, f32 a5), (3, f32 a6), (4, i64 a7), (5, ptr [i64 a0, sl a1.length (a1.map i64), sl a2.length (a2.map i64), (sFc a3)]), (13, mref 0 2), (51, i64 a0), (52, i64 v5)]) (Γ' := [⟨2, some (mpc r4)⟩, o0, o0, o0, o0]) hw5 hd5 ?_
        replace h5_ : K1l_b1 a0 r4 v5 = some y5_ := h5_
        unfold K1l_b1 at h5_
        refine yS ?_
        rcases oB h5_ with ⟨hc11, h5_⟩ | ⟨hc11, h5_⟩
        ·refine yW<|yl rfl (b true) (LOp.eqb (LOp.lss rfl rfl rfl) hc11)<|zN ?_
         refine yS<|yT<|RunC.skip<|yS<|RunC.block<|zQ<|ym rfl (i64 v5)<|ya rfl (i64 v5)<|zN ?_
         refine yS ?_
         obtain ⟨x6, hx12, h5_⟩ := oL h5_
         rcases oB h5_ with ⟨hc13, h5_⟩ | ⟨hc13, h5_⟩
         ·refine yW<|ym rfl (mref 0 2)<|ym rfl (i64 v5)<|ym rfl (i64 v5)<|yl rfl (agg [i64 v5, i64 v5]) (LOp.build (qs := [(0, [i64 v5]), (1, [i64 v5])]) zer101 zok101 und101 plc101 rfl ⟨rfl, ⟨_, ALe.refl _, rfl⟩, ⟨rfl, ⟨_, ALe.refl _, rfl⟩, trivial⟩⟩ rfl)<|yd rfl (f32 x6) (TOp.eqr (TOp.mget und98 pky101 zer26 zel26 rfl rfl rfl rfl rfl) (congrArg f32 hx12))<|yl rfl (b true) (LOp.eqb (LOp.feq rfl (OpF.tmp rfl) (OpF.const rfl (by kernel_rfl) (by kernel_rfl))) hc13)<|zN ?_
          refine yT<|zQ<|ya rfl nilsl<|ya rfl (i64 0)<|ya rfl (b false)<|zN ?_
          refine RunC.nil_slot (Γ' := [⟨2, some (mpc r4)⟩, ⟨1, some (([] : List F).map f32)⟩, o0, o0, o0]) 10 1 rfl rfl rfl<|RunC.ret ?_
          cases oI h5_
          have hx6_ := hr5 _ rfl
          subst hx6_
          have hq := oI h
          obtain ⟨hq0, hq⟩ := Prod.mk.inj hq
          obtain ⟨hq1, hq⟩ := Prod.mk.inj hq
          subst q0
          subst q1
          subst q2
          exact yB (tup [oref 1 1 0 (([] : List F).length), i64 0, b false]) [(1, 1)] (Res.eq (Res.three rfl (RV.tmp rfl) (RV.tmp rfl) (RV.tmp rfl)) (by first | rfl | (rw [(show ([] : List F).length = 0 from rfl)] <;> rfl))) (sA rfl trivial)
         ·refine yW<|ym rfl (mref 0 2)<|ym rfl (i64 v5)<|ym rfl (i64 v5)<|yl rfl (agg [i64 v5, i64 v5]) (LOp.build (qs := [(0, [i64 v5]), (1, [i64 v5])]) zer101 zok101 und101 plc101 rfl ⟨rfl, ⟨_, ALe.refl _, rfl⟩, ⟨rfl, ⟨_, ALe.refl _, rfl⟩, trivial⟩⟩ rfl)<|yd rfl (f32 x6) (TOp.eqr (TOp.mget und98 pky101 zer26 zel26 rfl rfl rfl rfl rfl) (congrArg f32 hx12))<|yl rfl (b false) (LOp.eqb (LOp.feq rfl (OpF.tmp rfl) (OpF.const rfl (by kernel_rfl) (by kernel_rfl))) hc13)<|zN ?_
          refine yF<|RunC.skip ?_
          obtain ⟨x7, hx14, h5_⟩ := oL h5_
          refine yW<|yl rfl (i64 x7) (LOp.eqr (LOp.add rfl rfl rfl) (congrArg (ik .i64) hx14))<|ym rfl (i64 x7)<|zN ?_
          cases oI h5_
          exact ⟨_, rfl, ⟨aR, aR, aR, aR, aR, aR, aR, aR, trivial⟩, ⟨⟨rfl, .inr rfl⟩, ⟨rfl, .inr rfl⟩, ⟨rfl, .inr rfl⟩, ⟨rfl, .inr rfl⟩, ⟨rfl, .inr rfl⟩, trivial⟩⟩
        ·refine yW<|yl rfl (b false) (LOp.eqb (LOp.lss rfl rfl rfl) hc11)<|zN ?_
         refine yS<|yF<|RunC.exit ?_
         cases oI h5_
         have hx := ho5 _ rfl
         exact ⟨⟨aR, aR, aR, aR, aR, aR, trivial⟩, ⟨⟨rfl, .inr rfl⟩, ⟨rfl, .inr rfl⟩, ⟨rfl, .inr rfl⟩, ⟨rfl, .inr rfl⟩, ⟨rfl, .inr rfl⟩, trivial⟩, hx⟩
       ·rintro τ7 Γ7 ⟨hw7, hd7, rfl⟩
        refine RunC.wl hw7 hd7 ?_
        replace h : K1l_k1 a0 a1 a2 a3 a4 a5 a6 a7 r4 = some (q0, q1, q2) := h
        unfold K1l_k1 at h
        refine yS ?_
        obtain ⟨hm15, h⟩ := need_some h
        refine yW<|yl rfl (ptr [i64 a0, sl a1.length (a1.map i64), sl a2.length (a2.map i64), (sFc a3)]) (LOp.fap und30 rfl siz2 rfl rfl rfl)<|yl rfl (i64 a0) (n2 agg2)<|ye rfl (oref 1 1 0 a0.toNat) [⟨2, some (mpc r4)⟩, ⟨1, some ((List.replicate a0.toNat (some 0)).map f32)⟩, o0, o0, o0] (TOp.mkS (g := o0) (t := 23) (e := 26) (by_ := 4) (f := f32) (zv := some 0) 1 rfl und23 tin26 rfl siz26 zer26 rfl zel26 rfl rfl rfl hm15)<|ye rfl (optr 2 1 0) ([⟨2, some (mpc r4)⟩, ⟨1, some ((List.replicate a0.toNat (some 0)).map f32)⟩, ⟨1, some [nilsl]⟩, o0, o0]) (TOp.alloc_o (g := o0) 2 rfl zer23 zok23 rfl)<|ys (oref 1 1 0 a0.toNat) [oref 1 1 0 a0.toNat] ([⟨2, some (mpc r4)⟩, ⟨1, some ((List.replicate a0.toNat (some 0)).map f32)⟩, ⟨1, some [oref 1 1 0 a0.toNat]⟩, o0, o0]) siz23<|zN ?_
        refine yS<|zQ<|ya rfl (i64 1)<|zN ?_
        obtain ⟨z8, hz_8, h⟩ := oS h
        refine RunC.cutN (fun τ Γ => ∃ (u40 : Nat) (u41 : Nat), WeakLe τ [] ∧ DeadLe Γ [⟨2, none⟩, ⟨1, none⟩, ⟨1, none⟩, ⟨u40, none⟩, ⟨u41, none⟩] ∧ z8 = .inl ()) ?_ ?_
        ·refine RunC.block (RunC.loop (RunL.loopM (x := z8) (K1l_s4 a0 a1 a2 a3 a4 a5 a6 a7 r4) (fun (s : (List F) × Int) τ Γ => ∃ (u8 : Nat) (u9 : Nat), s.1.length = a0.toNat ∧ WeakLe τ [(1, (sFc a4)), (2, f32 a5), (3, f32 a6), (4, i64 a7), (5, ptr [i64 a0, sl a1.length (a1.map i64), sl a2.length (a2.map i64), (sFc a3)]), (13, mref 0 2), (15, optr 2 1 0), (16, i64 s.2)] ∧ DeadLe Γ [⟨2, some (mpc r4)⟩, ⟨1, some (s.1.map f32)⟩, ⟨1, some [oref 1 1 0 a0.toNat]⟩, ⟨u8, none⟩, ⟨u9, none⟩]) ?_ _ _ _ hz_8 ⟨0, 0, List.length_replicate, ⟨aR, aR, aR, aR, aR, aR, aR, aR, trivial⟩, ⟨⟨rfl, .inr rfl⟩, ⟨rfl, .inr rfl⟩, ⟨rfl, .inr rfl⟩, ⟨rfl, .inl rfl⟩, ⟨rfl, .inl rfl⟩, trivial⟩⟩))
         rintro ⟨L10, v12⟩ τ8 Γ8 y8_ ⟨u8, u9, hl11, hw8, hd8⟩ h8_ ho8 hr8
         refine RunC.wl (τ' := [(1, (sFc a4)), (2, f32 a5), (3, f32 a6), (4, i64 a7), (5, ptr [i64 a0, sl a1.length (a1.map i64), sl a2.length (a2.map i64), (sFc a3)]), (13, mref 0 2), (15, optr 2 1 0), (16, i64 v12)]) (Γ' := [⟨2, some (mpc r4)⟩, oF 1 L10, ⟨1, some [oref 1 1 0 a0.toNat]⟩, ⟨u8, none⟩, ⟨u9, none⟩]) hw8 hd8 ?_
         replace hl11 : L10.length = a0.toNat := hl11
         replace h8_ : K1l_b4 a0 a1 a2 a3 a4 a5 a6 a7 r4 L10 v12 = some y8_ := h8_
         unfold K1l_b4 at h8_
         refine yS<|yS ?_
         rcases oB h8_ with ⟨hc16, h8_⟩ | ⟨hc16, h8_⟩
         ·refine yW<|ym rfl (i64 v12)<|ym rfl (i64 a7)<|yl rfl (b true) (LOp.eqb (LOp.leq rfl rfl rfl) hc16)<|zN ?_
          refine yT<|RunC.skip<|yS<|RunC.block<|yS<|zQ<|yl rfl (ptr [i64 a0, sl a1.length (a1.map i64), sl a2.length (a2.map i64), (sFc a3)]) (LOp.fap und30 rfl siz2 rfl rfl rfl)<|yl rfl (i64 a0) (n2 agg2)<|ym rfl (i64 0)<|zN ?_
          obtain ⟨z9, hz_9, h8_⟩ := oS h8_
          refine RunC.cutN (fun τ Γ => ∃ (L32 : List F) (u30 : Nat) (u31 : Nat), L32.length = a0.toNat ∧ WeakLe τ [(1, (sFc a4)), (2, f32 a5), (3, f32 a6), (4, i64 a7), (5, ptr [i64 a0, sl a1.length (a1.map i64), sl a2.length (a2.map i64), (sFc a3)]), (13, mref 0 2), (15, optr 2 1 0), (16, i64 v12)] ∧ DeadLe Γ [⟨2, some (mpc r4)⟩, oF 1 L32, ⟨1, some [oref 1 1 0 a0.toNat]⟩, ⟨u30, none⟩, ⟨u31, none⟩] ∧ z9 = .inl L32) ?_ ?_
          ·refine RunC.block (RunC.loop (RunL.loopM (x := z9) (K1l_s3 a0 a1 a2 a3 a4 a5 r4) (fun (s : (List F) × Int) τ Γ => ∃ (u13 : Nat) (u14 : Nat), s.1.length = a0.toNat ∧ WeakLe τ [(1, (sFc a4)), (2, f32 a5), (3, f32 a6), (4, i64 a7), (5, ptr [i64 a0, sl a1.length (a1.map i64), sl a2.length (a2.map i64), (sFc a3)]), (13, mref 0 2), (15, optr 2 1 0), (16, i64 v12), (71, i64 a0), (72, i64 s.2)] ∧ DeadLe Γ [⟨2, some (mpc r4)⟩, ⟨1, some (s.1.map f32)⟩, ⟨1, some [oref 1 1 0 a0.toNat]⟩, ⟨u13, none⟩, ⟨u14, none⟩]) ?_ _ _ _ hz_9 ⟨u8, u9, hl11, ⟨aR, aR, aR, aR, aR, aR, aR, aR, aR, aR, trivial⟩, ⟨⟨rfl, .inr rfl⟩, ⟨rfl, .inr rfl⟩, ⟨rfl, .inr rfl⟩, ⟨rfl, .inl rfl⟩, ⟨rfl, .inl rfl⟩, trivial⟩⟩))
           rintro ⟨L15, v17⟩ τ9 Γ9 y9_ ⟨u13, u14, hl16, hw9, hd9⟩ h9_ ho9 hr9
           refine RunC.wl (τ' := [(1, (sFc a4)), (2, f32 a5), (3, f32 a6), (4, i64 a7), (5, ptr [i64 a0, sl a1.length (a1.map i64), sl a2.length (a2.map i64), (sFc a3)]), (13, mref 0 2), (15, optr 2 1 0), (16, i64 v12), (71, i64 a0), (72, i64 v17)]) (Γ' := [⟨2, some (mpc r4)⟩, oF 1 L15, ⟨1, some [oref 1 1 0 a0.toNat]⟩, ⟨u13, none⟩, ⟨u14, none⟩]) hw9 hd9 ?_
           replace hl16 : L15.length = a0.toNat := hl16
           replace h9_ : K1l_b3 a0 a1 a2 a3 a4 a5 r4 L15 v17 = some y9_ := h9_
           unfold K1l_b3 at h9_
           refine yS ?_
           rcases oB h9_ with ⟨hc17, h9_⟩ | ⟨hc17, h9_⟩
           ·refine yW<|yl rfl (b true) (LOp.eqb (LOp.lss rfl rfl rfl) hc17)<|zN ?_
            refine yS<|yT<|RunC.skip<|yS<|RunC.block<|zQ<|ym rfl (i64 v17)<|ye rfl (optr 3 (u13 + 1) 0) ([⟨2, some (mpc r4)⟩, oF 1 L15, ⟨1, some [oref 1 1 0 a0.toNat]⟩, ⟨(u13 + 1), some [i64 0]⟩, ⟨u14, none⟩]) (TOp.alloc_o (g := ⟨u13, none⟩) 3 rfl zer2 zok2 rfl)<|ys (i64 v17) [i64 v17] ([⟨2, some (mpc r4)⟩, oF 1 L15, ⟨1, some [oref 1 1 0 a0.toNat]⟩, ⟨(u13 + 1), some [i64 v17]⟩, ⟨u14, none⟩]) siz2<|zN ?_
            refine yS ?_
            obtain ⟨e18, he18, h9_⟩ := oS h9_
            refine yW<|ym rfl (sFc a4)<|yd rfl (i64 v17) (TOp.load1_o rfl rfl agg2 rfl rfl)<|yl rfl (ptr [f32 e18]) (LOp.le (LOp.ix (f := f32) und23 siz26 rfl rfl rfl rfl he18) ALe.ptr)<|yl rfl (f32 e18) (n2 agg26)<|ye rfl (optr 4 (u14 + 1) 0) ([⟨2, some (mpc r4)⟩, oF 1 L15, ⟨1, some [oref 1 1 0 a0.toNat]⟩, ⟨(u13 + 1), some [i64 v17]⟩, ⟨(u14 + 1), some [f32 (some 0)]⟩]) (TOp.alloc_o (g := ⟨u14, none⟩) 4 rfl zer26 zok26 rfl)<|ys (f32 e18) [f32 e18] ([⟨2, some (mpc r4)⟩, oF 1 L15, ⟨1, some [oref 1 1 0 a0.toNat]⟩, ⟨(u13 + 1), some [i64 v17]⟩, ⟨(u14 + 1), some [f32 e18]⟩]) siz26<|zN ?_
            refine yS ?_
            obtain ⟨r19, r20, hf19, h9_⟩ := obind2_some h9_
            obtain ⟨hn20, h9_⟩ := need_some h9_
            refine yW<|yl rfl (agg [i64 a0, sl a1.length (a1.map i64), sl a2.length (a2.map i64), (sFc a3)]) (yL agg30 siz30)<|yd rfl (i64 v17) (TOp.load1_o rfl rfl agg2 rfl rfl)<|yl rfl (fn (.func 85) [] [optr 3 (u13 + 1) 0, optr 4 (u14 + 1) 0, optr 2 1 0]) (LOp.makeFunc rfl rfl)<|ROps.callO (A := [agg [i64 a0, sl a1.length (a1.map i64), sl a2.length (a2.map i64), (sFc a3)], i64 v17, fn (.func 85) [] [optr 3 (u13 + 1) 0, optr 4 (u14 + 1) 0, optr 2 1 0]]) (args := [agg [i64 a0, sl a1.length (a1.map i64), sl a2.length (a2.map i64), (sFc a3)], i64 v17, fn (.func 85) [] [optr 0 0 0, optr 1 0 0, optr 2 0 0]]) (Γc := [⟨0, some [i64 v17]⟩, ⟨0, some [f32 e18]⟩, ⟨0, some [oref 3 0 0 L15.length]⟩, oF 0 L15]) (Γc' := [⟨0, some [i64 v17]⟩, ⟨0, some [f32 r19]⟩, ⟨0, some [oref 3 0 0 L15.length]⟩, oF 0 r20]) (r' := tup []) (Γ' := [⟨2, some (mpc r4)⟩, oF 1 r20, ⟨1, some [oref 1 1 0 a0.toNat]⟩, ⟨(u13 + 1), some [i64 v17]⟩, ⟨(u14 + 1), some [f32 r19]⟩]) [(3, (u13 + 1)), (4, (u14 + 1)), (2, 1), (1, 1)] [] rfl (CallAs.func ent84 rfl rfl) rfl rfl (SelOk.of (show List.Nodup [3, 4, 2, 1] from by decide) (SelL.cells0 rfl (by simp [ren, rens, sigma, rens_f32, rens_f64, rens_i64, rens_ik, rens_str, rens_cp, rens_mpc, hl16]) rfl (SelL.cells0 rfl (by simp [ren, rens, sigma, rens_f32, rens_f64, rens_i64, rens_ik, rens_str, rens_cp, rens_mpc, hl16]) rfl (SelL.cells0 rfl (by simp [ren, rens, sigma, rens_f32, rens_f64, rens_i64, rens_ik, rens_str, rens_cp, rens_mpc, hl16]) rfl (sA rfl trivial))))) (live_of ⟨⟨_, _, rfl⟩, ⟨_, _, rfl⟩, ⟨_, _, rfl⟩, ⟨_, _, rfl⟩, trivial⟩) (by simp [ren, rens, sigma, rens_f32, rens_f64, rens_i64, rens_ik, rens_str, rens_cp, rens_mpc, hl16]) (lts_cons (lt_agg (lts_cons rfl (lts_cons (lt_slk (fun _ => rfl)) (lts_cons (lt_slk (fun _ => rfl)) (lts_cons (lt_slk (fun _ => rfl)) lts_nil))))) (lts_cons rfl (lts_cons rfl lts_nil))) (K1d_ok a0 a1 a2 a3 v17 v17 e18 L15 r19 r20 hf19) rfl (news_of trivial) (show List.Nodup [3, 4, 2, 1] from by decide) (by simp [ren, rens, sigma, of_decide_eq_true hn20]) (by simp [backOb, sigma, ren, rens, rens_f32, rens_f64, rens_i64, rens_ik, rens_str, rens_cp, rens_mpc, hl16, of_decide_eq_true hn20] <;> omega)<|zN ?_
            refine yS ?_
            obtain ⟨x21, hx21, h9_⟩ := oL h9_
            obtain ⟨x22, hx22, h9_⟩ := oL h9_
            refine RunC.region_draw (Γ' := [⟨2, some (mpc r4)⟩, oF 1 r20, ⟨1, some [oref 1 1 0 a0.toNat]⟩, ⟨(u13 + 1), some [i64 v17]⟩, ⟨(u14 + 1), some [f32 r19]⟩]) 7 mixed 
             (TR.d (r := f32 r19) (fs := []) rfl rfl (TOp.load1_o rfl rfl agg26 rfl rfl) <|
             (tm rfl (mref 0 2) <|
             (TR.d (r := i64 v17) (fs := []) rfl rfl (TOp.load1_o rfl rfl agg2 rfl rfl) <|
             (TR.d (r := i64 v17) (fs := []) rfl rfl (TOp.load1_o rfl rfl agg2 rfl rfl) <|
             (tl rfl (agg [i64 v17, i64 v17]) (LOp.build (qs := [(0, [i64 v17]), (1, [i64 v17])]) zer101 zok101 und101 plc101 rfl ⟨rfl, ⟨_, ALe.refl _, rfl⟩, ⟨rfl, ⟨_, ALe.refl _, rfl⟩, trivial⟩⟩ rfl) <|
             (TR.d (r := f32 x21) (fs := []) rfl rfl (TOp.eqr (TOp.mget und98 pky101 zer26 zel26 rfl rfl rfl rfl rfl) (congrArg f32 hx21)) <|
             (TR.d (r := f32 x22) (fs := []) rfl rfl (TOp.eqr (TOp.fop (.inr (.inr (.inr rfl))) rfl (OpF.tmp rfl) (OpF.tmp rfl)) (congrArg (f .f32) hx22)) <|
             TR.nil))))))) rfl (by kernel_rfl) rfl fills_nil rfl ?_
            iterate 7 refine ROps.dropS ?_
            refine ROps.drop0<|ys (f32 x22) [f32 x22] ([⟨2, some (mpc r4)⟩, oF 1 r20, ⟨1, some [oref 1 1 0 a0.toNat]⟩, ⟨(u13 + 1), some [i64 v17]⟩, ⟨(u14 + 1), some [f32 x22]⟩]) siz26<|zN ?_
            refine RunC.wl (τ' := [(1, (sFc a4)), (2, f32 a5), (3, f32 a6), (4, i64 a7), (5, ptr [i64 a0, sl a1.length (a1.map i64), sl a2.length (a2.map i64), (sFc a3)]), (13, mref 0 2), (15, optr 2 1 0), (16, i64 v12), (17, optr 3 (u13 + 1) 0), (18, optr 4 (u14 + 1) 0), (71, i64 a0), (72, i64 v17)]) (Γ' := [⟨2, some (mpc r4)⟩, oF 1 r20, ⟨1, some [oref 1 1 0 a0.toNat]⟩, ⟨(u13 + 1), some [i64 v17]⟩, ⟨(u14 + 1), some [f32 x22]⟩]) ⟨aR, aR, aR, aR, aR, aR, aR, aR, aR, aR, aR, aR, trivial⟩ ⟨⟨rfl, .inr rfl⟩, ⟨rfl, .inr rfl⟩, ⟨rfl, .inr rfl⟩, ⟨rfl, .inr rfl⟩, ⟨rfl, .inr rfl⟩, trivial⟩ ?_
            obtain ⟨e23, he23, h9_⟩ := oS h9_
            obtain ⟨e24, he24, h9_⟩ := oS h9_
            obtain ⟨x25, hx25, h9_⟩ := oL h9_
            obtain ⟨r26, hf26, h9_⟩ := oS h9_
            obtain ⟨x27, hx27, h9_⟩ := oL h9_
            obtain ⟨L28, he28, h9_⟩ := oS h9_
            refine RunC.region_draw (Γ' := [⟨2, some (mpc r4)⟩, oF 1 r20, ⟨1, some [oref 1 1 0 a0.toNat]⟩, ⟨(u13 + 1), some [i64 v17]⟩, ⟨(u14 + 1), some [f32 x22]⟩]) 14 mixed 
             (TR.d (r := oref 1 1 0 a0.toNat) (fs := []) rfl rfl (TOp.load1_o rfl rfl agg23 rfl rfl) <|
             (TR.d (r := i64 v17) (fs := []) rfl rfl (TOp.load1_o rfl rfl agg2 rfl rfl) <|
             (TR.d (r := optr 1 1 v17.toNat) (fs := []) rfl rfl (TOp.ixo und23 siz26 rfl rfl rfl (at_in he23 (of_decide_eq_true hn20)) rfl) <|
             (TR.d (r := f32 e23) (fs := []) rfl rfl (TOp.load1_o rfl (at_cell he23) agg26 rfl rfl) <|
             (tm rfl (f32 a5) <|
             (TR.d (r := f32 x22) (fs := []) rfl rfl (TOp.load1_o rfl rfl agg26 rfl rfl) <|
             (TR.d (r := oref 1 1 0 a0.toNat) (fs := []) rfl rfl (TOp.load1_o rfl rfl agg23 rfl rfl) <|
             (TR.d (r := i64 v17) (fs := []) rfl rfl (TOp.load1_o rfl rfl agg2 rfl rfl) <|
             (TR.d (r := optr 1 1 v17.toNat) (fs := []) rfl rfl (TOp.ixo und23 siz26 rfl rfl rfl (at_in he24 (of_decide_eq_true hn20)) rfl) <|
             (TR.d (r := f32 e24) (fs := []) rfl rfl (TOp.load1_o rfl (at_cell he24) agg26 rfl rfl) <|
             (TR.d (r := f32 x25) (fs := []) rfl rfl (TOp.eqr (TOp.fop (.inr (.inl rfl)) rfl (OpF.tmp rfl) (OpF.tmp rfl)) (congrArg (f .f32) hx25)) <|
             (TR.d (r := f32 r26) (fs := []) rfl rfl (yc ent86 rfl rfl (bP bN0) (K1b_ok a5 x25 r26 hf26)) <|
             (TR.d (r := f32 x27) (fs := []) rfl rfl (TOp.eqr (TOp.fop (.inl rfl) rfl (OpF.tmp rfl) (OpF.tmp rfl)) (congrArg (f .f32) hx27)) <|
             (TR.d (r := optr 1 1 v17.toNat) (fs := []) rfl rfl (TOp.ixo und23 siz26 rfl rfl rfl (set_in he28 (of_decide_eq_true hn20)) rfl) <|
             TR.nil)))))))))))))) rfl (by kernel_rfl) rfl fills_nil rfl ?_
            iterate 14 refine ROps.dropS ?_
            refine ROps.drop0<|ROps.st (f := f32) (i := v17) (Γ' := [⟨2, some (mpc r4)⟩, oF 1 L28, ⟨1, some [oref 1 1 0 a0.toNat]⟩, ⟨(u13 + 1), some [i64 v17]⟩, ⟨(u14 + 1), some [f32 x22]⟩]) rfl siz26 rfl rfl rfl aR rfl rfl rfl he28 rfl<|zN ?_
            refine RunC.wl (τ' := [(1, (sFc a4)), (2, f32 a5), (3, f32 a6), (4, i64 a7), (5, ptr [i64 a0, sl a1.length (a1.map i64), sl a2.length (a2.map i64), (sFc a3)]), (13, mref 0 2), (15, optr 2 1 0), (16, i64 v12), (71, i64 a0), (72, i64 v17)]) (Γ' := [⟨2, some (mpc r4)⟩, oF 1 L28, ⟨1, some [oref 1 1 0 a0.toNat]⟩, ⟨(u13 + 1), none⟩, ⟨(u14 + 1), none⟩]) ⟨aR, aR, aR, aR, aR, aR, aR, aR, aR, aR, trivial⟩ ⟨⟨rfl, .inr rfl⟩, ⟨rfl, .inr rfl⟩, ⟨rfl, .inr rfl⟩, ⟨rfl, .inl rfl⟩, ⟨rfl, .inl rfl⟩, trivial⟩ ?_
            obtain ⟨x29, hx29, h9_⟩ := oL h9_
            refine yW<|yl rfl (i64 x29) (LOp.eqr (LOp.add rfl rfl rfl) (congrArg (ik .i64) hx29))<|ym rfl (i64 x29)<|zN ?_
            cases oI h9_
            exact ⟨_, rfl, (u13 + 1), (u14 + 1), ((setAt?_len he28).trans (of_decide_eq_true hn20)), ⟨aR, aR, aR, aR, aR, aR, aR, aR, aR, aR, trivial⟩, ⟨⟨rfl, .inr rfl⟩, ⟨rfl, .inr rfl⟩, ⟨rfl, .inr rfl⟩, ⟨rfl, .inl rfl⟩, ⟨rfl, .inl rfl⟩, trivial⟩⟩
           ·refine yW<|yl rfl (b false) (LOp.eqb (LOp.lss rfl rfl rfl) hc17)<|zN ?_
            refine yS<|yF<|RunC.exit ?_
            cases oI h9_
            have hx := ho9 _ rfl
            exact ⟨L15, u13, u14, hl16, ⟨aR, aR, aR, aR, aR, aR, aR, aR, trivial⟩, ⟨⟨rfl, .inr rfl⟩, ⟨rfl, .inr rfl⟩, ⟨rfl, .inr rfl⟩, ⟨rfl, .inl rfl⟩, ⟨rfl, .inl rfl⟩, trivial⟩, hx⟩
          ·rintro τ10 Γ10 ⟨L32, u30, u31, hl33, hw10, hd10, rfl⟩
           refine RunC.wl hw10 hd10 ?_
           replace h8_ : K1l_k3 a0 a1 a2 a3 a4 a6 v12 L32 = some y8_ := h8_
           unfold K1l_k3 at h8_
           refine yS<|yS ?_
           obtain ⟨r34, hf30, h8_⟩ := oS h8_
           rcases oB h8_ with ⟨hc31, h8_⟩ | ⟨hc31, h8_⟩
           ·refine yW<|yd rfl (oref 1 1 0 a0.toNat) (TOp.load1_o rfl rfl agg23 rfl rfl)<|yd rfl (b true) (TOp.eqb (yc ent81 rfl rfl (Bors.cons (Bor.own (f := f32) (fun _ => rfl) rfl hl33) bN) (K13_ok L32 r34 hf30)) hc31)<|yl rfl (b false) n1<|zN ?_
            refine yF<|RunC.skip<|yS ?_
            obtain ⟨r35, hf32, h8_⟩ := oS h8_
            obtain ⟨r36, hf33, h8_⟩ := oS h8_
            obtain ⟨r37, hf34, h8_⟩ := oS h8_
            refine yW<|ym rfl (sFc a4)<|yl rfl (agg [i64 a0, sl a1.length (a1.map i64), sl a2.length (a2.map i64), (sFc a3)]) (yL agg30 siz30)<|yd rfl (oref 1 1 0 a0.toNat) (TOp.load1_o rfl rfl agg23 rfl rfl)<|ye rfl (oref 3 (u30 + 1) 0 r35.length) ([⟨2, some (mpc r4)⟩, oF 1 L32, ⟨1, some [oref 1 1 0 a0.toNat]⟩, oF (u30 + 1) r35, ⟨u31, none⟩]) (TOp.eqr (TOp.callBN (ls := [(r35.map f32)]) [3] (CallAs.func ent89 rfl rfl) (Bors.cons (Bor.agg (bP (bS (bS (bS bN))))) (Bors.cons (Bor.own (f := f32) (fun _ => rfl) rfl hl33) bN)) rfl (K1g_ok a0 a1 a2 a3 L32 r35 hf32) (and_all (lts0_map (f := f32) (fun _ => rfl) _) rfl) (and_all (noss_map (f := f32) (fun _ => rfl) _) rfl) rfl (by decide) (ns_of ⟨⟨_, rfl⟩, trivial⟩)) (by simp [ren, rens, sigma, newNames]))<|ye rfl (oref 4 (u31 + 1) 0 r36.length) ([⟨2, some (mpc r4)⟩, oF 1 L32, ⟨1, some [oref 1 1 0 a0.toNat]⟩, oF (u30 + 1) r35, oF (u31 + 1) r36]) (TOp.eqr (TOp.callBN (ls := [(r36.map f32)]) [4] (CallAs.func ent88 rfl rfl) (bS (Bors.cons (Bor.own (f := f32) (fun _ => rfl) rfl rfl) bN)) rfl (K1h_ok a4 r35 r36 hf33) (and_all (lts0_map (f := f32) (fun _ => rfl) _) rfl) (and_all (noss_map (f := f32) (fun _ => rfl) _) rfl) rfl (by decide) (ns_of ⟨⟨_, rfl⟩, trivial⟩)) (by simp [ren, rens, sigma, newNames]))<|yd rfl (f32 r37) (yc ent87 rfl rfl (Bors.cons (Bor.own (f := f32) (fun _ => rfl) rfl rfl) bN) (K1k_ok r36 r37 hf34))<|ya rfl (f32 r37)<|zN ?_
            refine RunC.wl (τ' := [(1, (sFc a4)), (2, f32 a5), (3, f32 a6), (4, i64 a7), (5, ptr [i64 a0, sl a1.length (a1.map i64), sl a2.length (a2.map i64), (sFc a3)]), (13, mref 0 2), (15, optr 2 1 0), (16, i64 v12), (19, f32 r37)]) (Γ' := [⟨2, some (mpc r4)⟩, oF 1 L32, ⟨1, some [oref 1 1 0 a0.toNat]⟩, ⟨(u30 + 1), none⟩, ⟨(u31 + 1), none⟩]) ⟨aR, aR, aR, aR, aR, aR, aR, aR, aR, trivial⟩ ⟨⟨rfl, .inr rfl⟩, ⟨rfl, .inr rfl⟩, ⟨rfl, .inr rfl⟩, ⟨rfl, .inl rfl⟩, ⟨rfl, .inl rfl⟩, trivial⟩<|yS<|yS ?_
            obtain ⟨r38, hf35, h8_⟩ := oS h8_
            rcases oB h8_ with ⟨hc36, h8_⟩ | ⟨hc36, h8_⟩
            ·refine yW<|ym rfl (f32 r37)<|yd rfl (b true) (TOp.eqb (yc ent90 rfl rfl bN0 (K0z_ok r37 r38 hf35)) hc36)<|yl rfl (b false) n1<|zN ?_
             refine yF<|RunC.skip<|yS ?_
             rcases oB h8_ with ⟨hc37, h8_⟩ | ⟨hc37, h8_⟩
             ·refine yW<|ym rfl (f32 r37)<|ym rfl (f32 a6)<|yl rfl (b true) (LOp.eqb (LOp.fle rfl (OpF.tmp rfl) (OpF.tmp rfl)) hc37)<|zN ?_
              refine yT<|zQ<|yd rfl (oref 1 1 0 a0.toNat) (TOp.load1_o rfl rfl agg23 rfl rfl)<|ym rfl (i64 v12)<|ya rfl (oref 1 1 0 a0.toNat)<|ya rfl (i64 v12)<|ya rfl (b true)<|zN ?_
              refine RunC.ret ?_
              cases oI h8_
              have hx11_ := hr8 _ rfl
              subst hx11_
              have hq := oI h
              obtain ⟨hq0, hq⟩ := Prod.mk.inj hq
              obtain ⟨hq1, hq⟩ := Prod.mk.inj hq
              subst q0
              subst q1
              subst q2
              exact yB (tup [oref 1 1 0 L32.length, i64 v12, b true]) [(1, 1)] (Res.eq (Res.three rfl (RV.tmp rfl) (RV.tmp rfl) (RV.tmp rfl)) (by first | rfl | (rw [(show L32.length = a0.toNat from hl33)] <;> rfl))) (sA rfl trivial)
             ·refine yW<|ym rfl (f32 r37)<|ym rfl (f32 a6)<|yl rfl (b false) (LOp.eqb (LOp.fle rfl (OpF.tmp rfl) (OpF.tmp rfl)) hc37)<|zN ?_
              refine yF<|RunC.skip ?_
              obtain ⟨x39, hx38, h8_⟩ := oL h8_
              refine yW<|ym rfl (i64 v12)<|yl rfl (i64 x39) (LOp.eqr (LOp.add rfl rfl rfl) (congrArg (ik .i64) hx38))<|ya rfl (i64 x39)<|zN ?_
              cases oI h8_
              exact ⟨_, rfl, (u30 + 1), (u31 + 1), hl33, ⟨aR, aR, aR, aR, aR, aR, aR, aR, trivial⟩, ⟨⟨rfl, .inr rfl⟩, ⟨rfl, .inr rfl⟩, ⟨rfl, .inr rfl⟩, ⟨rfl, .inl rfl⟩, ⟨rfl, .inl rfl⟩, trivial⟩⟩
            ·refine yW<|ym rfl (f32 r37)<|yd rfl (b false) (TOp.eqb (yc ent90 rfl rfl bN0 (K0z_ok r37 r38 hf35)) hc36)<|yl rfl (b true) n0<|zN ?_
             refine yT<|zQ<|ya rfl nilsl<|ya rfl (i64 0)<|ya rfl (b false)<|zN ?_
             refine RunC.nil_slot (Γ' := [⟨2, some (mpc r4)⟩, oF 1 L32, ⟨1, some [oref 1 1 0 a0.toNat]⟩, ⟨(u30 + 2), some (([] : List F).map f32)⟩, ⟨(u31 + 1), none⟩]) 10 3 rfl rfl rfl<|RunC.ret ?_
             cases oI h8_
             have hx12_ := hr8 _ rfl
             subst hx12_
             have hq := oI h
             obtain ⟨hq0, hq⟩ := Prod.mk.inj hq
             obtain ⟨hq1, hq⟩ := Prod.mk.inj hq
             subst q0
             subst q1
             subst q2
             exact bodyQ.mk (r' := tup [oref 3 (u30 + 2) 0 (([] : List F).length), i64 0, b false]) [(3, (u30 + 2))] (.inr rfl) rfl (show List.Nodup [3] from by decide) (by simp [ren, rens, sigma]) rfl (Res.eq (Res.three rfl (RV.tmp rfl) (RV.tmp rfl) (RV.tmp rfl)) (by first | rfl | (rw [(show ([] : List F).length = 0 from rfl)] <;> rfl))) (sA rfl trivial)
           ·refine yW<|yd rfl (oref 1 1 0 a0.toNat) (TOp.load1_o rfl rfl agg23 rfl rfl)<|yd rfl (b false) (TOp.eqb (yc ent81 rfl rfl (Bors.cons (Bor.own (f := f32) (fun _ => rfl) rfl hl33) bN) (K13_ok L32 r34 hf30)) hc31)<|yl rfl (b true) n0<|zN ?_
            refine yT<|zQ<|ya rfl nilsl<|ya rfl (i64 0)<|ya rfl (b false)<|zN ?_
            refine RunC.nil_slot (Γ' := [⟨2, some (mpc r4)⟩, oF 1 L32, ⟨1, some [oref 1 1 0 a0.toNat]⟩, ⟨(u30 + 1), some (([] : List F).map f32)⟩, ⟨u31, none⟩]) 10 3 rfl rfl rfl<|RunC.ret ?_
            cases oI h8_
            have hx13_ := hr8 _ rfl
            subst hx13_
            have hq := oI h
            obtain ⟨hq0, hq⟩ := Prod.mk.inj hq
            obtain ⟨hq1, hq⟩ := Prod.mk.inj hq
            subst q0
            subst q1
            subst q2
            exact bodyQ.mk (r' := tup [oref 3 (u30 + 1) 0 (([] : List F).length), i64 0, b false]) [(3, (u30 + 1))] (.inr rfl) rfl (show List.Nodup [3] from by decide) (by simp [ren, rens, sigma]) rfl (Res.eq (Res.three rfl (RV.tmp rfl) (RV.tmp rfl) (RV.tmp rfl)) (by first | rfl | (rw [(show ([] : List F).length = 0 from rfl)] <;> rfl))) (sA rfl trivial)
         ·refine yW<|ym rfl (i64 v12)<|ym rfl (i64 a7)<|yl rfl (b false) (LOp.eqb (LOp.leq rfl rfl rfl) hc16)<|zN ?_
          refine yF<|RunC.exit ?_
          cases oI h8_
          have hx := ho8 _ rfl
          exact ⟨u8, u9, trivial, ⟨⟨rfl, .inl rfl⟩, ⟨rfl, .inl rfl⟩, ⟨rfl, .inl rfl⟩, ⟨rfl, .inl rfl⟩, ⟨rfl, .inl rfl⟩, trivial⟩, hx⟩
        ·rintro τ14 Γ14 ⟨u40, u41, hw14, hd14, rfl⟩
         refine RunC.wl hw14 hd14 ?_
         replace h : K1l_k4 = some (q0, q1, q2) := h
         unfold K1l_k4 at h
         refine zQ<|ya rfl nilsl<|ya rfl (i64 0)<|ya rfl (b false)<|zN ?_
         refine RunC.nil_slot (Γ' := [⟨3, some (([] : List F).map f32)⟩, ⟨1, none⟩, ⟨1, none⟩, ⟨u40, none⟩, ⟨u41, none⟩]) 10 0 rfl rfl rfl<|RunC.ret ?_
         have hq := oI h
         obtain ⟨hq0, hq⟩ := Prod.mk.inj hq
         obtain ⟨hq1, hq⟩ := Prod.mk.inj hq
         subst q0
         subst q1
         subst q2
         exact yB (tup [oref 0 3 0 (([] : List F).length), i64 0, b false]) [(0, 3)] (Res.eq (Res.three rfl (RV.tmp rfl) (RV.tmp rfl) (RV.tmp rfl)) (by first | rfl | (rw [(show ([] : List F).length = 0 from rfl)] <;> rfl))) (sA rfl trivial)
      ·refine yW<|yl rfl (agg [i64 a0, sl a1.length (a1.map i64), sl a2.length (a2.map i64), (sFc a3)]) (yL agg30 siz30)<|ym rfl (sFc a4)<|yd rfl (b true) (TOp.eqb (TOp.callB (CallAs.func ent80 rfl rfl) (Bors.cons (Bor.agg (bP (bS (bS (bS bN))))) (bS bN)) rfl rfl (K17_ok a0 a1 a2 a3 a4 r1 hf1)) hc2)<|yl rfl (b false) n1<|ym rfl (b false)<|ym rfl (f32 a5)<|ym rfl (f32 a6)<|ye rfl (oref 0 1 0 2) ([⟨1, some (([a5, a6] : List F).map f32)⟩, o0, o0, o0, o0]) (TOp.buildSlice_o (g := o0) (za := f32 (some 0)) (qs := [(0, [f32 a5]), (1, [f32 a6])]) 0 rfl und23 siz26 zer26 rfl zel26 rfl rfl ⟨rfl, ⟨_, ALe.refl _, rfl⟩, ⟨rfl, ⟨_, ALe.refl _, rfl⟩, trivial⟩⟩ rfl)<|yd rfl (b true) (TOp.eqb (yc ent81 rfl rfl (Bors.cons (Bor.own (f := f32) (n := 2) (l := ([a5, a6] : List F)) (fun _ => rfl) rfl rfl) bN) (K13_ok ([a5, a6] : List F) r2 hf3)) hc4)<|yl rfl (b false) n1<|yl rfl (b false) yp<|ym rfl (b false)<|ym rfl (f32 a5)<|yl rfl (b false) (LOp.eqb (LOp.fle rfl (OpF.tmp rfl) (OpF.const rfl (by kernel_rfl) (by kernel_rfl))) hc5)<|yl rfl (b false) yp<|ym rfl (b false)<|ym rfl (f32 a5)<|yl rfl (b false) (LOp.eqb (LOp.fge rfl (OpF.tmp rfl) (OpF.const rfl (by kernel_rfl) (by kernel_rfl))) hc6)<|yl rfl (b false) yp<|ym rfl (b false)<|ym rfl (f32 a6)<|yl rfl (b false) (LOp.eqb (LOp.flt rfl (OpF.tmp rfl) (OpF.const rfl (by kernel_rfl) (by kernel_rfl))) hc7)<|yl rfl (b false) yp<|ym rfl (b false)<|ym rfl (i64 a7)<|yd rfl (b false) (TOp.eqb (yc ent82 rfl rfl (bP (bP bN0)) (K0n_ok a7 1 128 r3 hf8)) hc9)<|yl rfl (b true) n0<|yl rfl (b true) yp<|zN ?_
       refine RunC.wl (τ' := [(1, (sFc a4)), (2, f32 a5), (3, f32 a6), (4, i64 a7), (5, ptr [i64 a0, sl a1.length (a1.map i64), sl a2.length (a2.map i64), (sFc a3)]), (47, b true)]) (Γ' := [⟨1, none⟩, o0, o0, o0, o0]) ⟨aR, aR, aR, aR, aR, aR, trivial⟩ ⟨⟨rfl, .inl rfl⟩, ⟨rfl, .inr rfl⟩, ⟨rfl, .inr rfl⟩, ⟨rfl, .inr rfl⟩, ⟨rfl, .inr rfl⟩, trivial⟩<|yT<|zQ<|ya rfl nilsl<|ya rfl (i64 0)<|ya rfl (b false)<|zN ?_
       refine RunC.nil_slot (Γ' := [⟨2, some (([] : List F).map f32)⟩, o0, o0, o0, o0]) 10 0 rfl rfl rfl<|RunC.ret ?_
       have hq := oI h
       obtain ⟨hq0, hq⟩ := Prod.mk.inj hq
       obtain ⟨hq1, hq⟩ := Prod.mk.inj hq
       subst q0
       subst q1
       subst q2
       exact yB (tup [oref 0 2 0 (([] : List F).length), i64 0, b false]) [(0, 2)] (Res.eq (Res.three rfl (RV.tmp rfl) (RV.tmp rfl) (RV.tmp rfl)) (by first | rfl | (rw [(show ([] : List F).length = 0 from rfl)] <;> rfl))) (sA rfl trivial)
  ·refine yW<|yl rfl (agg [i64 a0, sl a1.length (a1.map i64), sl a2.length (a2.map i64), (sFc a3)]) (yL agg30 siz30)<|ym rfl (sFc a4)<|yd rfl (b true) (TOp.eqb (TOp.callB (CallAs.func ent80 rfl rfl) (Bors.cons (Bor.agg (bP (bS (bS (bS bN))))) (bS bN)) rfl rfl (K17_ok a0 a1 a2 a3 a4 r1 hf1)) hc2)<|yl rfl (b false) n1<|ym rfl (b false)<|ym rfl (f32 a5)<|ym rfl (f32 a6)<|ye rfl (oref 0 1 0 2) ([⟨1, some (([a5, a6] : List F).map f32)⟩, o0, o0, o0, o0]) (TOp.buildSlice_o (g := o0) (za := f32 (some 0)) (qs := [(0, [f32 a5]), (1, [f32 a6])]) 0 rfl und23 siz26 zer26 rfl zel26 rfl rfl ⟨rfl, ⟨_, ALe.refl _, rfl⟩, ⟨rfl, ⟨_, ALe.refl _, rfl⟩, trivial⟩⟩ rfl)<|yd rfl (b false) (TOp.eqb (yc ent81 rfl rfl (Bors.cons (Bor.own (f := f32) (n := 2) (l := ([a5, a6] : List F)) (fun _ => rfl) rfl rfl) bN) (K13_ok ([a5, a6] : List F) r2 hf3)) hc4)<|yl rfl (b true) n0<|yl rfl (b true) yp<|ym rfl (b true)<|yR rfl<|yR rfl<|yl rfl (b true) yq<|ym rfl (b true)<|yR rfl<|yR rfl<|yl rfl (b true) yq<|ym rfl (b true)<|yR rfl<|yR rfl<|yl rfl (b true) yq<|ym rfl (b true)<|yR rfl<|yR rfl<|yR rfl<|yl rfl (b true) yq<|zN ?_
   refine RunC.wl (τ' := [(1, (sFc a4)), (2, f32 a5), (3, f32 a6), (4, i64 a7), (5, ptr [i64 a0, sl a1.length (a1.map i64), sl a2.length (a2.map i64), (sFc a3)]), (47, b true)]) (Γ' := [⟨1, none⟩, o0, o0, o0, o0]) ⟨aR, aR, aR, aR, aR, aR, trivial⟩ ⟨⟨rfl, .inl rfl⟩, ⟨rfl, .inr rfl⟩, ⟨rfl, .inr rfl⟩, ⟨rfl, .inr rfl⟩, ⟨rfl, .inr rfl⟩, trivial⟩<|yT<|zQ<|ya rfl nilsl<|ya rfl (i64 0)<|ya rfl (b false)<|zN ?_
   refine RunC.nil_slot (Γ' := [⟨2, some (([] : List F).map f32)⟩, o0, o0, o0, o0]) 10 0 rfl rfl rfl<|RunC.ret ?_
   have hq := oI h
   obtain ⟨hq0, hq⟩ := Prod.mk.inj hq
   obtain ⟨hq1, hq⟩ := Prod.mk.inj hq
   subst q0
   subst q1
   subst q2
   exact yB (tup [oref 0 2 0 (([] : List F).length), i64 0, b false]) [(0, 2)] (Res.eq (Res.three rfl (RV.tmp rfl) (RV.tmp rfl) (RV.tmp rfl)) (by first | rfl | (rw [(show ([] : List F).length = 0 from rfl)] <;> rfl))) (sA rfl trivial)
 ·refine yW<|yl rfl (agg [i64 a0, sl a1.length (a1.map i64), sl a2.length (a2.map i64), (sFc a3)]) (yL agg30 siz30)<|ym rfl (sFc a4)<|yd rfl (b false) (TOp.eqb (TOp.callB (CallAs.func ent80 rfl rfl) (Bors.cons (Bor.agg (bP (bS (bS (bS bN))))) (bS bN)) rfl rfl (K17_ok a0 a1 a2 a3 a4 r1 hf1)) hc2)<|yl rfl (b true) n0<|ym rfl (b true)<|yR rfl<|yR rfl<|yR rfl<|yR rfl<|yR rfl<|yl rfl (b true) yq<|ym rfl (b true)<|yR rfl<|yR rfl<|yl rfl (b true) yq<|ym rfl (b true)<|yR rfl<|yR rfl<|yl rfl (b true) yq<|ym rfl (b true)<|yR rfl<|yR rfl<|yl rfl (b true) yq<|ym rfl (b true)<|yR rfl<|yR rfl<|yR rfl<|yl rfl (b true) yq<|zN ?_
  refine RunC.wl (τ' := [(1, (sFc a4)), (2, f32 a5), (3, f32 a6), (4, i64 a7), (5, ptr [i64 a0, sl a1.length (a1.map i64), sl a2.length (a2.map i64), (sFc a3)]), (47, b true)]) (Γ' := [o0, o0, o0, o0, o0]) ⟨aR, aR, aR, aR, aR, aR, trivial⟩ ⟨⟨rfl, .inr rfl⟩, ⟨rfl, .inr rfl⟩, ⟨rfl, .inr rfl⟩, ⟨rfl, .inr rfl⟩, ⟨rfl, .inr rfl⟩, trivial⟩<|yT<|zQ<|ya rfl nilsl<|ya rfl (i64 0)<|ya rfl (b false)<|zN ?_
  refine RunC.nil_slot (Γ' := [⟨1, some (([] : List F).map f32)⟩, o0, o0, o0, o0]) 10 0 rfl rfl rfl<|RunC.ret ?_
  have hq := oI h
  obtain ⟨hq0, hq⟩ := Prod.mk.inj hq
  obtain ⟨hq1, hq⟩ := Prod.mk.inj hq
  subst q0
  subst q1
  subst q2
  exact yB (tup [oref 0 1 0 (([] : List F).length), i64 0, b false]) [(0, 1)] (Res.eq (Res.three rfl (RV.tmp rfl) (RV.tmp rfl) (RV.tmp rfl)) (by first | rfl | (rw [(show ([] : List F).length = 0 from rfl)] <;> rfl))) (sA rfl trivial)
def K1m_k1 (a0 : F) (a1 : F) : Option (Bool) :=
 some (feq .f64 a0 a1)
def K1m (a0 : F) (a1 : F) : Option (Bool) :=
 bsel (!feq .f64 a0 a0) (
  some (!feq .f64 a1 a1)) (
  bsel (!feq .f64 a1 a1) (
   some false) (
   bsel (feq .f64 a0 (some 0)) (
    bsel (feq .f64 a1 (some 0)) (
     olet (fop .quo .f64 (some 4607182418800017408) a0) fun (x1 : F) =>
     olet (fop .quo .f64 (some 4607182418800017408) a1) fun (x2 : F) =>
     some ((flt .f64 (some 0) x1) == (flt .f64 (some 0) x2))) (
     K1m_k1 a0 a1)) (
    K1m_k1 a0 a1)))
theorem K1m_ok (a0 : F) (a1 : F) (q0 : Bool) (h : K1m a0 a1 = some q0) : Ev Try.prog 91 [f64 a0, f64 a1] [] (b q0) [] := by
 refine yE Try.func91 0 75 0 [(0, f64 a0), (1, f64 a1)] [] rfl ?_
 unfold K1m at h
 refine zQ<|ya rfl (b false)<|zN ?_
 refine yS<|yS ?_
 rcases oB h with ⟨hc1, h⟩ | ⟨hc1, h⟩
 ·refine yW<|ym rfl (f64 a0)<|ym rfl (f64 a0)<|yl rfl (b true) (LOp.eqb (LOp.fne rfl (OpF.tmp rfl) (OpF.tmp rfl)) hc1)<|ym rfl (b true)<|yR rfl<|yR rfl<|yR rfl<|yl rfl (b true) yq<|zN ?_
  refine yT<|zQ<|ym rfl (f64 a0)<|ym rfl (f64 a0)<|yl rfl (b true) (LOp.eqb (LOp.fne rfl (OpF.tmp rfl) (OpF.tmp rfl)) hc1)<|ym rfl (b true)<|ym rfl (f64 a1)<|ym rfl (f64 a1)<|yl rfl (b (!feq .f64 a1 a1)) (LOp.fne rfl (OpF.tmp rfl) (OpF.tmp rfl))<|yl rfl (b (!feq .f64 a1 a1)) yq<|ya rfl (b (!feq .f64 a1 a1))<|zN ?_
  refine RunC.ret ?_
  have hq := oI h
  subst q0
  exact bR rfl
 ·rcases oB h with ⟨hc2, h⟩ | ⟨hc2, h⟩
  ·refine yW<|ym rfl (f64 a0)<|ym rfl (f64 a0)<|yl rfl (b false) (LOp.eqb (LOp.fne rfl (OpF.tmp rfl) (OpF.tmp rfl)) hc1)<|ym rfl (b false)<|ym rfl (f64 a1)<|ym rfl (f64 a1)<|yl rfl (b true) (LOp.eqb (LOp.fne rfl (OpF.tmp rfl) (OpF.tmp rfl)) hc2)<|yl rfl (b true) yp<|zN ?_
   refine yT<|zQ<|ym rfl (f64 a0)<|ym rfl (f64 a0)<|yl rfl (b false) (LOp.eqb (LOp.fne rfl (OpF.tmp rfl) (OpF.tmp rfl)) hc1)<|ym rfl (b false)<|yR rfl<|yR rfl<|yR rfl<|yl rfl (b false) yp<|ya rfl (b false)<|zN ?_
   refine RunC.ret ?_
   have hq := oI h
   subst q0
   exact bR rfl
  ·refine yW<|ym rfl (f64 a0)<|ym rfl (f64 a0)<|yl rfl (b false) (LOp.eqb (LOp.fne rfl (OpF.tmp rfl) (OpF.tmp rfl)) hc1)<|ym rfl (b false)<|ym rfl (f64 a1)<|ym rfl (f64 a1)<|yl rfl (b false) (LOp.eqb (LOp.fne rfl (OpF.tmp rfl) (OpF.tmp rfl)) hc2)<|yl rfl (b false) yp<|zN ?_
   refine yF<|RunC.skip<|yS<|RunC.cutN (fun τ Γ =>  WeakLe τ [(0, f64 a0), (1, f64 a1)] ∧ DeadLe Γ [] ∧ K1m_k1 a0 a1 = some q0) ?_ ?_
   ·refine yS ?_
    rcases oB h with ⟨hc3, h⟩ | ⟨hc3, h⟩
    ·rcases oB h with ⟨hc4, h⟩ | ⟨hc4, h⟩
     ·refine yW<|ym rfl (f64 a0)<|yl rfl (b true) (LOp.eqb (LOp.feq rfl (OpF.tmp rfl) (OpF.const rfl (by kernel_rfl) (by kernel_rfl))) hc3)<|ym rfl (b true)<|ym rfl (f64 a1)<|yl rfl (b true) (LOp.eqb (LOp.feq rfl (OpF.tmp rfl) (OpF.const rfl (by kernel_rfl) (by kernel_rfl))) hc4)<|yl rfl (b true) yq<|zN ?_
      refine RunC.wl (τ' := [(0, f64 a0), (1, f64 a1), (26, b true)]) (Γ' := []) ⟨aR, aR, aR, trivial⟩ trivial<|yT<|yS ?_
      obtain ⟨x1, hx5, h⟩ := oL h
      obtain ⟨x2, hx6, h⟩ := oL h
      refine yW<|ym rfl (f64 a0)<|yd rfl (f64 x1) (TOp.eqr (TOp.fop (.inr (.inr (.inr rfl))) rfl (OpF.const rfl (by kernel_rfl) (by kernel_rfl)) (OpF.tmp rfl)) (congrArg (f .f64) hx5))<|yl rfl (b (flt .f64 (some 0) x1)) (LOp.fgt rfl (OpF.tmp rfl) (OpF.const rfl (by kernel_rfl) (by kernel_rfl)))<|ym rfl (f64 a1)<|yd rfl (f64 x2) (TOp.eqr (TOp.fop (.inr (.inr (.inr rfl))) rfl (OpF.const rfl (by kernel_rfl) (by kernel_rfl)) (OpF.tmp rfl)) (congrArg (f .f64) hx6))<|yl rfl (b (flt .f64 (some 0) x2)) (LOp.fgt rfl (OpF.tmp rfl) (OpF.const rfl (by kernel_rfl) (by kernel_rfl)))<|yl rfl (b ((flt .f64 (some 0) x1) == (flt .f64 (some 0) x2))) (LOp.eqlb pun4 rfl rfl rfl)<|ya rfl (b ((flt .f64 (some 0) x1) == (flt .f64 (some 0) x2)))<|zN ?_
      refine RunC.ret ?_
      have hq := oI h
      subst q0
      exact bR rfl
     ·refine yW<|ym rfl (f64 a0)<|yl rfl (b true) (LOp.eqb (LOp.feq rfl (OpF.tmp rfl) (OpF.const rfl (by kernel_rfl) (by kernel_rfl))) hc3)<|ym rfl (b true)<|ym rfl (f64 a1)<|yl rfl (b false) (LOp.eqb (LOp.feq rfl (OpF.tmp rfl) (OpF.const rfl (by kernel_rfl) (by kernel_rfl))) hc4)<|yl rfl (b false) yq<|zN ?_
      refine RunC.wl (τ' := [(0, f64 a0), (1, f64 a1), (26, b false)]) (Γ' := []) ⟨aR, aR, aR, trivial⟩ trivial<|yF<|RunC.skip ?_
      exact ⟨⟨aR, aR, trivial⟩, trivial, h⟩
    ·refine yW<|ym rfl (f64 a0)<|yl rfl (b false) (LOp.eqb (LOp.feq rfl (OpF.tmp rfl) (OpF.const rfl (by kernel_rfl) (by kernel_rfl))) hc3)<|ym rfl (b false)<|yR rfl<|yR rfl<|yl rfl (b false) yp<|zN ?_
     refine RunC.wl (τ' := [(0, f64 a0), (1, f64 a1), (26, b false)]) (Γ' := []) ⟨aR, aR, aR, trivial⟩ trivial<|yF<|RunC.skip ?_
     exact ⟨⟨aR, aR, trivial⟩, trivial, h⟩
   ·rintro τ2 Γ2 ⟨hw2, hd2, h⟩
    refine RunC.wl hw2 hd2 ?_
    unfold K1m_k1 at h
    refine zQ<|ym rfl (f64 a0)<|ym rfl (f64 a1)<|yl rfl (b (feq .f64 a0 a1)) (LOp.feq rfl (OpF.tmp rfl) (OpF.tmp rfl))<|ya rfl (b (feq .f64 a0 a1))<|zN ?_
    refine RunC.ret ?_
    have hq := oI h
    subst q0
    exact bR rfl
def K1n_b1 (a0 : List F) (a1 : List F) (v1 : Int) : Option (LR (Int) (Unit) (Bool)) :=
 bsel (decide (v1 < (a0.length : Int))) (
  obind (at? a0 v1) fun (e2 : F) =>
  olet (fwiden e2) fun (x3 : F) =>
  obind (at? a1 v1) fun (e4 : F) =>
  olet (fwiden e4) fun (x5 : F) =>
  obind (K1m x3 x5) fun (r6 : Bool) =>
  bsel r6 (
   olet (IntKind.i64.wrap (v1 + 1)) fun (x7 : Int) =>
   some (LR.next x7)) (
   some (LR.ret false))) (
  some (LR.out ()))
def K1n_s1 (a0 : List F) (a1 : List F) : (Int) → Option (LR (Int) (Unit) (Bool)) := fun s => K1n_b1 a0 a1 s
def K1n_k1  : Option (Bool) :=
 some true
def K1n (a0 : List F) (a1 : List F) : Option (Bool) :=
 bsel (!decide ((a0.length : Int) = (a1.length : Int))) (
  some false) (
  obind (loopM (K1n_s1 a0 a1) 0) fun z => osum z (fun _ => K1n_k1) (fun r => some r))
theorem K1n_ok (a0 : List F) (a1 : List F) (q0 : Bool) (h : K1n a0 a1 = some q0) : Ev Try.prog 13 [(sFc a0), (sFc a1)] [] (b q0) [] := by
 refine yE Try.func13 0 59 0 [(0, (sFc a0)), (1, (sFc a1))] [] rfl ?_
 unfold K1n at h
 refine zQ<|ya rfl (b false)<|zN ?_
 refine yS<|yS ?_
 rcases oB h with ⟨hc1, h⟩ | ⟨hc1, h⟩
 ·refine yW<|ym rfl (sFc a0)<|yl rfl (i64 (a0.length : Int)) (LOp.len_sl und23 rfl rfl)<|ym rfl (sFc a1)<|yl rfl (i64 (a1.length : Int)) (LOp.len_sl und23 rfl rfl)<|yl rfl (b true) (LOp.eqb (LOp.neq rfl rfl rfl) hc1)<|zN ?_
  refine yT<|zQ<|ya rfl (b false)<|zN ?_
  refine RunC.ret ?_
  have hq := oI h
  subst q0
  exact bR rfl
 ·refine yW<|ym rfl (sFc a0)<|yl rfl (i64 (a0.length : Int)) (LOp.len_sl und23 rfl rfl)<|ym rfl (sFc a1)<|yl rfl (i64 (a1.length : Int)) (LOp.len_sl und23 rfl rfl)<|yl rfl (b false) (LOp.eqb (LOp.neq rfl rfl rfl) hc1)<|zN ?_
  refine yF<|RunC.skip<|yS<|zQ<|ya rfl (i64 0)<|zN ?_
  obtain ⟨z2, hz_2, h⟩ := oS h
  refine RunC.cutN (fun τ Γ => WeakLe τ [] ∧ DeadLe Γ [] ∧ z2 = .inl ()) ?_ ?_
  ·refine RunC.block (RunC.loop (RunL.loopM (x := z2) (K1n_s1 a0 a1) (fun (s : Int) τ Γ => WeakLe τ [(0, (sFc a0)), (1, (sFc a1)), (5, i64 s)] ∧ DeadLe Γ []) ?_ _ _ _ hz_2 ⟨⟨aR, aR, aR, trivial⟩, trivial⟩))
   rintro v1 τ2 Γ2 y2_ ⟨hw2, hd2⟩ h2_ ho2 hr2
   refine RunC.wl (τ' := [(0, (sFc a0)), (1, (sFc a1)), (5, i64 v1)]) (Γ' := []) hw2 hd2 ?_
   replace h2_ : K1n_b1 a0 a1 v1 = some y2_ := h2_
   unfold K1n_b1 at h2_
   refine yS<|yS ?_
   rcases oB h2_ with ⟨hc2, h2_⟩ | ⟨hc2, h2_⟩
   ·refine yW<|ym rfl (i64 v1)<|ym rfl (sFc a0)<|yl rfl (i64 (a0.length : Int)) (LOp.len_sl und23 rfl rfl)<|yl rfl (b true) (LOp.eqb (LOp.lss rfl rfl rfl) hc2)<|zN ?_
    refine yT<|RunC.skip<|yS<|RunC.block<|yS ?_
    obtain ⟨e2, he3, h2_⟩ := oS h2_
    obtain ⟨x3, hx4, h2_⟩ := oL h2_
    obtain ⟨e4, he5, h2_⟩ := oS h2_
    obtain ⟨x5, hx6, h2_⟩ := oL h2_
    obtain ⟨r6, hf7, h2_⟩ := oS h2_
    rcases oB h2_ with ⟨hc8, h2_⟩ | ⟨hc8, h2_⟩
    ·refine RunC.region_draw (Γ' := []) 12 mixed 
      (tm rfl (sFc a0) <|
      (tm rfl (i64 v1) <|
      (tl rfl (ptr [f32 e2]) (LOp.le (LOp.ix (f := f32) und23 siz26 rfl rfl rfl rfl he3) ALe.ptr) <|
      (tl rfl (f32 e2) (n2 agg26) <|
      (TR.d (r := f64 x3) (fs := []) rfl rfl (TOp.eqr (TOp.widen (src := 26) (dst := 56) ⟨_, pun26⟩ pun56 rfl (OpF.tmp rfl)) (congrArg (f .f64) hx4)) <|
      (tm rfl (sFc a1) <|
      (tm rfl (i64 v1) <|
      (tl rfl (ptr [f32 e4]) (LOp.le (LOp.ix (f := f32) und23 siz26 rfl rfl rfl rfl he5) ALe.ptr) <|
      (tl rfl (f32 e4) (n2 agg26) <|
      (TR.d (r := f64 x5) (fs := []) rfl rfl (TOp.eqr (TOp.widen (src := 26) (dst := 56) ⟨_, pun26⟩ pun56 rfl (OpF.tmp rfl)) (congrArg (f .f64) hx6)) <|
      (TR.d (r := b true) (fs := []) rfl rfl (TOp.eqb (yc ent91 rfl rfl (bP bN0) (K1m_ok x3 x5 r6 hf7)) hc8) <|
      (tl rfl (b false) (LOp.eqb (LOp.not rfl rfl) rfl) <|
      TR.nil)))))))))))) rfl (by kernel_rfl) rfl fills_nil rfl ?_
     iterate 12 refine ROps.dropS ?_
     refine ROps.drop0<|zN ?_
     refine RunC.wl (τ' := [(0, (sFc a0)), (1, (sFc a1)), (5, i64 v1), (28, b false)]) (Γ' := []) ⟨aR, aR, aR, aR, trivial⟩ trivial<|yF<|RunC.skip ?_
     obtain ⟨x7, hx9, h2_⟩ := oL h2_
     refine yW<|ym rfl (i64 v1)<|yl rfl (i64 x7) (LOp.eqr (LOp.add rfl rfl rfl) (congrArg (ik .i64) hx9))<|ya rfl (i64 x7)<|zN ?_
     cases oI h2_
     exact ⟨_, rfl, ⟨aR, aR, aR, trivial⟩, trivial⟩
    ·refine RunC.region_draw (Γ' := []) 12 mixed 
      (tm rfl (sFc a0) <|
      (tm rfl (i64 v1) <|
      (tl rfl (ptr [f32 e2]) (LOp.le (LOp.ix (f := f32) und23 siz26 rfl rfl rfl rfl he3) ALe.ptr) <|
      (tl rfl (f32 e2) (n2 agg26) <|
      (TR.d (r := f64 x3) (fs := []) rfl rfl (TOp.eqr (TOp.widen (src := 26) (dst := 56) ⟨_, pun26⟩ pun56 rfl (OpF.tmp rfl)) (congrArg (f .f64) hx4)) <|
      (tm rfl (sFc a1) <|
      (tm rfl (i64 v1) <|
      (tl rfl (ptr [f32 e4]) (LOp.le (LOp.ix (f := f32) und23 siz26 rfl rfl rfl rfl he5) ALe.ptr) <|
      (tl rfl (f32 e4) (n2 agg26) <|
      (TR.d (r := f64 x5) (fs := []) rfl rfl (TOp.eqr (TOp.widen (src := 26) (dst := 56) ⟨_, pun26⟩ pun56 rfl (OpF.tmp rfl)) (congrArg (f .f64) hx6)) <|
      (TR.d (r := b false) (fs := []) rfl rfl (TOp.eqb (yc ent91 rfl rfl (bP bN0) (K1m_ok x3 x5 r6 hf7)) hc8) <|
      (tl rfl (b true) (LOp.eqb (LOp.not rfl rfl) rfl) <|
      TR.nil)))))))))))) rfl (by kernel_rfl) rfl fills_nil rfl ?_
     iterate 12 refine ROps.dropS ?_
     refine ROps.drop0<|zN ?_
     refine RunC.wl (τ' := [(0, (sFc a0)), (1, (sFc a1)), (5, i64 v1), (28, b true)]) (Γ' := []) ⟨aR, aR, aR, aR, trivial⟩ trivial<|yT<|zQ<|ya rfl (b false)<|zN ?_
     refine RunC.ret ?_
     cases oI h2_
     have hx3_ := hr2 _ rfl
     subst hx3_
     have hq := oI h
     subst q0
     exact bR rfl
   ·refine yW<|ym rfl (i64 v1)<|ym rfl (sFc a0)<|yl rfl (i64 (a0.length : Int)) (LOp.len_sl und23 rfl rfl)<|yl rfl (b false) (LOp.eqb (LOp.lss rfl rfl rfl) hc2)<|zN ?_
    refine yF<|RunC.exit ?_
    cases oI h2_
    have hx := ho2 _ rfl
    exact ⟨trivial, trivial, hx⟩
  ·rintro τ4 Γ4 ⟨hw4, hd4, rfl⟩
   refine RunC.wl hw4 hd4 ?_
   replace h : K1n_k1 = some q0 := h
   unfold K1n_k1 at h
   refine zQ<|ya rfl (b true)<|zN ?_
   refine RunC.ret ?_
   have hq := oI h
   subst q0
   exact bR rfl
def K1o_b1 (a0 : List Int) (a1 : List Int) (v1 : Int) : Option (LR (Int) (Unit) (Bool)) :=
 bsel (decide (v1 < (a0.length : Int))) (
  obind (at? a0 v1) fun (e2 : Int) =>
  obind (at? a1 v1) fun (e3 : Int) =>
  bsel (!decide (e2 = e3)) (
   some (LR.ret false)) (
   olet (IntKind.i64.wrap (v1 + 1)) fun (x4 : Int) =>
   some (LR.next x4))) (
  some (LR.out ()))
def K1o_s1 (a0 : List Int) (a1 : List Int) : (Int) → Option (LR (Int) (Unit) (Bool)) := fun s => K1o_b1 a0 a1 s
def K1o_k1  : Option (Bool) :=
 some true
def K1o (a0 : List Int) (a1 : List Int) : Option (Bool) :=
 bsel (!decide ((a0.length : Int) = (a1.length : Int))) (
  some false) (
  obind (loopM (K1o_s1 a0 a1) 0) fun z => osum z (fun _ => K1o_k1) (fun r => some r))
theorem K1o_ok (a0 : List Int) (a1 : List Int) (q0 : Bool) (h : K1o a0 a1 = some q0) : Ev Try.prog 92 [sl a0.length (a0.map i64), sl a1.length (a1.map i64)] [] (b q0) [] := by
 refine yE Try.func92 0 53 0 [(0, sl a0.length (a0.map i64)), (1, sl a1.length (a1.map i64))] [] rfl ?_
 unfold K1o at h
 refine zQ<|ya rfl (b false)<|zN ?_
 refine yS<|yS ?_
 rcases oB h with ⟨hc1, h⟩ | ⟨hc1, h⟩
 ·refine yW<|ym rfl (sl a0.length (a0.map i64))<|yl rfl (i64 (a0.length : Int)) (LOp.len_sl und22 rfl rfl)<|ym rfl (sl a1.length (a1.map i64))<|yl rfl (i64 (a1.length : Int)) (LOp.len_sl und22 rfl rfl)<|yl rfl (b true) (LOp.eqb (LOp.neq rfl rfl rfl) hc1)<|zN ?_
  refine yT<|zQ<|ya rfl (b false)<|zN ?_
  refine RunC.ret ?_
  have hq := oI h
  subst q0
  exact bR rfl
 ·refine yW<|ym rfl (sl a0.length (a0.map i64))<|yl rfl (i64 (a0.length : Int)) (LOp.len_sl und22 rfl rfl)<|ym rfl (sl a1.length (a1.map i64))<|yl rfl (i64 (a1.length : Int)) (LOp.len_sl und22 rfl rfl)<|yl rfl (b false) (LOp.eqb (LOp.neq rfl rfl rfl) hc1)<|zN ?_
  refine yF<|RunC.skip<|yS<|zQ<|ya rfl (i64 0)<|zN ?_
  obtain ⟨z2, hz_2, h⟩ := oS h
  refine RunC.cutN (fun τ Γ => WeakLe τ [] ∧ DeadLe Γ [] ∧ z2 = .inl ()) ?_ ?_
  ·refine RunC.block (RunC.loop (RunL.loopM (x := z2) (K1o_s1 a0 a1) (fun (s : Int) τ Γ => WeakLe τ [(0, sl a0.length (a0.map i64)), (1, sl a1.length (a1.map i64)), (5, i64 s)] ∧ DeadLe Γ []) ?_ _ _ _ hz_2 ⟨⟨aR, aR, aR, trivial⟩, trivial⟩))
   rintro v1 τ2 Γ2 y2_ ⟨hw2, hd2⟩ h2_ ho2 hr2
   refine RunC.wl (τ' := [(0, sl a0.length (a0.map i64)), (1, sl a1.length (a1.map i64)), (5, i64 v1)]) (Γ' := []) hw2 hd2 ?_
   replace h2_ : K1o_b1 a0 a1 v1 = some y2_ := h2_
   unfold K1o_b1 at h2_
   refine yS<|yS ?_
   rcases oB h2_ with ⟨hc2, h2_⟩ | ⟨hc2, h2_⟩
   ·refine yW<|ym rfl (i64 v1)<|ym rfl (sl a0.length (a0.map i64))<|yl rfl (i64 (a0.length : Int)) (LOp.len_sl und22 rfl rfl)<|yl rfl (b true) (LOp.eqb (LOp.lss rfl rfl rfl) hc2)<|zN ?_
    refine yT<|RunC.skip<|yS<|RunC.block<|yS ?_
    obtain ⟨e2, he3, h2_⟩ := oS h2_
    obtain ⟨e3, he4, h2_⟩ := oS h2_
    rcases oB h2_ with ⟨hc5, h2_⟩ | ⟨hc5, h2_⟩
    ·refine RunC.region_draw (Γ' := []) 9 mixed 
      (tm rfl (sl a0.length (a0.map i64)) <|
      (tm rfl (i64 v1) <|
      (tl rfl (ptr [i64 e2]) (LOp.le (LOp.ix (f := i64) und22 siz2 rfl rfl rfl rfl he3) ALe.ptr) <|
      (tl rfl (i64 e2) (n2 agg2) <|
      (tm rfl (sl a1.length (a1.map i64)) <|
      (tm rfl (i64 v1) <|
      (tl rfl (ptr [i64 e3]) (LOp.le (LOp.ix (f := i64) und22 siz2 rfl rfl rfl rfl he4) ALe.ptr) <|
      (tl rfl (i64 e3) (n2 agg2) <|
      (tl rfl (b true) (LOp.eqb (LOp.neq rfl rfl rfl) hc5) <|
      TR.nil))))))))) rfl (by kernel_rfl) rfl fills_nil rfl ?_
     iterate 9 refine ROps.dropS ?_
     refine ROps.drop0<|zN ?_
     refine yT<|zQ<|ya rfl (b false)<|zN ?_
     refine RunC.ret ?_
     cases oI h2_
     have hx3_ := hr2 _ rfl
     subst hx3_
     have hq := oI h
     subst q0
     exact bR rfl
    ·refine RunC.region_draw (Γ' := []) 9 mixed 
      (tm rfl (sl a0.length (a0.map i64)) <|
      (tm rfl (i64 v1) <|
      (tl rfl (ptr [i64 e2]) (LOp.le (LOp.ix (f := i64) und22 siz2 rfl rfl rfl rfl he3) ALe.ptr) <|
      (tl rfl (i64 e2) (n2 agg2) <|
      (tm rfl (sl a1.length (a1.map i64)) <|
      (tm rfl (i64 v1) <|
      (tl rfl (ptr [i64 e3]) (LOp.le (LOp.ix (f := i64) und22 siz2 rfl rfl rfl rfl he4) ALe.ptr) <|
      (tl rfl (i64 e3) (n2 agg2) <|
      (tl rfl (b false) (LOp.eqb (LOp.neq rfl rfl rfl) hc5) <|
      TR.nil))))))))) rfl (by kernel_rfl) rfl fills_nil rfl ?_
     iterate 9 refine ROps.dropS ?_
     refine ROps.drop0<|zN ?_
     refine yF<|RunC.skip<|RunC.wl (τ' := [(0, sl a0.length (a0.map i64)), (1, sl a1.length (a1.map i64)), (5, i64 v1)]) (Γ' := []) ⟨aR, aR, aR, trivial⟩ trivial ?_
     obtain ⟨x4, hx6, h2_⟩ := oL h2_
     refine yW<|ym rfl (i64 v1)<|yl rfl (i64 x4) (LOp.eqr (LOp.add rfl rfl rfl) (congrArg (ik .i64) hx6))<|ya rfl (i64 x4)<|zN ?_
     cases oI h2_
     exact ⟨_, rfl, ⟨aR, aR, aR, trivial⟩, trivial⟩
   ·refine yW<|ym rfl (i64 v1)<|ym rfl (sl a0.length (a0.map i64))<|yl rfl (i64 (a0.length : Int)) (LOp.len_sl und22 rfl rfl)<|yl rfl (b false) (LOp.eqb (LOp.lss rfl rfl rfl) hc2)<|zN ?_
    refine yF<|RunC.exit ?_
    cases oI h2_
    have hx := ho2 _ rfl
    exact ⟨trivial, trivial, hx⟩
  ·rintro τ4 Γ4 ⟨hw4, hd4, rfl⟩
   refine RunC.wl hw4 hd4 ?_
   replace h : K1o_k1 = some q0 := h
   unfold K1o_k1 at h
   refine zQ<|ya rfl (b true)<|zN ?_
   refine RunC.ret ?_
   have hq := oI h
   subst q0
   exact bR rfl
def K1p (a0 : Int) (a1 : List Int) (a2 : List Int) (a3 : List F) (a4 : Int) (a5 : List Int) (a6 : List Int) (a7 : List F) : Option (Bool) :=
 bsel (!decide (a0 = a4)) (
  some false) (
  obind (K1o a1 a5) fun (r1 : Bool) =>
  bsel r1 (
   obind (K1o a2 a6) fun (r2 : Bool) =>
   bsel r2 (
    obind (K1n a3 a7) fun (r3 : Bool) =>
    bsel r3 (
     some true) (
     some false)) (
    some false)) (
   some false))
theorem K1p_ok (a0 : Int) (a1 : List Int) (a2 : List Int) (a3 : List F) (a4 : Int) (a5 : List Int) (a6 : List Int) (a7 : List F) (q0 : Bool) (h : K1p a0 a1 a2 a3 a4 a5 a6 a7 = some q0) : Ev Try.prog 14 [agg [i64 a0, sl a1.length (a1.map i64), sl a2.length (a2.map i64), (sFc a3)], agg [i64 a4, sl a5.length (a5.map i64), sl a6.length (a6.map i64), (sFc a7)]] [] (b q0) [] := by
 refine yE Try.func14 0 57 0 ([(0, agg [i64 a0, sl a1.length (a1.map i64), sl a2.length (a2.map i64), (sFc a3)]), (1, agg [i64 a4, sl a5.length (a5.map i64), sl a6.length (a6.map i64), (sFc a7)])]) [] rfl ?_
 unfold K1p at h
 refine zQ<|yd rfl (ptr [i64 a0, sl a1.length (a1.map i64), sl a2.length (a2.map i64), (sFc a3)]) (TOp.box_s rfl rfl rfl)<|yd rfl (ptr [i64 a4, sl a5.length (a5.map i64), sl a6.length (a6.map i64), (sFc a7)]) (TOp.box_s rfl rfl rfl)<|ya rfl (b false)<|zN ?_
 refine yS<|yS ?_
 rcases oB h with ⟨hc1, h⟩ | ⟨hc1, h⟩
 ·refine yW<|yl rfl (ptr [i64 a0, sl a1.length (a1.map i64), sl a2.length (a2.map i64), (sFc a3)]) (LOp.fap und30 rfl siz2 rfl rfl rfl)<|yl rfl (i64 a0) (n2 agg2)<|yl rfl (ptr [i64 a4, sl a5.length (a5.map i64), sl a6.length (a6.map i64), (sFc a7)]) (LOp.fap und30 rfl siz2 rfl rfl rfl)<|yl rfl (i64 a4) (n2 agg2)<|yl rfl (b true) (LOp.eqb (LOp.neq rfl rfl rfl) hc1)<|zN ?_
  refine yT<|zQ<|ya rfl (b false)<|zN ?_
  refine RunC.ret ?_
  have hq := oI h
  subst q0
  exact bR rfl
 ·refine yW<|yl rfl (ptr [i64 a0, sl a1.length (a1.map i64), sl a2.length (a2.map i64), (sFc a3)]) (LOp.fap und30 rfl siz2 rfl rfl rfl)<|yl rfl (i64 a0) (n2 agg2)<|yl rfl (ptr [i64 a4, sl a5.length (a5.map i64), sl a6.length (a6.map i64), (sFc a7)]) (LOp.fap und30 rfl siz2 rfl rfl rfl)<|yl rfl (i64 a4) (n2 agg2)<|yl rfl (b false) (LOp.eqb (LOp.neq rfl rfl rfl) hc1)<|zN ?_
  refine yF<|RunC.skip<|yS<|yS ?_
  obtain ⟨r1, hf2, h⟩ := oS h
  rcases oB h with ⟨hc3, h⟩ | ⟨hc3, h⟩
  ·refine yW<|yl rfl (ptr [sl a1.length (a1.map i64), sl a2.length (a2.map i64), (sFc a3)]) (LOp.fap und30 rfl siz22 rfl rfl rfl)<|yl rfl (sl a1.length (a1.map i64)) (n2 agg22)<|yl rfl (ptr [sl a5.length (a5.map i64), sl a6.length (a6.map i64), (sFc a7)]) (LOp.fap und30 rfl siz22 rfl rfl rfl)<|yl rfl (sl a5.length (a5.map i64)) (n2 agg22)<|yd rfl (b true) (TOp.eqb (yc ent92 rfl rfl (bS (bS bN)) (K1o_ok a1 a5 r1 hf2)) hc3)<|yl rfl (b false) n1<|zN ?_
   refine RunC.wl (τ' := [(2, ptr [i64 a0, sl a1.length (a1.map i64), sl a2.length (a2.map i64), (sFc a3)]), (3, ptr [i64 a4, sl a5.length (a5.map i64), sl a6.length (a6.map i64), (sFc a7)]), (15, b false)]) (Γ' := []) ⟨aR, aR, aR, trivial⟩ trivial<|yF<|RunC.skip<|yS<|yS ?_
   obtain ⟨r2, hf4, h⟩ := oS h
   rcases oB h with ⟨hc5, h⟩ | ⟨hc5, h⟩
   ·refine yW<|yl rfl (ptr [sl a2.length (a2.map i64), (sFc a3)]) (LOp.fap und30 rfl siz22 rfl rfl rfl)<|yl rfl (sl a2.length (a2.map i64)) (n2 agg22)<|yl rfl (ptr [sl a6.length (a6.map i64), (sFc a7)]) (LOp.fap und30 rfl siz22 rfl rfl rfl)<|yl rfl (sl a6.length (a6.map i64)) (n2 agg22)<|yd rfl (b true) (TOp.eqb (yc ent92 rfl rfl (bS (bS bN)) (K1o_ok a2 a6 r2 hf4)) hc5)<|yl rfl (b false) n1<|zN ?_
    refine yF<|RunC.skip<|yS<|yS ?_
    obtain ⟨r3, hf6, h⟩ := oS h
    rcases oB h with ⟨hc7, h⟩ | ⟨hc7, h⟩
    ·refine yW<|yl rfl (ptr [(sFc a3)]) (LOp.fap und30 rfl siz23 rfl rfl rfl)<|yl rfl (sFc a3) (n2 agg23)<|yl rfl (ptr [(sFc a7)]) (LOp.fap und30 rfl siz23 rfl rfl rfl)<|yl rfl (sFc a7) (n2 agg23)<|yd rfl (b true) (TOp.eqb (yc ent13 rfl rfl (bS (bS bN)) (K1n_ok a3 a7 r3 hf6)) hc7)<|yl rfl (b false) n1<|zN ?_
     refine RunC.wl (τ' := [(27, b false)]) (Γ' := []) ⟨aR, trivial⟩ trivial<|yF<|RunC.skip<|zQ<|ya rfl (b true)<|zN ?_
     refine RunC.ret ?_
     have hq := oI h
     subst q0
     exact bR rfl
    ·refine yW<|yl rfl (ptr [(sFc a3)]) (LOp.fap und30 rfl siz23 rfl rfl rfl)<|yl rfl (sFc a3) (n2 agg23)<|yl rfl (ptr [(sFc a7)]) (LOp.fap und30 rfl siz23 rfl rfl rfl)<|yl rfl (sFc a7) (n2 agg23)<|yd rfl (b false) (TOp.eqb (yc ent13 rfl rfl (bS (bS bN)) (K1n_ok a3 a7 r3 hf6)) hc7)<|yl rfl (b true) n0<|zN ?_
     refine RunC.wl (τ' := [(27, b true)]) (Γ' := []) ⟨aR, trivial⟩ trivial<|yT<|zQ<|ya rfl (b false)<|zN ?_
     refine RunC.ret ?_
     have hq := oI h
     subst q0
     exact bR rfl
   ·refine yW<|yl rfl (ptr [sl a2.length (a2.map i64), (sFc a3)]) (LOp.fap und30 rfl siz22 rfl rfl rfl)<|yl rfl (sl a2.length (a2.map i64)) (n2 agg22)<|yl rfl (ptr [sl a6.length (a6.map i64), (sFc a7)]) (LOp.fap und30 rfl siz22 rfl rfl rfl)<|yl rfl (sl a6.length (a6.map i64)) (n2 agg22)<|yd rfl (b false) (TOp.eqb (yc ent92 rfl rfl (bS (bS bN)) (K1o_ok a2 a6 r2 hf4)) hc5)<|yl rfl (b true) n0<|zN ?_
    refine yT<|zQ<|ya rfl (b false)<|zN ?_
    refine RunC.ret ?_
    have hq := oI h
    subst q0
    exact bR rfl
  ·refine yW<|yl rfl (ptr [sl a1.length (a1.map i64), sl a2.length (a2.map i64), (sFc a3)]) (LOp.fap und30 rfl siz22 rfl rfl rfl)<|yl rfl (sl a1.length (a1.map i64)) (n2 agg22)<|yl rfl (ptr [sl a5.length (a5.map i64), sl a6.length (a6.map i64), (sFc a7)]) (LOp.fap und30 rfl siz22 rfl rfl rfl)<|yl rfl (sl a5.length (a5.map i64)) (n2 agg22)<|yd rfl (b false) (TOp.eqb (yc ent92 rfl rfl (bS (bS bN)) (K1o_ok a1 a5 r1 hf2)) hc3)<|yl rfl (b true) n0<|zN ?_
   refine RunC.wl (τ' := [(2, ptr [i64 a0, sl a1.length (a1.map i64), sl a2.length (a2.map i64), (sFc a3)]), (3, ptr [i64 a4, sl a5.length (a5.map i64), sl a6.length (a6.map i64), (sFc a7)]), (15, b true)]) (Γ' := []) ⟨aR, aR, aR, trivial⟩ trivial<|yT<|zQ<|ya rfl (b false)<|zN ?_
   refine RunC.ret ?_
   have hq := oI h
   subst q0
   exact bR rfl
def K1q_b1 (a1 : List Int) (L1 : List Int) (v3 : Int) (v4 : Int) : Option (LR ((List Int) × Int × Int) ((List Int) × Int) (Int × (List Int))) :=
 bsel (decide (v4 < ((a1.length : Nat) : Int))) (
  obind (setAt? L1 v4 v3) fun (L5 : List Int) =>
  olet (IntKind.i64.wrap (v3 + 1)) fun (x6 : Int) =>
  olet (IntKind.i64.wrap (v4 + 1)) fun (x7 : Int) =>
  some (LR.next (L5, x6, x7))) (
  some (LR.out (L1, v3)))
def K1q_s1 (a1 : List Int) : ((List Int) × Int × Int) → Option (LR ((List Int) × Int × Int) ((List Int) × Int) (Int × (List Int))) := fun s => K1q_b1 a1 s.1 s.2.1 s.2.2
def K1q_k1 (L8 : List Int) (v10 : Int) : Option (Int × (List Int)) :=
 some (v10, L8)
def K1q (a0 : Int) (a1 : List Int) : Option (Int × (List Int)) :=
 obind (loopM (K1q_s1 a1) (a1, a0, 0)) fun z => osum z (fun e => K1q_k1 e.1 e.2) (fun r => some r)
theorem K1q_ok (a0 : Int) (a1 : List Int) (q0 : Int) (q1 : List Int) (h : K1q a0 a1 = some (q0, q1)) : Ev Try.prog 93 [oref 0 0 0 a1.length, i64 a0] [oJ 0 a1] (i64 q0) [oJ 0 q1] := by
 refine Ev.start Try.func93 rfl rfl 0 (τ := [(0, oref 0 0 0 a1.length), (1, i64 a0)]) rfl (Γ' := [oJ 0 a1]) rfl (n := 38) rfl (g := 1) rfl (by decide) ?_
 unfold K1q at h
 refine zQ<|ya rfl (i64 0)<|zN ?_
 refine yS<|zQ<|ya rfl (i64 0)<|zN ?_
 obtain ⟨z2, hz_2, h⟩ := oS h
 refine RunC.cutN (fun τ Γ => ∃ (L8 : List Int) (v10 : Int), L8.length = a1.length ∧ WeakLe τ [(1, i64 v10)] ∧ DeadLe Γ [oJ 0 L8] ∧ z2 = .inl (L8, v10)) ?_ ?_
 ·refine RunC.block (RunC.loop (RunL.loopM (x := z2) (K1q_s1 a1) (fun (s : (List Int) × Int × Int) τ Γ => s.1.length = a1.length ∧ WeakLe τ [(0, oref 0 0 0 a1.length), (1, i64 s.2.1), (5, i64 s.2.2)] ∧ DeadLe Γ [⟨0, some (s.1.map i64)⟩]) ?_ _ _ _ hz_2 ⟨rfl, ⟨aR, aR, aR, trivial⟩, ⟨⟨rfl, .inr rfl⟩, trivial⟩⟩))
  rintro ⟨L1, v3, v4⟩ τ2 Γ2 y2_ ⟨hl2, hw2, hd2⟩ h2_ ho2 hr2
  refine RunC.wl (τ' := [(0, oref 0 0 0 a1.length), (1, i64 v3), (5, i64 v4)]) (Γ' := [oJ 0 L1]) hw2 hd2 ?_
  replace hl2 : L1.length = a1.length := hl2
  replace h2_ : K1q_b1 a1 L1 v3 v4 = some y2_ := h2_
  unfold K1q_b1 at h2_
  refine yS<|yS ?_
  rcases oB h2_ with ⟨hc1, h2_⟩ | ⟨hc1, h2_⟩
  ·refine yW<|ym rfl (i64 v4)<|ym rfl (oref 0 0 0 a1.length)<|yl rfl (i64 ((a1.length : Nat) : Int)) (LOp.len_oref und22 rfl rfl)<|yl rfl (b true) (LOp.eqb (LOp.lss rfl rfl rfl) hc1)<|zN ?_
   refine yT<|RunC.skip<|yS<|RunC.block<|yS ?_
   obtain ⟨L5, he2, h2_⟩ := oS h2_
   refine yW<|ym rfl (oref 0 0 0 a1.length)<|ym rfl (i64 v4)<|ym rfl (i64 v3)<|yd rfl (optr 0 0 v4.toNat) (TOp.ixo und22 siz2 rfl rfl rfl (set_in he2 hl2) rfl)<|ROps.st (f := i64) (i := v4) (Γ' := [oJ 0 L5]) rfl siz2 rfl rfl rfl aR rfl rfl rfl he2 rfl<|zN ?_
   obtain ⟨x6, hx3, h2_⟩ := oL h2_
   refine yW<|ym rfl (i64 v3)<|yl rfl (i64 x6) (LOp.eqr (LOp.add rfl rfl rfl) (congrArg (ik .i64) hx3))<|ya rfl (i64 x6)<|zN ?_
   obtain ⟨x7, hx4, h2_⟩ := oL h2_
   refine yW<|ym rfl (i64 v4)<|yl rfl (i64 x7) (LOp.eqr (LOp.add rfl rfl rfl) (congrArg (ik .i64) hx4))<|ya rfl (i64 x7)<|zN ?_
   cases oI h2_
   exact ⟨_, rfl, ((setAt?_len he2).trans hl2), ⟨aR, aR, aR, trivial⟩, ⟨⟨rfl, .inr rfl⟩, trivial⟩⟩
  ·refine yW<|ym rfl (i64 v4)<|ym rfl (oref 0 0 0 a1.length)<|yl rfl (i64 ((a1.length : Nat) : Int)) (LOp.len_oref und22 rfl rfl)<|yl rfl (b false) (LOp.eqb (LOp.lss rfl rfl rfl) hc1)<|zN ?_
   refine yF<|RunC.exit ?_
   cases oI h2_
   have hx := ho2 _ rfl
   exact ⟨L1, v3, hl2, ⟨aR, trivial⟩, ⟨⟨rfl, .inr rfl⟩, trivial⟩, hx⟩
 ·rintro τ3 Γ3 ⟨L8, v10, hl9, hw3, hd3, rfl⟩
  refine RunC.wl hw3 hd3 ?_
  replace h : K1q_k1 L8 v10 = some (q0, q1) := h
  unfold K1q_k1 at h
  refine zQ<|ym rfl (i64 v10)<|ya rfl (i64 v10)<|zN ?_
  refine RunC.ret ?_
  have hq := oI h
  obtain ⟨hq0, hq⟩ := Prod.mk.inj hq
  subst q0
  subst q1
  exact yB (i64 v10) [(0, 0)] (Res.one rfl (RV.tmp rfl)) (SelL.arr (f := i64) (fun _ => rfl) rfl trivial)
def K1r_b1 (a1 : List F) (L1 : List F) (v3 : Int) (v4 : Int) : Option (LR ((List F) × Int × Int) ((List F) × Int) (Int × (List F))) :=
 bsel (decide (v4 < ((a1.length : Nat) : Int))) (
  olet (fint .f32 v3) fun (x5 : F) =>
  obind (setAt? L1 v4 x5) fun (L6 : List F) =>
  olet (IntKind.i64.wrap (v3 + 1)) fun (x7 : Int) =>
  olet (IntKind.i64.wrap (v4 + 1)) fun (x8 : Int) =>
  some (LR.next (L6, x7, x8))) (
  some (LR.out (L1, v3)))
def K1r_s1 (a1 : List F) : ((List F) × Int × Int) → Option (LR ((List F) × Int × Int) ((List F) × Int) (Int × (List F))) := fun s => K1r_b1 a1 s.1 s.2.1 s.2.2
def K1r_k1 (L9 : List F) (v11 : Int) : Option (Int × (List F)) :=
 some (v11, L9)
def K1r (a0 : Int) (a1 : List F) : Option (Int × (List F)) :=
 obind (loopM (K1r_s1 a1) (a1, a0, 0)) fun z => osum z (fun e => K1r_k1 e.1 e.2) (fun r => some r)
theorem K1r_ok (a0 : Int) (a1 : List F) (q0 : Int) (q1 : List F) (h : K1r a0 a1 = some (q0, q1)) : Ev Try.prog 16 [oref 0 0 0 a1.length, i64 a0] [oF 0 a1] (i64 q0) [oF 0 q1] := by
 refine Ev.start Try.func16 rfl rfl 0 (τ := [(0, oref 0 0 0 a1.length), (1, i64 a0)]) rfl (Γ' := [oF 0 a1]) rfl (n := 40) rfl (g := 1) rfl (by decide) ?_
 unfold K1r at h
 refine zQ<|ya rfl (i64 0)<|zN ?_
 refine yS<|zQ<|ya rfl (i64 0)<|zN ?_
 obtain ⟨z2, hz_2, h⟩ := oS h
 refine RunC.cutN (fun τ Γ => ∃ (L9 : List F) (v11 : Int), L9.length = a1.length ∧ WeakLe τ [(1, i64 v11)] ∧ DeadLe Γ [oF 0 L9] ∧ z2 = .inl (L9, v11)) ?_ ?_
 ·refine RunC.block (RunC.loop (RunL.loopM (x := z2) (K1r_s1 a1) (fun (s : (List F) × Int × Int) τ Γ => s.1.length = a1.length ∧ WeakLe τ [(0, oref 0 0 0 a1.length), (1, i64 s.2.1), (5, i64 s.2.2)] ∧ DeadLe Γ [⟨0, some (s.1.map f32)⟩]) ?_ _ _ _ hz_2 ⟨rfl, ⟨aR, aR, aR, trivial⟩, ⟨⟨rfl, .inr rfl⟩, trivial⟩⟩))
  rintro ⟨L1, v3, v4⟩ τ2 Γ2 y2_ ⟨hl2, hw2, hd2⟩ h2_ ho2 hr2
  refine RunC.wl (τ' := [(0, oref 0 0 0 a1.length), (1, i64 v3), (5, i64 v4)]) (Γ' := [oF 0 L1]) hw2 hd2 ?_
  replace hl2 : L1.length = a1.length := hl2
  replace h2_ : K1r_b1 a1 L1 v3 v4 = some y2_ := h2_
  unfold K1r_b1 at h2_
  refine yS<|yS ?_
  rcases oB h2_ with ⟨hc1, h2_⟩ | ⟨hc1, h2_⟩
  ·refine yW<|ym rfl (i64 v4)<|ym rfl (oref 0 0 0 a1.length)<|yl rfl (i64 ((a1.length : Nat) : Int)) (LOp.len_oref und23 rfl rfl)<|yl rfl (b true) (LOp.eqb (LOp.lss rfl rfl rfl) hc1)<|zN ?_
   refine yT<|RunC.skip<|yS<|RunC.block<|yS ?_
   obtain ⟨x5, hx2, h2_⟩ := oL h2_
   obtain ⟨L6, he3, h2_⟩ := oS h2_
   refine yW<|ym rfl (oref 0 0 0 a1.length)<|ym rfl (i64 v4)<|ym rfl (i64 v3)<|yl rfl (f32 x5) (LOp.eqr (LOp.i2f (src := 3) (dst := 26) ⟨_, pun3⟩ pun26 rfl rfl) (congrArg (f .f32) hx2))<|yd rfl (optr 0 0 v4.toNat) (TOp.ixo und23 siz26 rfl rfl rfl (set_in he3 hl2) rfl)<|ROps.st (f := f32) (i := v4) (Γ' := [oF 0 L6]) rfl siz26 rfl rfl rfl aR rfl rfl rfl he3 rfl<|zN ?_
   obtain ⟨x7, hx4, h2_⟩ := oL h2_
   refine yW<|ym rfl (i64 v3)<|yl rfl (i64 x7) (LOp.eqr (LOp.add rfl rfl rfl) (congrArg (ik .i64) hx4))<|ya rfl (i64 x7)<|zN ?_
   obtain ⟨x8, hx5, h2_⟩ := oL h2_
   refine yW<|ym rfl (i64 v4)<|yl rfl (i64 x8) (LOp.eqr (LOp.add rfl rfl rfl) (congrArg (ik .i64) hx5))<|ya rfl (i64 x8)<|zN ?_
   cases oI h2_
   exact ⟨_, rfl, ((setAt?_len he3).trans hl2), ⟨aR, aR, aR, trivial⟩, ⟨⟨rfl, .inr rfl⟩, trivial⟩⟩
  ·refine yW<|ym rfl (i64 v4)<|ym rfl (oref 0 0 0 a1.length)<|yl rfl (i64 ((a1.length : Nat) : Int)) (LOp.len_oref und23 rfl rfl)<|yl rfl (b false) (LOp.eqb (LOp.lss rfl rfl rfl) hc1)<|zN ?_
   refine yF<|RunC.exit ?_
   cases oI h2_
   have hx := ho2 _ rfl
   exact ⟨L1, v3, hl2, ⟨aR, trivial⟩, ⟨⟨rfl, .inr rfl⟩, trivial⟩, hx⟩
 ·rintro τ3 Γ3 ⟨L9, v11, hl10, hw3, hd3, rfl⟩
  refine RunC.wl hw3 hd3 ?_
  replace h : K1r_k1 L9 v11 = some (q0, q1) := h
  unfold K1r_k1 at h
  refine zQ<|ym rfl (i64 v11)<|ya rfl (i64 v11)<|zN ?_
  refine RunC.ret ?_
  have hq := oI h
  obtain ⟨hq0, hq⟩ := Prod.mk.inj hq
  subst q0
  subst q1
  exact yB (i64 v11) [(0, 0)] (Res.one rfl (RV.tmp rfl)) (SelL.arr (f := f32) (fun _ => rfl) rfl trivial)
def K1s (a0 : Int) (a1 : Int) (a2 : List Int) (a3 : List Int) (a4 : List F) : Option (Int × (List Int) × (List Int) × (List F)) :=
 obind2 (K1q a1 a2) fun (r1 : Int) (r2 : List Int) =>
 need (decide (r2.length = a2.length)) <|
 obind2 (K1q r1 a3) fun (r3 : Int) (r4 : List Int) =>
 need (decide (r4.length = a3.length)) <|
 obind2 (K1r r3 a4) fun (r5 : Int) (r6 : List F) =>
 need (decide (r6.length = a4.length)) <|
 some (r5, r2, r4, r6)
theorem K1s_ok (a0 : Int) (a1 : Int) (a2 : List Int) (a3 : List Int) (a4 : List F) (q0 : Int) (q1 : List Int) (q2 : List Int) (q3 : List F) (h : K1s a0 a1 a2 a3 a4 = some (q0, q1, q2, q3)) : Ev Try.prog 15 [agg [i64 a0, oref 0 0 0 a2.length, oref 1 0 0 a3.length, oref 2 0 0 a4.length], i64 a1] [oJ 0 a2, oJ 0 a3, oF 0 a4] (i64 q0) [oJ 0 q1, oJ 0 q2, oF 0 q3] := by
 refine Ev.start Try.func15 rfl rfl 0 (τ := [(0, agg [i64 a0, oref 0 0 0 a2.length, oref 1 0 0 a3.length, oref 2 0 0 a4.length]), (1, i64 a1)]) rfl (Γ' := [oJ 0 a2, oJ 0 a3, oF 0 a4]) rfl (n := 36) rfl (g := 3) rfl (by decide) ?_
 unfold K1s at h
 refine zQ<|yd rfl (ptr [i64 a0, oref 0 0 0 a2.length, oref 1 0 0 a3.length, oref 2 0 0 a4.length]) (TOp.box_s rfl rfl rfl)<|ya rfl (i64 0)<|zN ?_
 refine yS ?_
 obtain ⟨r1, r2, hf1, h⟩ := obind2_some h
 obtain ⟨hn2, h⟩ := need_some h
 refine yW<|yl rfl (ptr [oref 0 0 0 a2.length, oref 1 0 0 a3.length, oref 2 0 0 a4.length]) (LOp.fap und30 rfl siz22 rfl rfl rfl)<|yl rfl (oref 0 0 0 a2.length) (n2 agg22)<|ym rfl (i64 a1)<|ROps.callO (A := [oref 0 0 0 a2.length, i64 a1]) (args := [oref 0 0 0 a2.length, i64 a1]) (Γc := [oJ 0 a2]) (Γc' := [oJ 0 r2]) (r' := i64 r1) (Γ' := [oJ 0 r2, oJ 0 a3, oF 0 a4]) [(0, 0)] [] rfl (CallAs.func ent93 rfl rfl) rfl rfl (SelOk.of (ndB_ok rfl) (SelL.arr0 (f := i64) (fun _ => rfl) rfl trivial)) (live_of ⟨⟨_, _, rfl⟩, trivial⟩) (by simp [ren, rens, sigma, rens_f32, rens_f64, rens_i64, rens_ik, rens_str, rens_cp]) rfl (K1q_ok a1 a2 r1 r2 hf1) rfl (news_of trivial) (ndB_ok rfl) (by simp [ren, rens, sigma, of_decide_eq_true hn2]) (by simp [backOb, sigma, ren, rens, rens_f32, rens_f64, rens_i64, rens_ik, rens_str, rens_cp] <;> omega)<|ya rfl (i64 r1)<|zN ?_
 refine yS ?_
 obtain ⟨r3, r4, hf3, h⟩ := obind2_some h
 obtain ⟨hn4, h⟩ := need_some h
 refine yW<|yl rfl (ptr [oref 1 0 0 a3.length, oref 2 0 0 a4.length]) (LOp.fap und30 rfl siz22 rfl rfl rfl)<|yl rfl (oref 1 0 0 a3.length) (n2 agg22)<|ym rfl (i64 r1)<|ROps.callO (A := [oref 1 0 0 a3.length, i64 r1]) (args := [oref 0 0 0 a3.length, i64 r1]) (Γc := [oJ 0 a3]) (Γc' := [oJ 0 r4]) (r' := i64 r3) (Γ' := [oJ 0 r2, oJ 0 r4, oF 0 a4]) [(1, 0)] [] rfl (CallAs.func ent93 rfl rfl) rfl rfl (SelOk.of (ndB_ok rfl) (SelL.arr0 (f := i64) (fun _ => rfl) rfl trivial)) (live_of ⟨⟨_, _, rfl⟩, trivial⟩) (by simp [ren, rens, sigma, rens_f32, rens_f64, rens_i64, rens_ik, rens_str, rens_cp]) rfl (K1q_ok r1 a3 r3 r4 hf3) rfl (news_of trivial) (ndB_ok rfl) (by simp [ren, rens, sigma, of_decide_eq_true hn4]) (by simp [backOb, sigma, ren, rens, rens_f32, rens_f64, rens_i64, rens_ik, rens_str, rens_cp] <;> omega)<|ya rfl (i64 r3)<|zN ?_
 refine yS ?_
 obtain ⟨r5, r6, hf5, h⟩ := obind2_some h
 obtain ⟨hn6, h⟩ := need_some h
 refine yW<|yl rfl (ptr [oref 2 0 0 a4.length]) (LOp.fap und30 rfl siz23 rfl rfl rfl)<|yl rfl (oref 2 0 0 a4.length) (n2 agg23)<|ym rfl (i64 r3)<|ROps.callO (A := [oref 2 0 0 a4.length, i64 r3]) (args := [oref 0 0 0 a4.length, i64 r3]) (Γc := [oF 0 a4]) (Γc' := [oF 0 r6]) (r' := i64 r5) (Γ' := [oJ 0 r2, oJ 0 r4, oF 0 r6]) [(2, 0)] [] rfl (CallAs.func ent16 rfl rfl) rfl rfl (SelOk.of (show List.Nodup [2] from by decide) (sA rfl trivial)) (live_of ⟨⟨_, _, rfl⟩, trivial⟩) (by simp [ren, rens, sigma, rens_f32, rens_f64, rens_i64, rens_ik, rens_str, rens_cp]) rfl (K1r_ok r3 a4 r5 r6 hf5) rfl (news_of trivial) (show List.Nodup [2] from by decide) (by simp [ren, rens, sigma, of_decide_eq_true hn6]) (by simp [backOb, sigma, ren, rens, rens_f32, rens_f64, rens_i64, rens_ik, rens_str, rens_cp] <;> omega)<|ya rfl (i64 r5)<|zN ?_
 refine RunC.wl (τ' := [(1, i64 r5)]) (Γ' := [oJ 0 r2, oJ 0 r4, oF 0 r6]) ⟨aR, trivial⟩ ⟨⟨rfl, .inr rfl⟩, ⟨rfl, .inr rfl⟩, ⟨rfl, .inr rfl⟩, trivial⟩<|zQ<|ym rfl (i64 r5)<|ya rfl (i64 r5)<|zN ?_
 refine RunC.ret ?_
 have hq := oI h
 obtain ⟨hq0, hq⟩ := Prod.mk.inj hq
 obtain ⟨hq1, hq⟩ := Prod.mk.inj hq
 obtain ⟨hq2, hq⟩ := Prod.mk.inj hq
 subst q0
 subst q1
 subst q2
 subst q3
 exact yB (i64 r5) [(0, 0), (1, 0), (2, 0)] (Res.one rfl (RV.tmp rfl)) (SelL.arr (f := i64) (fun _ => rfl) rfl (SelL.arr (f := i64) (fun _ => rfl) rfl (SelL.arr (f := f32) (fun _ => rfl) rfl trivial)))
def K1t_b1 (a0 : List F) (v1 : Int) (v2 : Int) : Option (LR (Int × Int) (Int) (Int)) :=
 bsel (decide (v2 < (a0.length : Int))) (
  obind (at? a0 v2) fun (e3 : F) =>
  olet (fint .f32 v1) fun (x4 : F) =>
  bsel (!feq .f32 e3 x4) (
   some (LR.ret (-1))) (
   olet (IntKind.i64.wrap (v1 + 1)) fun (x5 : Int) =>
   olet (IntKind.i64.wrap (v2 + 1)) fun (x6 : Int) =>
   some (LR.next (x5, x6)))) (
  some (LR.out v1))
def K1t_s1 (a0 : List F) : (Int × Int) → Option (LR (Int × Int) (Int) (Int)) := fun s => K1t_b1 a0 s.1 s.2
def K1t_k1 (v7 : Int) : Option (Int) :=
 some v7
def K1t (a0 : List F) (a1 : Int) : Option (Int) :=
 obind (loopM (K1t_s1 a0) (a1, 0)) fun z => osum z (fun e => K1t_k1 e) (fun r => some r)
theorem K1t_ok (a0 : List F) (a1 : Int) (q0 : Int) (h : K1t a0 a1 = some q0) : Ev Try.prog 17 [(sFc a0), i64 a1] [] (i64 q0) [] := by
 refine yE Try.func17 0 45 0 [(0, (sFc a0)), (1, i64 a1)] [] rfl ?_
 unfold K1t at h
 refine zQ<|ya rfl (i64 0)<|zN ?_
 refine yS<|zQ<|ya rfl (i64 0)<|zN ?_
 obtain ⟨z2, hz_2, h⟩ := oS h
 refine RunC.cutN (fun τ Γ => ∃ (v7 : Int), WeakLe τ [(1, i64 v7)] ∧ DeadLe Γ [] ∧ z2 = .inl v7) ?_ ?_
 ·refine RunC.block (RunC.loop (RunL.loopM (x := z2) (K1t_s1 a0) (fun (s : Int × Int) τ Γ => WeakLe τ [(0, (sFc a0)), (1, i64 s.1), (5, i64 s.2)] ∧ DeadLe Γ []) ?_ _ _ _ hz_2 ⟨⟨aR, aR, aR, trivial⟩, trivial⟩))
  rintro ⟨v1, v2⟩ τ2 Γ2 y2_ ⟨hw2, hd2⟩ h2_ ho2 hr2
  refine RunC.wl (τ' := [(0, (sFc a0)), (1, i64 v1), (5, i64 v2)]) (Γ' := []) hw2 hd2 ?_
  replace h2_ : K1t_b1 a0 v1 v2 = some y2_ := h2_
  unfold K1t_b1 at h2_
  refine yS<|yS ?_
  rcases oB h2_ with ⟨hc1, h2_⟩ | ⟨hc1, h2_⟩
  ·refine yW<|ym rfl (i64 v2)<|ym rfl (sFc a0)<|yl rfl (i64 (a0.length : Int)) (LOp.len_sl und23 rfl rfl)<|yl rfl (b true) (LOp.eqb (LOp.lss rfl rfl rfl) hc1)<|zN ?_
   refine yT<|RunC.skip<|yS<|RunC.block<|yS<|yS ?_
   obtain ⟨e3, he2, h2_⟩ := oS h2_
   obtain ⟨x4, hx3, h2_⟩ := oL h2_
   rcases oB h2_ with ⟨hc4, h2_⟩ | ⟨hc4, h2_⟩
   ·refine yW<|ym rfl (sFc a0)<|ym rfl (i64 v2)<|yl rfl (ptr [f32 e3]) (LOp.le (LOp.ix (f := f32) und23 siz26 rfl rfl rfl rfl he2) ALe.ptr)<|yl rfl (f32 e3) (n2 agg26)<|ym rfl (i64 v1)<|yl rfl (f32 x4) (LOp.eqr (LOp.i2f (src := 3) (dst := 26) ⟨_, pun3⟩ pun26 rfl rfl) (congrArg (f .f32) hx3))<|yl rfl (b true) (LOp.eqb (LOp.fne rfl (OpF.tmp rfl) (OpF.tmp rfl)) hc4)<|zN ?_
    refine yT<|zQ<|ya rfl (i64 (-1))<|zN ?_
    refine RunC.ret ?_
    cases oI h2_
    have hx3_ := hr2 _ rfl
    subst hx3_
    have hq := oI h
    subst q0
    exact bR rfl
   ·refine yW<|ym rfl (sFc a0)<|ym rfl (i64 v2)<|yl rfl (ptr [f32 e3]) (LOp.le (LOp.ix (f := f32) und23 siz26 rfl rfl rfl rfl he2) ALe.ptr)<|yl rfl (f32 e3) (n2 agg26)<|ym rfl (i64 v1)<|yl rfl (f32 x4) (LOp.eqr (LOp.i2f (src := 3) (dst := 26) ⟨_, pun3⟩ pun26 rfl rfl) (congrArg (f .f32) hx3))<|yl rfl (b false) (LOp.eqb (LOp.fne rfl (OpF.tmp rfl) (OpF.tmp rfl)) hc4)<|zN ?_
    refine yF<|RunC.skip ?_
    obtain ⟨x5, hx5, h2_⟩ := oL h2_
    refine yW<|ym rfl (i64 v1)<|yl rfl (i64 x5) (LOp.eqr (LOp.add rfl rfl rfl) (congrArg (ik .i64) hx5))<|ya rfl (i64 x5)<|zN ?_
    refine RunC.wl (τ' := [(0, (sFc a0)), (1, i64 x5), (5, i64 v2)]) (Γ' := []) ⟨aR, aR, aR, trivial⟩ trivial ?_
    obtain ⟨x6, hx6, h2_⟩ := oL h2_
    refine yW<|ym rfl (i64 v2)<|yl rfl (i64 x6) (LOp.eqr (LOp.add rfl rfl rfl) (congrArg (ik .i64) hx6))<|ya rfl (i64 x6)<|zN ?_
    cases oI h2_
    exact ⟨_, rfl, ⟨aR, aR, aR, trivial⟩, trivial⟩
  ·refine yW<|ym rfl (i64 v2)<|ym rfl (sFc a0)<|yl rfl (i64 (a0.length : Int)) (LOp.len_sl und23 rfl rfl)<|yl rfl (b false) (LOp.eqb (LOp.lss rfl rfl rfl) hc1)<|zN ?_
   refine yF<|RunC.exit ?_
   cases oI h2_
   have hx := ho2 _ rfl
   exact ⟨v1, ⟨aR, trivial⟩, trivial, hx⟩
 ·rintro τ4 Γ4 ⟨v7, hw4, hd4, rfl⟩
  refine RunC.wl hw4 hd4 ?_
  replace h : K1t_k1 v7 = some q0 := h
  unfold K1t_k1 at h
  refine zQ<|ym rfl (i64 v7)<|ya rfl (i64 v7)<|zN ?_
  refine RunC.ret ?_
  have hq := oI h
  subst q0
  exact bR rfl
def K1u (a0 : Int) (a1 : List Int) (a2 : List Int) (a3 : List F) (a4 : List F) (a5 : F) (a6 : F) (a7 : Int) : Option (Bool) :=
 bsel (decide (1048576 < (a4.length : Int))) (
  some true) (
  obind (K02 a0 a1 a2 a3 1048576) fun (r1 : Int) =>
  bsel (decide (r1 < 0)) (
   some true) (
   obind4 (K05 a0 a1 a2 a3) fun (r2 : Int) (r3 : List Int) (r4 : List Int) (r5 : List F) =>
   obind (K04 a4) fun (r6 : List F) =>
   obind3 (K0l r2 r3 r4 r5 r6 a5 a6 a7) fun (r7 : Int) (r8 : Bool) (r9 : List F) =>
   obind4 (K05 a0 a1 a2 a3) fun (r10 : Int) (r11 : List Int) (r12 : List Int) (r13 : List F) =>
   obind (K04 a4) fun (r14 : List F) =>
   obind3 (K1l r10 r11 r12 r13 r14 a5 a6 a7) fun (r15 : Int) (r16 : Bool) (r17 : List F) =>
   obind (K1n r17 r9) fun (r18 : Bool) =>
   bsel r18 (
    bsel (!decide (r15 = r7)) (
     some false) (
     bsel (!(r16 == r8)) (
      some false) (
      obind4 (K05 a0 a1 a2 a3) fun (r19 : Int) (r20 : List Int) (r21 : List Int) (r22 : List F) =>
      obind (K1p r10 r11 r12 r13 r19 r20 r21 r22) fun (r23 : Bool) =>
      bsel r23 (
       obind (K04 a4) fun (r24 : List F) =>
       obind (K1n r14 r24) fun (r25 : Bool) =>
       bsel r25 (
        obind4 (K1s r10 1 r11 r12 r13) fun (r26 : Int) (r27 : List Int) (r28 : List Int) (r29 : List F) =>
        need (decide (r27.length = r11.length)) <|
        need (decide (r28.length = r12.length)) <|
        need (decide (r29.length = r13.length)) <|
        obind2 (K1r r26 r14) fun (r30 : Int) (r31 : List F) =>
        need (decide (r31.length = r14.length)) <|
        bsel (decide (r30 < 0)) (
         some false) (
         obind (K1n r17 r9) fun (r32 : Bool) =>
         bsel r32 (
          obind2 (K1r 1 r17) fun (r33 : Int) (r34 : List F) =>
          need (decide (r34.length = r17.length)) <|
          obind (K1t r34 1) fun (r35 : Int) =>
          bsel (decide (r35 < 0)) (
           some false) (
           bsel (!decide (r35 = r33)) (
            some false) (
            obind4 (K05 a0 a1 a2 a3) fun (r36 : Int) (r37 : List Int) (r38 : List Int) (r39 : List F) =>
            obind (K04 a4) fun (r40 : List F) =>
            obind3 (K1l r36 r37 r38 r39 r40 a5 a6 a7) fun (r41 : Int) (r42 : Bool) (r43 : List F) =>
            obind (K1n r43 r9) fun (r44 : Bool) =>
            bsel r44 (
             bsel (!decide (r41 = r7)) (
              some false) (
              bsel (!(r42 == r8)) (
               some false) (
               obind (K1t r34 1) fun (r45 : Int) =>
               bsel (decide (r45 < 0)) (
                some false) (
                bsel (!decide (r45 = r33)) (
                 some false) (
                 some true))))) (
             some false)))) (
          some false))) (
        some false)) (
       some false)))) (
    some false)))
theorem K1u_ok (a0 : Int) (a1 : List Int) (a2 : List Int) (a3 : List F) (a4 : List F) (a5 : F) (a6 : F) (a7 : Int) (q0 : Bool) (h : K1u a0 a1 a2 a3 a4 a5 a6 a7 = some q0) : Ev Try.prog 3 [agg [i64 a0, sl a1.length (a1.map i64), sl a2.length (a2.map i64), (sFc a3)], (sFc a4), f32 a5, f32 a6, i64 a7] [] (b q0) [] := by
 refine yE Try.func3 8 307 0 ([(0, agg [i64 a0, sl a1.length (a1.map i64), sl a2.length (a2.map i64), (sFc a3)]), (1, (sFc a4)), (2, f32 a5), (3, f32 a6), (4, i64 a7)]) [o0, o0, o0, o0, o0, o0, o0, o0] rfl ?_
 unfold K1u at h
 refine zQ<|yd rfl (ptr [i64 a0, sl a1.length (a1.map i64), sl a2.length (a2.map i64), (sFc a3)]) (TOp.box_s rfl rfl rfl)<|ya rfl (b false)<|zN ?_
 refine yS<|yS ?_
 rcases oB h with ⟨hc1, h⟩ | ⟨hc1, h⟩
 ·refine yW<|ym rfl (sFc a4)<|yl rfl (i64 (a4.length : Int)) (LOp.len_sl und23 rfl rfl)<|yl rfl (b true) (LOp.eqb (LOp.gtr rfl rfl rfl) hc1)<|zN ?_
  refine yT<|zQ<|ya rfl (b true)<|zN ?_
  refine RunC.ret ?_
  have hq := oI h
  subst q0
  exact bR rfl
 ·refine yW<|ym rfl (sFc a4)<|yl rfl (i64 (a4.length : Int)) (LOp.len_sl und23 rfl rfl)<|yl rfl (b false) (LOp.eqb (LOp.gtr rfl rfl rfl) hc1)<|zN ?_
  refine yF<|RunC.skip<|zQ<|ya rfl (i64 1048576)<|zN ?_
  refine yS ?_
  obtain ⟨r1, hf2, h⟩ := oS h
  refine yW<|yl rfl (agg [i64 a0, sl a1.length (a1.map i64), sl a2.length (a2.map i64), (sFc a3)]) (yL agg25 siz25)<|ym rfl (i64 1048576)<|yd rfl (i64 r1) (TOp.callB (CallAs.func ent8 rfl rfl) (Bors.cons (Bor.agg (bP (bS (bS (bS bN))))) bN0) rfl rfl (K02_ok a0 a1 a2 a3 1048576 r1 hf2))<|ya rfl (i64 r1)<|zN ?_
  refine yS<|yS ?_
  rcases oB h with ⟨hc3, h⟩ | ⟨hc3, h⟩
  ·refine yW<|ym rfl (i64 r1)<|yl rfl (b true) (LOp.eqb (LOp.lss rfl rfl rfl) hc3)<|zN ?_
   refine yT<|zQ<|ya rfl (b true)<|zN ?_
   refine RunC.ret ?_
   have hq := oI h
   subst q0
   exact bR rfl
  ·refine yW<|ym rfl (i64 r1)<|yl rfl (b false) (LOp.eqb (LOp.lss rfl rfl rfl) hc3)<|zN ?_
   refine yF<|RunC.skip<|yS ?_
   obtain ⟨r2, r3, r4, r5, hf4, h⟩ := obind4_some h
   obtain ⟨r6, hf5, h⟩ := oS h
   obtain ⟨r7, r8, r9, hf6, h⟩ := obind3_some h
   refine yW<|yl rfl (agg [i64 a0, sl a1.length (a1.map i64), sl a2.length (a2.map i64), (sFc a3)]) (yL agg25 siz25)<|ye rfl (agg [i64 r2, oref 0 1 0 r3.length, oref 1 1 0 r4.length, oref 2 1 0 r5.length]) [oJ 1 r3, oJ 1 r4, oF 1 r5, o0, o0, o0, o0, o0] (TOp.callBN (ls := [(r3.map i64), (r4.map i64), (r5.map f32)]) [0, 1, 2] (CallAs.func ent10 rfl rfl) (Bors.cons (Bor.agg (bP (bS (bS (bS bN))))) bN) rfl (K05_ok a0 a1 a2 a3 r2 r3 r4 r5 hf4) (and_all (lts0_map (f := i64) (fun _ => rfl) _) (and_all (lts0_map (f := i64) (fun _ => rfl) _) (and_all (lts0_map (f := f32) (fun _ => rfl) _) rfl))) (and_all (noss_map (f := i64) (fun _ => rfl) _) (and_all (noss_map (f := i64) (fun _ => rfl) _) (and_all (noss_map (f := f32) (fun _ => rfl) _) rfl))) rfl (by decide) (ns_of ⟨⟨_, rfl⟩, ⟨_, rfl⟩, ⟨_, rfl⟩, trivial⟩))<|ym rfl (sFc a4)<|ye rfl (oref 3 1 0 r6.length) [oJ 1 r3, oJ 1 r4, oF 1 r5, oF 1 r6, o0, o0, o0, o0] (TOp.callBN (ls := [(r6.map f32)]) [3] (CallAs.func ent11 rfl rfl) (bS bN) rfl (K04_ok a4 r6 hf5) (and_all (lts0_map (f := f32) (fun _ => rfl) _) rfl) (and_all (noss_map (f := f32) (fun _ => rfl) _) rfl) rfl (by decide) (ns_of ⟨⟨_, rfl⟩, trivial⟩))<|ym rfl (f32 a5)<|ym rfl (f32 a6)<|ym rfl (i64 a7)<|ye rfl (tup [oref 4 1 0 r9.length, i64 r7, b r8]) [oJ 1 r3, oJ 1 r4, oF 1 r5, oF 1 r6, oF 1 r9, o0, o0, o0] (TOp.callBN (ls := [(r9.map f32)]) [4] (CallAs.func ent9 rfl rfl) (Bors.cons (Bor.agg (bP (Bors.cons (Bor.own (f := i64) (fun _ => rfl) rfl rfl) (Bors.cons (Bor.own (f := i64) (fun _ => rfl) rfl rfl) (Bors.cons (Bor.own (f := f32) (fun _ => rfl) rfl rfl) bN))))) (Bors.cons (Bor.own (f := f32) (fun _ => rfl) rfl rfl) (bP (bP bN0)))) rfl (K0l_ok r2 r3 r4 r5 r6 a5 a6 a7 r7 r8 r9 hf6) (and_all (lts0_map (f := f32) (fun _ => rfl) _) rfl) (and_all (noss_map (f := f32) (fun _ => rfl) _) rfl) rfl (by decide) (ns_of ⟨⟨_, rfl⟩, trivial⟩))<|ym rfl (tup [oref 4 1 0 r9.length, i64 r7, b r8])<|yl rfl (oref 4 1 0 r9.length) n3<|yl rfl (i64 r7) n3<|yl rfl (b r8) n3<|ya rfl (oref 4 1 0 r9.length)<|ya rfl (i64 r7)<|ya rfl (b r8)<|zN ?_
   refine RunC.wl (τ' := [(1, (sFc a4)), (2, f32 a5), (3, f32 a6), (4, i64 a7), (5, ptr [i64 a0, sl a1.length (a1.map i64), sl a2.length (a2.map i64), (sFc a3)]), (12, oref 4 1 0 r9.length), (13, i64 r7), (14, b r8)]) (Γ' := [⟨1, none⟩, ⟨1, none⟩, ⟨1, none⟩, ⟨1, none⟩, oF 1 r9, o0, o0, o0]) ⟨aR, aR, aR, aR, aR, aR, aR, aR, trivial⟩ ⟨⟨rfl, .inl rfl⟩, ⟨rfl, .inl rfl⟩, ⟨rfl, .inl rfl⟩, ⟨rfl, .inl rfl⟩, ⟨rfl, .inr rfl⟩, ⟨rfl, .inr rfl⟩, ⟨rfl, .inr rfl⟩, ⟨rfl, .inr rfl⟩, trivial⟩<|yS ?_
   obtain ⟨r10, r11, r12, r13, hf7, h⟩ := obind4_some h
   refine yW<|yl rfl (agg [i64 a0, sl a1.length (a1.map i64), sl a2.length (a2.map i64), (sFc a3)]) (yL agg25 siz25)<|ye rfl (agg [i64 r10, oref 0 2 0 r11.length, oref 1 2 0 r12.length, oref 2 2 0 r13.length]) [oJ 2 r11, oJ 2 r12, oF 2 r13, ⟨1, none⟩, oF 1 r9, o0, o0, o0] (TOp.callBN (ls := [(r11.map i64), (r12.map i64), (r13.map f32)]) [0, 1, 2] (CallAs.func ent10 rfl rfl) (Bors.cons (Bor.agg (bP (bS (bS (bS bN))))) bN) rfl (K05_ok a0 a1 a2 a3 r10 r11 r12 r13 hf7) (and_all (lts0_map (f := i64) (fun _ => rfl) _) (and_all (lts0_map (f := i64) (fun _ => rfl) _) (and_all (lts0_map (f := f32) (fun _ => rfl) _) rfl))) (and_all (noss_map (f := i64) (fun _ => rfl) _) (and_all (noss_map (f := i64) (fun _ => rfl) _) (and_all (noss_map (f := f32) (fun _ => rfl) _) rfl))) rfl (by decide) (ns_of ⟨⟨_, rfl⟩, ⟨_, rfl⟩, ⟨_, rfl⟩, trivial⟩))<|ye rfl (optr 3 2 0) ([oJ 2 r11, oJ 2 r12, oF 2 r13, ⟨2, some [i64 0, nilsl, nilsl, nilsl]⟩, oF 1 r9, o0, o0, o0]) (TOp.alloc_o (g := ⟨1, none⟩) 3 rfl zer30 zok30 rfl)<|ys (agg [i64 r10, oref 0 2 0 r11.length, oref 1 2 0 r12.length, oref 2 2 0 r13.length]) [i64 r10, oref 0 2 0 r11.length, oref 1 2 0 r12.length, oref 2 2 0 r13.length] ([oJ 2 r11, oJ 2 r12, oF 2 r13, ⟨2, some [i64 r10, oref 0 2 0 r11.length, oref 1 2 0 r12.length, oref 2 2 0 r13.length]⟩, oF 1 r9, o0, o0, o0]) siz30<|zN ?_
   refine yS ?_
   obtain ⟨r14, hf8, h⟩ := oS h
   refine yW<|ym rfl (sFc a4)<|ye rfl (oref 5 1 0 r14.length) ([oJ 2 r11, oJ 2 r12, oF 2 r13, ⟨2, some [i64 r10, oref 0 2 0 r11.length, oref 1 2 0 r12.length, oref 2 2 0 r13.length]⟩, oF 1 r9, oF 1 r14, o0, o0]) (TOp.callBN (ls := [(r14.map f32)]) [5] (CallAs.func ent11 rfl rfl) (bS bN) rfl (K04_ok a4 r14 hf8) (and_all (lts0_map (f := f32) (fun _ => rfl) _) rfl) (and_all (noss_map (f := f32) (fun _ => rfl) _) rfl) rfl (by decide) (ns_of ⟨⟨_, rfl⟩, trivial⟩))<|ya rfl (oref 5 1 0 r14.length)<|zN ?_
   refine yS ?_
   obtain ⟨r15, r16, r17, hf9, h⟩ := obind3_some h
   refine yW<|yd rfl (agg [i64 r10, oref 0 2 0 r11.length, oref 1 2 0 r12.length, oref 2 2 0 r13.length]) (yA agg30 siz30)<|ym rfl (oref 5 1 0 r14.length)<|ym rfl (f32 a5)<|ym rfl (f32 a6)<|ym rfl (i64 a7)<|ye rfl (tup [oref 6 1 0 r17.length, i64 r15, b r16]) ([oJ 2 r11, oJ 2 r12, oF 2 r13, ⟨2, some [i64 r10, oref 0 2 0 r11.length, oref 1 2 0 r12.length, oref 2 2 0 r13.length]⟩, oF 1 r9, oF 1 r14, oF 1 r17, o0]) (TOp.callBN (ls := [(r17.map f32)]) [6] (CallAs.func ent12 rfl rfl) (Bors.cons (Bor.agg (bP (Bors.cons (Bor.own (f := i64) (fun _ => rfl) rfl rfl) (Bors.cons (Bor.own (f := i64) (fun _ => rfl) rfl rfl) (Bors.cons (Bor.own (f := f32) (fun _ => rfl) rfl rfl) bN))))) (Bors.cons (Bor.own (f := f32) (fun _ => rfl) rfl rfl) (bP (bP bN0)))) rfl (K1l_ok r10 r11 r12 r13 r14 a5 a6 a7 r15 r16 r17 hf9) (and_all (lts0_map (f := f32) (fun _ => rfl) _) rfl) (and_all (noss_map (f := f32) (fun _ => rfl) _) rfl) rfl (by decide) (ns_of ⟨⟨_, rfl⟩, trivial⟩))<|ym rfl (tup [oref 6 1 0 r17.length, i64 r15, b r16])<|yl rfl (oref 6 1 0 r17.length) n3<|yl rfl (i64 r15) n3<|yl rfl (b r16) n3<|ya rfl (oref 6 1 0 r17.length)<|ya rfl (i64 r15)<|ya rfl (b r16)<|zN ?_
   refine yS<|yS ?_
   obtain ⟨r18, hf10, h⟩ := oS h
   rcases oB h with ⟨hc11, h⟩ | ⟨hc11, h⟩
   ·rcases oB h with ⟨hc12, h⟩ | ⟨hc12, h⟩
    ·refine yW<|ym rfl (oref 6 1 0 r17.length)<|ym rfl (oref 4 1 0 r9.length)<|yd rfl (b true) (TOp.eqb (yc ent13 rfl rfl (Bors.cons (Bor.own (f := f32) (fun _ => rfl) rfl rfl) (Bors.cons (Bor.own (f := f32) (fun _ => rfl) rfl rfl) bN)) (K1n_ok r17 r9 r18 hf10)) hc11)<|yl rfl (b false) n1<|ym rfl (b false)<|ym rfl (i64 r15)<|ym rfl (i64 r7)<|yl rfl (b true) (LOp.eqb (LOp.neq rfl rfl rfl) hc12)<|yl rfl (b true) yp<|ym rfl (b true)<|yR rfl<|yR rfl<|yR rfl<|yl rfl (b true) yq<|zN ?_
     refine yT<|zQ<|ya rfl (b false)<|zN ?_
     refine RunC.ret ?_
     have hq := oI h
     subst q0
     exact bR rfl
    ·rcases oB h with ⟨hc13, h⟩ | ⟨hc13, h⟩
     ·refine yW<|ym rfl (oref 6 1 0 r17.length)<|ym rfl (oref 4 1 0 r9.length)<|yd rfl (b true) (TOp.eqb (yc ent13 rfl rfl (Bors.cons (Bor.own (f := f32) (fun _ => rfl) rfl rfl) (Bors.cons (Bor.own (f := f32) (fun _ => rfl) rfl rfl) bN)) (K1n_ok r17 r9 r18 hf10)) hc11)<|yl rfl (b false) n1<|ym rfl (b false)<|ym rfl (i64 r15)<|ym rfl (i64 r7)<|yl rfl (b false) (LOp.eqb (LOp.neq rfl rfl rfl) hc12)<|yl rfl (b false) yp<|ym rfl (b false)<|ym rfl (b r16)<|ym rfl (b r8)<|yl rfl (b true) (LOp.eqb (LOp.neqb pun4 rfl rfl rfl) hc13)<|yl rfl (b true) yp<|zN ?_
      refine yT<|zQ<|ya rfl (b false)<|zN ?_
      refine RunC.ret ?_
      have hq := oI h
      subst q0
      exact bR rfl
     ·refine yW<|ym rfl (oref 6 1 0 r17.length)<|ym rfl (oref 4 1 0 r9.length)<|yd rfl (b true) (TOp.eqb (yc ent13 rfl rfl (Bors.cons (Bor.own (f := f32) (fun _ => rfl) rfl rfl) (Bors.cons (Bor.own (f := f32) (fun _ => rfl) rfl rfl) bN)) (K1n_ok r17 r9 r18 hf10)) hc11)<|yl rfl (b false) n1<|ym rfl (b false)<|ym rfl (i64 r15)<|ym rfl (i64 r7)<|yl rfl (b false) (LOp.eqb (LOp.neq rfl rfl rfl) hc12)<|yl rfl (b false) yp<|ym rfl (b false)<|ym rfl (b r16)<|ym rfl (b r8)<|yl rfl (b false) (LOp.eqb (LOp.neqb pun4 rfl rfl rfl) hc13)<|yl rfl (b false) yp<|zN ?_
      refine yF<|RunC.skip<|yS<|yS ?_
      obtain ⟨r19, r20, r21, r22, hf14, h⟩ := obind4_some h
      obtain ⟨r23, hf15, h⟩ := oS h
      rcases oB h with ⟨hc16, h⟩ | ⟨hc16, h⟩
      ·refine RunC.region_draw (Γ' := [oJ 2 r11, oJ 2 r12, oF 2 r13, ⟨2, some [i64 r10, oref 0 2 0 r11.length, oref 1 2 0 r12.length, oref 2 2 0 r13.length]⟩, oF 1 r9, oF 1 r14, oF 1 r17, o0]) 5 mixed 
        (TR.d (r := agg [i64 r10, oref 0 2 0 r11.length, oref 1 2 0 r12.length, oref 2 2 0 r13.length]) (fs := []) rfl rfl (yA agg30 siz30) <|
        (tl rfl (agg [i64 a0, sl a1.length (a1.map i64), sl a2.length (a2.map i64), (sFc a3)]) (yL agg25 siz25) <|
        (TR.d (r := agg [i64 r19, sl r20.length (r20.map i64), sl r21.length (r21.map i64), (sFc r22)]) (fs := []) rfl rfl (TOp.callS (CallAs.func ent10 rfl rfl) (ALes.cons aR ALes.nil) (lts_cons (lt_agg (lts_cons rfl (lts_cons (lt_sl (fun _ => rfl)) (lts_cons (lt_sl (fun _ => rfl)) (lts_cons (lt_sl (fun _ => rfl)) lts_nil))))) lts_nil) (lt_agg (lts_cons rfl (lts_cons (lt_sl (fun _ => rfl)) (lts_cons (lt_sl (fun _ => rfl)) (lts_cons (lt_sl (fun _ => rfl)) lts_nil))))) (K05_ok a0 a1 a2 a3 r19 r20 r21 r22 hf14) (Bor.agg (bP (Bors.cons (Bor.own (f := i64) (fun _ => rfl) rfl rfl) (Bors.cons (Bor.own (f := i64) (fun _ => rfl) rfl rfl) (Bors.cons (Bor.own (f := f32) (fun _ => rfl) rfl rfl) bN)))))) <|
        (TR.d (r := b true) (fs := []) rfl rfl (TOp.eqb (TOp.callB (CallAs.func ent14 rfl rfl) (Bors.cons (Bor.agg (bP (Bors.cons (Bor.own (f := i64) (fun _ => rfl) rfl rfl) (Bors.cons (Bor.own (f := i64) (fun _ => rfl) rfl rfl) (Bors.cons (Bor.own (f := f32) (fun _ => rfl) rfl rfl) bN))))) (Bors.cons (Bor.agg (bP (bS (bS (bS bN))))) bN)) rfl rfl (K1p_ok r10 r11 r12 r13 r19 r20 r21 r22 r23 hf15)) hc16) <|
        (tl rfl (b false) (LOp.eqb (LOp.not rfl rfl) rfl) <|
        TR.nil))))) rfl (by kernel_rfl) rfl fills_nil rfl ?_
       iterate 5 refine ROps.dropS ?_
       refine ROps.drop0<|zN ?_
       refine RunC.wl (τ' := [(1, (sFc a4)), (2, f32 a5), (3, f32 a6), (4, i64 a7), (5, ptr [i64 a0, sl a1.length (a1.map i64), sl a2.length (a2.map i64), (sFc a3)]), (12, oref 4 1 0 r9.length), (13, i64 r7), (14, b r8), (15, optr 3 2 0), (16, oref 5 1 0 r14.length), (17, oref 6 1 0 r17.length), (18, i64 r15), (19, b r16), (78, b false)]) (Γ' := [oJ 2 r11, oJ 2 r12, oF 2 r13, ⟨2, some [i64 r10, oref 0 2 0 r11.length, oref 1 2 0 r12.length, oref 2 2 0 r13.length]⟩, oF 1 r9, oF 1 r14, oF 1 r17, o0]) ⟨aR, aR, aR, aR, aR, aR, aR, aR, aR, aR, aR, aR, aR, aR, trivial⟩ ⟨⟨rfl, .inr rfl⟩, ⟨rfl, .inr rfl⟩, ⟨rfl, .inr rfl⟩, ⟨rfl, .inr rfl⟩, ⟨rfl, .inr rfl⟩, ⟨rfl, .inr rfl⟩, ⟨rfl, .inr rfl⟩, ⟨rfl, .inr rfl⟩, trivial⟩<|yF<|RunC.skip<|yS<|yS ?_
       obtain ⟨r24, hf17, h⟩ := oS h
       obtain ⟨r25, hf18, h⟩ := oS h
       rcases oB h with ⟨hc19, h⟩ | ⟨hc19, h⟩
       ·refine yW<|ym rfl (oref 5 1 0 r14.length)<|ym rfl (sFc a4)<|ye rfl (oref 7 1 0 r24.length) ([oJ 2 r11, oJ 2 r12, oF 2 r13, ⟨2, some [i64 r10, oref 0 2 0 r11.length, oref 1 2 0 r12.length, oref 2 2 0 r13.length]⟩, oF 1 r9, oF 1 r14, oF 1 r17, oF 1 r24]) (TOp.callBN (ls := [(r24.map f32)]) [7] (CallAs.func ent11 rfl rfl) (bS bN) rfl (K04_ok a4 r24 hf17) (and_all (lts0_map (f := f32) (fun _ => rfl) _) rfl) (and_all (noss_map (f := f32) (fun _ => rfl) _) rfl) rfl (by decide) (ns_of ⟨⟨_, rfl⟩, trivial⟩))<|yd rfl (b true) (TOp.eqb (yc ent13 rfl rfl (Bors.cons (Bor.own (f := f32) (fun _ => rfl) rfl rfl) (Bors.cons (Bor.own (f := f32) (fun _ => rfl) rfl rfl) bN)) (K1n_ok r14 r24 r25 hf18)) hc19)<|yl rfl (b false) n1<|zN ?_
        refine RunC.wl (τ' := [(1, (sFc a4)), (2, f32 a5), (3, f32 a6), (4, i64 a7), (5, ptr [i64 a0, sl a1.length (a1.map i64), sl a2.length (a2.map i64), (sFc a3)]), (12, oref 4 1 0 r9.length), (13, i64 r7), (14, b r8), (15, optr 3 2 0), (16, oref 5 1 0 r14.length), (17, oref 6 1 0 r17.length), (18, i64 r15), (19, b r16), (83, b false)]) (Γ' := [oJ 2 r11, oJ 2 r12, oF 2 r13, ⟨2, some [i64 r10, oref 0 2 0 r11.length, oref 1 2 0 r12.length, oref 2 2 0 r13.length]⟩, oF 1 r9, oF 1 r14, oF 1 r17, ⟨1, none⟩]) ⟨aR, aR, aR, aR, aR, aR, aR, aR, aR, aR, aR, aR, aR, aR, trivial⟩ ⟨⟨rfl, .inr rfl⟩, ⟨rfl, .inr rfl⟩, ⟨rfl, .inr rfl⟩, ⟨rfl, .inr rfl⟩, ⟨rfl, .inr rfl⟩, ⟨rfl, .inr rfl⟩, ⟨rfl, .inr rfl⟩, ⟨rfl, .inl rfl⟩, trivial⟩<|yF<|RunC.skip<|zQ<|ya rfl (i64 1)<|zN ?_
        refine yS ?_
        obtain ⟨r26, r27, r28, r29, hf20, h⟩ := obind4_some h
        obtain ⟨hn21, h⟩ := need_some h
        obtain ⟨hn22, h⟩ := need_some h
        obtain ⟨hn23, h⟩ := need_some h
        refine yW<|yd rfl (agg [i64 r10, oref 0 2 0 r11.length, oref 1 2 0 r12.length, oref 2 2 0 r13.length]) (yA agg30 siz30)<|ym rfl (i64 1)<|ROps.callO (A := [agg [i64 r10, oref 0 2 0 r11.length, oref 1 2 0 r12.length, oref 2 2 0 r13.length], i64 1]) (args := [agg [i64 r10, oref 0 0 0 r11.length, oref 1 0 0 r12.length, oref 2 0 0 r13.length], i64 1]) (Γc := [oJ 0 r11, oJ 0 r12, oF 0 r13]) (Γc' := [oJ 0 r27, oJ 0 r28, oF 0 r29]) (r' := i64 r26) (Γ' := [oJ 2 r27, oJ 2 r28, oF 2 r29, ⟨2, some [i64 r10, oref 0 2 0 r11.length, oref 1 2 0 r12.length, oref 2 2 0 r13.length]⟩, oF 1 r9, oF 1 r14, oF 1 r17, ⟨1, none⟩]) [(0, 2), (1, 2), (2, 2)] [] rfl (CallAs.func ent15 rfl rfl) rfl rfl (SelOk.of (show List.Nodup [0, 1, 2] from by decide) (SelL.arr0 (f := i64) (fun _ => rfl) rfl (SelL.arr0 (f := i64) (fun _ => rfl) rfl (sA rfl trivial)))) (live_of ⟨⟨_, _, rfl⟩, ⟨_, _, rfl⟩, ⟨_, _, rfl⟩, trivial⟩) (by simp [ren, rens, sigma, rens_f32, rens_f64, rens_i64, rens_ik, rens_str, rens_cp]) rfl (K1s_ok r10 1 r11 r12 r13 r26 r27 r28 r29 hf20) rfl (news_of trivial) (show List.Nodup [0, 1, 2] from by decide) (by simp [ren, rens, sigma, of_decide_eq_true hn21, of_decide_eq_true hn22, of_decide_eq_true hn23]) (by simp [backOb, sigma, ren, rens, rens_f32, rens_f64, rens_i64, rens_ik, rens_str, rens_cp] <;> omega)<|ya rfl (i64 r26)<|zN ?_
        refine RunC.wl (τ' := [(1, (sFc a4)), (2, f32 a5), (3, f32 a6), (4, i64 a7), (5, ptr [i64 a0, sl a1.length (a1.map i64), sl a2.length (a2.map i64), (sFc a3)]), (12, oref 4 1 0 r9.length), (13, i64 r7), (14, b r8), (16, oref 5 1 0 r14.length), (17, oref 6 1 0 r17.length), (18, i64 r15), (19, b r16), (20, i64 r26)]) (Γ' := [⟨2, none⟩, ⟨2, none⟩, ⟨2, none⟩, ⟨2, none⟩, oF 1 r9, oF 1 r14, oF 1 r17, ⟨1, none⟩]) ⟨aR, aR, aR, aR, aR, aR, aR, aR, aR, aR, aR, aR, aR, trivial⟩ ⟨⟨rfl, .inl rfl⟩, ⟨rfl, .inl rfl⟩, ⟨rfl, .inl rfl⟩, ⟨rfl, .inl rfl⟩, ⟨rfl, .inr rfl⟩, ⟨rfl, .inr rfl⟩, ⟨rfl, .inr rfl⟩, ⟨rfl, .inl rfl⟩, trivial⟩<|yS ?_
        obtain ⟨r30, r31, hf24, h⟩ := obind2_some h
        obtain ⟨hn25, h⟩ := need_some h
        refine yW<|ym rfl (oref 5 1 0 r14.length)<|ym rfl (i64 r26)<|ROps.callO (A := [oref 5 1 0 r14.length, i64 r26]) (args := [oref 0 0 0 r14.length, i64 r26]) (Γc := [oF 0 r14]) (Γc' := [oF 0 r31]) (r' := i64 r30) (Γ' := [⟨2, none⟩, ⟨2, none⟩, ⟨2, none⟩, ⟨2, none⟩, oF 1 r9, oF 1 r31, oF 1 r17, ⟨1, none⟩]) [(5, 1)] [] rfl (CallAs.func ent16 rfl rfl) rfl rfl (SelOk.of (show List.Nodup [5] from by decide) (sA rfl trivial)) (live_of ⟨⟨_, _, rfl⟩, trivial⟩) (by simp [ren, rens, sigma, rens_f32, rens_f64, rens_i64, rens_ik, rens_str, rens_cp]) rfl (K1r_ok r26 r14 r30 r31 hf24) rfl (news_of trivial) (show List.Nodup [5] from by decide) (by simp [ren, rens, sigma, of_decide_eq_true hn25]) (by simp [backOb, sigma, ren, rens, rens_f32, rens_f64, rens_i64, rens_ik, rens_str, rens_cp] <;> omega)<|ya rfl (i64 r30)<|zN ?_
        refine RunC.wl (τ' := [(1, (sFc a4)), (2, f32 a5), (3, f32 a6), (4, i64 a7), (5, ptr [i64 a0, sl a1.length (a1.map i64), sl a2.length (a2.map i64), (sFc a3)]), (12, oref 4 1 0 r9.length), (13, i64 r7), (14, b r8), (17, oref 6 1 0 r17.length), (18, i64 r15), (19, b r16), (20, i64 r30)]) (Γ' := [⟨2, none⟩, ⟨2, none⟩, ⟨2, none⟩, ⟨2, none⟩, oF 1 r9, ⟨1, none⟩, oF 1 r17, ⟨1, none⟩]) ⟨aR, aR, aR, aR, aR, aR, aR, aR, aR, aR, aR, aR, trivial⟩ ⟨⟨rfl, .inl rfl⟩, ⟨rfl, .inl rfl⟩, ⟨rfl, .inl rfl⟩, ⟨rfl, .inl rfl⟩, ⟨rfl, .inr rfl⟩, ⟨rfl, .inl rfl⟩, ⟨rfl, .inr rfl⟩, ⟨rfl, .inl rfl⟩, trivial⟩<|yS<|yS ?_
        rcases oB h with ⟨hc26, h⟩ | ⟨hc26, h⟩
        ·refine yW<|ym rfl (i64 r30)<|yl rfl (b true) (LOp.eqb (LOp.lss rfl rfl rfl) hc26)<|ym rfl (b true)<|yR rfl<|yR rfl<|yR rfl<|yR rfl<|yl rfl (b true) yq<|ym rfl (b true)<|yR rfl<|yR rfl<|yR rfl<|yl rfl (b true) yq<|ym rfl (b true)<|yR rfl<|yR rfl<|yR rfl<|yl rfl (b true) yq<|zN ?_
         refine RunC.wl (τ' := [(1, (sFc a4)), (2, f32 a5), (3, f32 a6), (4, i64 a7), (5, ptr [i64 a0, sl a1.length (a1.map i64), sl a2.length (a2.map i64), (sFc a3)]), (12, oref 4 1 0 r9.length), (13, i64 r7), (14, b r8), (17, oref 6 1 0 r17.length), (107, b true)]) (Γ' := [⟨2, none⟩, ⟨2, none⟩, ⟨2, none⟩, ⟨2, none⟩, oF 1 r9, ⟨1, none⟩, oF 1 r17, ⟨1, none⟩]) ⟨aR, aR, aR, aR, aR, aR, aR, aR, aR, aR, trivial⟩ ⟨⟨rfl, .inl rfl⟩, ⟨rfl, .inl rfl⟩, ⟨rfl, .inl rfl⟩, ⟨rfl, .inl rfl⟩, ⟨rfl, .inr rfl⟩, ⟨rfl, .inl rfl⟩, ⟨rfl, .inr rfl⟩, ⟨rfl, .inl rfl⟩, trivial⟩<|yT<|zQ<|ya rfl (b false)<|zN ?_
         refine RunC.ret ?_
         have hq := oI h
         subst q0
         exact bR rfl
        ·obtain ⟨r32, hf27, h⟩ := oS h
         rcases oB h with ⟨hc28, h⟩ | ⟨hc28, h⟩
         ·refine yW<|ym rfl (i64 r30)<|yl rfl (b false) (LOp.eqb (LOp.lss rfl rfl rfl) hc26)<|ym rfl (b false)<|ym rfl (oref 6 1 0 r17.length)<|ym rfl (oref 4 1 0 r9.length)<|yd rfl (b true) (TOp.eqb (yc ent13 rfl rfl (Bors.cons (Bor.own (f := f32) (fun _ => rfl) rfl rfl) (Bors.cons (Bor.own (f := f32) (fun _ => rfl) rfl rfl) bN)) (K1n_ok r17 r9 r32 hf27)) hc28)<|yl rfl (b false) n1<|yl rfl (b false) yp<|ym rfl (b false)<|ym rfl (i64 r15)<|ym rfl (i64 r7)<|yl rfl (b false) (LOp.eqb (LOp.neq rfl rfl rfl) hc12)<|yl rfl (b false) yp<|ym rfl (b false)<|ym rfl (b r16)<|ym rfl (b r8)<|yl rfl (b false) (LOp.eqb (LOp.neqb pun4 rfl rfl rfl) hc13)<|yl rfl (b false) yp<|zN ?_
          refine RunC.wl (τ' := [(1, (sFc a4)), (2, f32 a5), (3, f32 a6), (4, i64 a7), (5, ptr [i64 a0, sl a1.length (a1.map i64), sl a2.length (a2.map i64), (sFc a3)]), (12, oref 4 1 0 r9.length), (13, i64 r7), (14, b r8), (17, oref 6 1 0 r17.length), (107, b false)]) (Γ' := [⟨2, none⟩, ⟨2, none⟩, ⟨2, none⟩, ⟨2, none⟩, oF 1 r9, ⟨1, none⟩, oF 1 r17, ⟨1, none⟩]) ⟨aR, aR, aR, aR, aR, aR, aR, aR, aR, aR, trivial⟩ ⟨⟨rfl, .inl rfl⟩, ⟨rfl, .inl rfl⟩, ⟨rfl, .inl rfl⟩, ⟨rfl, .inl rfl⟩, ⟨rfl, .inr rfl⟩, ⟨rfl, .inl rfl⟩, ⟨rfl, .inr rfl⟩, ⟨rfl, .inl rfl⟩, trivial⟩<|yF<|RunC.skip<|zQ<|ya rfl (i64 1)<|zN ?_
          refine yS ?_
          obtain ⟨r33, r34, hf29, h⟩ := obind2_some h
          obtain ⟨hn30, h⟩ := need_some h
          refine yW<|ym rfl (oref 6 1 0 r17.length)<|ym rfl (i64 1)<|ROps.callO (A := [oref 6 1 0 r17.length, i64 1]) (args := [oref 0 0 0 r17.length, i64 1]) (Γc := [oF 0 r17]) (Γc' := [oF 0 r34]) (r' := i64 r33) (Γ' := [⟨2, none⟩, ⟨2, none⟩, ⟨2, none⟩, ⟨2, none⟩, oF 1 r9, ⟨1, none⟩, oF 1 r34, ⟨1, none⟩]) [(6, 1)] [] rfl (CallAs.func ent16 rfl rfl) rfl rfl (SelOk.of (show List.Nodup [6] from by decide) (sA rfl trivial)) (live_of ⟨⟨_, _, rfl⟩, trivial⟩) (by simp [ren, rens, sigma, rens_f32, rens_f64, rens_i64, rens_ik, rens_str, rens_cp]) rfl (K1r_ok 1 r17 r33 r34 hf29) rfl (news_of trivial) (show List.Nodup [6] from by decide) (by simp [ren, rens, sigma, of_decide_eq_true hn30]) (by simp [backOb, sigma, ren, rens, rens_f32, rens_f64, rens_i64, rens_ik, rens_str, rens_cp] <;> omega)<|ya rfl (i64 r33)<|zN ?_
          refine zQ<|ya rfl (i64 1)<|zN ?_
          refine yS ?_
          obtain ⟨r35, hf31, h⟩ := oS h
          refine yW<|ym rfl (oref 6 1 0 r17.length)<|ym rfl (i64 1)<|yd rfl (i64 r35) (yc ent17 rfl rfl (Bors.cons (Bor.own (f := f32) (fun _ => rfl) rfl (of_decide_eq_true hn30)) bN0) (K1t_ok r34 1 r35 hf31))<|ya rfl (i64 r35)<|zN ?_
          refine yS<|yS ?_
          rcases oB h with ⟨hc32, h⟩ | ⟨hc32, h⟩
          ·refine yW<|ym rfl (i64 r35)<|yl rfl (b true) (LOp.eqb (LOp.lss rfl rfl rfl) hc32)<|zN ?_
           refine yT<|zQ<|ya rfl (b false)<|zN ?_
           refine RunC.ret ?_
           have hq := oI h
           subst q0
           exact bR rfl
          ·refine yW<|ym rfl (i64 r35)<|yl rfl (b false) (LOp.eqb (LOp.lss rfl rfl rfl) hc32)<|zN ?_
           refine yF<|RunC.skip<|yS<|yS ?_
           rcases oB h with ⟨hc33, h⟩ | ⟨hc33, h⟩
           ·refine yW<|ym rfl (i64 r35)<|ym rfl (i64 r33)<|yl rfl (b true) (LOp.eqb (LOp.neq rfl rfl rfl) hc33)<|zN ?_
            refine yT<|zQ<|ya rfl (b false)<|zN ?_
            refine RunC.ret ?_
            have hq := oI h
            subst q0
            exact bR rfl
           ·refine yW<|ym rfl (i64 r35)<|ym rfl (i64 r33)<|yl rfl (b false) (LOp.eqb (LOp.neq rfl rfl rfl) hc33)<|zN ?_
            refine yF<|RunC.skip<|yS ?_
            obtain ⟨r36, r37, r38, r39, hf34, h⟩ := obind4_some h
            obtain ⟨r40, hf35, h⟩ := oS h
            obtain ⟨r41, r42, r43, hf36, h⟩ := obind3_some h
            refine yW<|yl rfl (agg [i64 a0, sl a1.length (a1.map i64), sl a2.length (a2.map i64), (sFc a3)]) (yL agg25 siz25)<|ye rfl (agg [i64 r36, oref 0 3 0 r37.length, oref 1 3 0 r38.length, oref 2 3 0 r39.length]) [oJ 3 r37, oJ 3 r38, oF 3 r39, ⟨2, none⟩, oF 1 r9, ⟨1, none⟩, oF 1 r34, ⟨1, none⟩] (TOp.callBN (ls := [(r37.map i64), (r38.map i64), (r39.map f32)]) [0, 1, 2] (CallAs.func ent10 rfl rfl) (Bors.cons (Bor.agg (bP (bS (bS (bS bN))))) bN) rfl (K05_ok a0 a1 a2 a3 r36 r37 r38 r39 hf34) (and_all (lts0_map (f := i64) (fun _ => rfl) _) (and_all (lts0_map (f := i64) (fun _ => rfl) _) (and_all (lts0_map (f := f32) (fun _ => rfl) _) rfl))) (and_all (noss_map (f := i64) (fun _ => rfl) _) (and_all (noss_map (f := i64) (fun _ => rfl) _) (and_all (noss_map (f := f32) (fun _ => rfl) _) rfl))) rfl (by decide) (ns_of ⟨⟨_, rfl⟩, ⟨_, rfl⟩, ⟨_, rfl⟩, trivial⟩))<|ym rfl (sFc a4)<|ye rfl (oref 3 3 0 r40.length) [oJ 3 r37, oJ 3 r38, oF 3 r39, oF 3 r40, oF 1 r9, ⟨1, none⟩, oF 1 r34, ⟨1, none⟩] (TOp.callBN (ls := [(r40.map f32)]) [3] (CallAs.func ent11 rfl rfl) (bS bN) rfl (K04_ok a4 r40 hf35) (and_all (lts0_map (f := f32) (fun _ => rfl) _) rfl) (and_all (noss_map (f := f32) (fun _ => rfl) _) rfl) rfl (by decide) (ns_of ⟨⟨_, rfl⟩, trivial⟩))<|ym rfl (f32 a5)<|ym rfl (f32 a6)<|ym rfl (i64 a7)<|ye rfl (tup [oref 5 2 0 r43.length, i64 r41, b r42]) [oJ 3 r37, oJ 3 r38, oF 3 r39, oF 3 r40, oF 1 r9, oF 2 r43, oF 1 r34, ⟨1, none⟩] (TOp.callBN (ls := [(r43.map f32)]) [5] (CallAs.func ent12 rfl rfl) (Bors.cons (Bor.agg (bP (Bors.cons (Bor.own (f := i64) (fun _ => rfl) rfl rfl) (Bors.cons (Bor.own (f := i64) (fun _ => rfl) rfl rfl) (Bors.cons (Bor.own (f := f32) (fun _ => rfl) rfl rfl) bN))))) (Bors.cons (Bor.own (f := f32) (fun _ => rfl) rfl rfl) (bP (bP bN0)))) rfl (K1l_ok r36 r37 r38 r39 r40 a5 a6 a7 r41 r42 r43 hf36) (and_all (lts0_map (f := f32) (fun _ => rfl) _) rfl) (and_all (noss_map (f := f32) (fun _ => rfl) _) rfl) rfl (by decide) (ns_of ⟨⟨_, rfl⟩, trivial⟩))<|ym rfl (tup [oref 5 2 0 r43.length, i64 r41, b r42])<|yl rfl (oref 5 2 0 r43.length) n3<|yl rfl (i64 r41) n3<|yl rfl (b r42) n3<|ya rfl (oref 5 2 0 r43.length)<|ya rfl (i64 r41)<|ya rfl (b r42)<|zN ?_
            refine RunC.wl (τ' := [(12, oref 4 1 0 r9.length), (13, i64 r7), (14, b r8), (17, oref 6 1 0 r17.length), (21, i64 r33), (23, oref 5 2 0 r43.length), (24, i64 r41), (25, b r42)]) (Γ' := [⟨3, none⟩, ⟨3, none⟩, ⟨3, none⟩, ⟨3, none⟩, oF 1 r9, oF 2 r43, oF 1 r34, ⟨1, none⟩]) ⟨aR, aR, aR, aR, aR, aR, aR, aR, trivial⟩ ⟨⟨rfl, .inl rfl⟩, ⟨rfl, .inl rfl⟩, ⟨rfl, .inl rfl⟩, ⟨rfl, .inl rfl⟩, ⟨rfl, .inr rfl⟩, ⟨rfl, .inr rfl⟩, ⟨rfl, .inr rfl⟩, ⟨rfl, .inl rfl⟩, trivial⟩<|yS<|yS ?_
            obtain ⟨r44, hf37, h⟩ := oS h
            rcases oB h with ⟨hc38, h⟩ | ⟨hc38, h⟩
            ·rcases oB h with ⟨hc39, h⟩ | ⟨hc39, h⟩
             ·refine yW<|ym rfl (oref 5 2 0 r43.length)<|ym rfl (oref 4 1 0 r9.length)<|yd rfl (b true) (TOp.eqb (yc ent13 rfl rfl (Bors.cons (Bor.own (f := f32) (fun _ => rfl) rfl rfl) (Bors.cons (Bor.own (f := f32) (fun _ => rfl) rfl rfl) bN)) (K1n_ok r43 r9 r44 hf37)) hc38)<|yl rfl (b false) n1<|ym rfl (b false)<|ym rfl (i64 r41)<|ym rfl (i64 r7)<|yl rfl (b true) (LOp.eqb (LOp.neq rfl rfl rfl) hc39)<|yl rfl (b true) yp<|ym rfl (b true)<|yR rfl<|yR rfl<|yR rfl<|yl rfl (b true) yq<|zN ?_
              refine RunC.wl (τ' := [(17, oref 6 1 0 r17.length), (21, i64 r33), (144, b true)]) (Γ' := [⟨3, none⟩, ⟨3, none⟩, ⟨3, none⟩, ⟨3, none⟩, ⟨1, none⟩, ⟨2, none⟩, oF 1 r34, ⟨1, none⟩]) ⟨aR, aR, aR, trivial⟩ ⟨⟨rfl, .inl rfl⟩, ⟨rfl, .inl rfl⟩, ⟨rfl, .inl rfl⟩, ⟨rfl, .inl rfl⟩, ⟨rfl, .inl rfl⟩, ⟨rfl, .inl rfl⟩, ⟨rfl, .inr rfl⟩, ⟨rfl, .inl rfl⟩, trivial⟩<|yT<|zQ<|ya rfl (b false)<|zN ?_
              refine RunC.ret ?_
              have hq := oI h
              subst q0
              exact bR rfl
             ·rcases oB h with ⟨hc40, h⟩ | ⟨hc40, h⟩
              ·refine yW<|ym rfl (oref 5 2 0 r43.length)<|ym rfl (oref 4 1 0 r9.length)<|yd rfl (b true) (TOp.eqb (yc ent13 rfl rfl (Bors.cons (Bor.own (f := f32) (fun _ => rfl) rfl rfl) (Bors.cons (Bor.own (f := f32) (fun _ => rfl) rfl rfl) bN)) (K1n_ok r43 r9 r44 hf37)) hc38)<|yl rfl (b false) n1<|ym rfl (b false)<|ym rfl (i64 r41)<|ym rfl (i64 r7)<|yl rfl (b false) (LOp.eqb (LOp.neq rfl rfl rfl) hc39)<|yl rfl (b false) yp<|ym rfl (b false)<|ym rfl (b r42)<|ym rfl (b r8)<|yl rfl (b true) (LOp.eqb (LOp.neqb pun4 rfl rfl rfl) hc40)<|yl rfl (b true) yp<|zN ?_
               refine RunC.wl (τ' := [(17, oref 6 1 0 r17.length), (21, i64 r33), (144, b true)]) (Γ' := [⟨3, none⟩, ⟨3, none⟩, ⟨3, none⟩, ⟨3, none⟩, ⟨1, none⟩, ⟨2, none⟩, oF 1 r34, ⟨1, none⟩]) ⟨aR, aR, aR, trivial⟩ ⟨⟨rfl, .inl rfl⟩, ⟨rfl, .inl rfl⟩, ⟨rfl, .inl rfl⟩, ⟨rfl, .inl rfl⟩, ⟨rfl, .inl rfl⟩, ⟨rfl, .inl rfl⟩, ⟨rfl, .inr rfl⟩, ⟨rfl, .inl rfl⟩, trivial⟩<|yT<|zQ<|ya rfl (b false)<|zN ?_
               refine RunC.ret ?_
               have hq := oI h
               subst q0
               exact bR rfl
              ·refine yW<|ym rfl (oref 5 2 0 r43.length)<|ym rfl (oref 4 1 0 r9.length)<|yd rfl (b true) (TOp.eqb (yc ent13 rfl rfl (Bors.cons (Bor.own (f := f32) (fun _ => rfl) rfl rfl) (Bors.cons (Bor.own (f := f32) (fun _ => rfl) rfl rfl) bN)) (K1n_ok r43 r9 r44 hf37)) hc38)<|yl rfl (b false) n1<|ym rfl (b false)<|ym rfl (i64 r41)<|ym rfl (i64 r7)<|yl rfl (b false) (LOp.eqb (LOp.neq rfl rfl rfl) hc39)<|yl rfl (b false) yp<|ym rfl (b false)<|ym rfl (b r42)<|ym rfl (b r8)<|yl rfl (b false) (LOp.eqb (LOp.neqb pun4 rfl rfl rfl) hc40)<|yl rfl (b false) yp<|zN ?_
               refine RunC.wl (τ' := [(17, oref 6 1 0 r17.length), (21, i64 r33), (144, b false)]) (Γ' := [⟨3, none⟩, ⟨3, none⟩, ⟨3, none⟩, ⟨3, none⟩, ⟨1, none⟩, ⟨2, none⟩, oF 1 r34, ⟨1, none⟩]) ⟨aR, aR, aR, trivial⟩ ⟨⟨rfl, .inl rfl⟩, ⟨rfl, .inl rfl⟩, ⟨rfl, .inl rfl⟩, ⟨rfl, .inl rfl⟩, ⟨rfl, .inl rfl⟩, ⟨rfl, .inl rfl⟩, ⟨rfl, .inr rfl⟩, ⟨rfl, .inl rfl⟩, trivial⟩<|yF<|RunC.skip<|zQ<|ya rfl (i64 1)<|zN ?_
               refine yS ?_
               obtain ⟨r45, hf41, h⟩ := oS h
               refine yW<|ym rfl (oref 6 1 0 r17.length)<|ym rfl (i64 1)<|yd rfl (i64 r45) (yc ent17 rfl rfl (Bors.cons (Bor.own (f := f32) (fun _ => rfl) rfl (of_decide_eq_true hn30)) bN0) (K1t_ok r34 1 r45 hf41))<|ya rfl (i64 r45)<|zN ?_
               refine RunC.wl (τ' := [(21, i64 r33), (22, i64 r45)]) (Γ' := [⟨3, none⟩, ⟨3, none⟩, ⟨3, none⟩, ⟨3, none⟩, ⟨1, none⟩, ⟨2, none⟩, ⟨1, none⟩, ⟨1, none⟩]) ⟨aR, aR, trivial⟩ ⟨⟨rfl, .inl rfl⟩, ⟨rfl, .inl rfl⟩, ⟨rfl, .inl rfl⟩, ⟨rfl, .inl rfl⟩, ⟨rfl, .inl rfl⟩, ⟨rfl, .inl rfl⟩, ⟨rfl, .inl rfl⟩, ⟨rfl, .inl rfl⟩, trivial⟩<|yS<|yS ?_
               rcases oB h with ⟨hc42, h⟩ | ⟨hc42, h⟩
               ·refine yW<|ym rfl (i64 r45)<|yl rfl (b true) (LOp.eqb (LOp.lss rfl rfl rfl) hc42)<|zN ?_
                refine yT<|zQ<|ya rfl (b false)<|zN ?_
                refine RunC.ret ?_
                have hq := oI h
                subst q0
                exact bR rfl
               ·refine yW<|ym rfl (i64 r45)<|yl rfl (b false) (LOp.eqb (LOp.lss rfl rfl rfl) hc42)<|zN ?_
                refine yF<|RunC.skip<|yS<|yS ?_
                rcases oB h with ⟨hc43, h⟩ | ⟨hc43, h⟩
                ·refine yW<|ym rfl (i64 r45)<|ym rfl (i64 r33)<|yl rfl (b true) (LOp.eqb (LOp.neq rfl rfl rfl) hc43)<|zN ?_
                 refine yT<|zQ<|ya rfl (b false)<|zN ?_
                 refine RunC.ret ?_
                 have hq := oI h
                 subst q0
                 exact bR rfl
                ·refine yW<|ym rfl (i64 r45)<|ym rfl (i64 r33)<|yl rfl (b false) (LOp.eqb (LOp.neq rfl rfl rfl) hc43)<|zN ?_
                 refine yF<|RunC.skip<|zQ<|ya rfl (b true)<|zN ?_
                 refine RunC.ret ?_
                 have hq := oI h
                 subst q0
                 exact bR rfl
            ·refine yW<|ym rfl (oref 5 2 0 r43.length)<|ym rfl (oref 4 1 0 r9.length)<|yd rfl (b false) (TOp.eqb (yc ent13 rfl rfl (Bors.cons (Bor.own (f := f32) (fun _ => rfl) rfl rfl) (Bors.cons (Bor.own (f := f32) (fun _ => rfl) rfl rfl) bN)) (K1n_ok r43 r9 r44 hf37)) hc38)<|yl rfl (b true) n0<|ym rfl (b true)<|yR rfl<|yR rfl<|yR rfl<|yl rfl (b true) yq<|ym rfl (b true)<|yR rfl<|yR rfl<|yR rfl<|yl rfl (b true) yq<|zN ?_
             refine RunC.wl (τ' := [(17, oref 6 1 0 r17.length), (21, i64 r33), (144, b true)]) (Γ' := [⟨3, none⟩, ⟨3, none⟩, ⟨3, none⟩, ⟨3, none⟩, ⟨1, none⟩, ⟨2, none⟩, oF 1 r34, ⟨1, none⟩]) ⟨aR, aR, aR, trivial⟩ ⟨⟨rfl, .inl rfl⟩, ⟨rfl, .inl rfl⟩, ⟨rfl, .inl rfl⟩, ⟨rfl, .inl rfl⟩, ⟨rfl, .inl rfl⟩, ⟨rfl, .inl rfl⟩, ⟨rfl, .inr rfl⟩, ⟨rfl, .inl rfl⟩, trivial⟩<|yT<|zQ<|ya rfl (b false)<|zN ?_
             refine RunC.ret ?_
             have hq := oI h
             subst q0
             exact bR rfl
         ·refine yW<|ym rfl (i64 r30)<|yl rfl (b false) (LOp.eqb (LOp.lss rfl rfl rfl) hc26)<|ym rfl (b false)<|ym rfl (oref 6 1 0 r17.length)<|ym rfl (oref 4 1 0 r9.length)<|yd rfl (b false) (TOp.eqb (yc ent13 rfl rfl (Bors.cons (Bor.own (f := f32) (fun _ => rfl) rfl rfl) (Bors.cons (Bor.own (f := f32) (fun _ => rfl) rfl rfl) bN)) (K1n_ok r17 r9 r32 hf27)) hc28)<|yl rfl (b true) n0<|yl rfl (b true) yp<|ym rfl (b true)<|yR rfl<|yR rfl<|yR rfl<|yl rfl (b true) yq<|ym rfl (b true)<|yR rfl<|yR rfl<|yR rfl<|yl rfl (b true) yq<|zN ?_
          refine RunC.wl (τ' := [(1, (sFc a4)), (2, f32 a5), (3, f32 a6), (4, i64 a7), (5, ptr [i64 a0, sl a1.length (a1.map i64), sl a2.length (a2.map i64), (sFc a3)]), (12, oref 4 1 0 r9.length), (13, i64 r7), (14, b r8), (17, oref 6 1 0 r17.length), (107, b true)]) (Γ' := [⟨2, none⟩, ⟨2, none⟩, ⟨2, none⟩, ⟨2, none⟩, oF 1 r9, ⟨1, none⟩, oF 1 r17, ⟨1, none⟩]) ⟨aR, aR, aR, aR, aR, aR, aR, aR, aR, aR, trivial⟩ ⟨⟨rfl, .inl rfl⟩, ⟨rfl, .inl rfl⟩, ⟨rfl, .inl rfl⟩, ⟨rfl, .inl rfl⟩, ⟨rfl, .inr rfl⟩, ⟨rfl, .inl rfl⟩, ⟨rfl, .inr rfl⟩, ⟨rfl, .inl rfl⟩, trivial⟩<|yT<|zQ<|ya rfl (b false)<|zN ?_
          refine RunC.ret ?_
          have hq := oI h
          subst q0
          exact bR rfl
       ·refine yW<|ym rfl (oref 5 1 0 r14.length)<|ym rfl (sFc a4)<|ye rfl (oref 7 1 0 r24.length) ([oJ 2 r11, oJ 2 r12, oF 2 r13, ⟨2, some [i64 r10, oref 0 2 0 r11.length, oref 1 2 0 r12.length, oref 2 2 0 r13.length]⟩, oF 1 r9, oF 1 r14, oF 1 r17, oF 1 r24]) (TOp.callBN (ls := [(r24.map f32)]) [7] (CallAs.func ent11 rfl rfl) (bS bN) rfl (K04_ok a4 r24 hf17) (and_all (lts0_map (f := f32) (fun _ => rfl) _) rfl) (and_all (noss_map (f := f32) (fun _ => rfl) _) rfl) rfl (by decide) (ns_of ⟨⟨_, rfl⟩, trivial⟩))<|yd rfl (b false) (TOp.eqb (yc ent13 rfl rfl (Bors.cons (Bor.own (f := f32) (fun _ => rfl) rfl rfl) (Bors.cons (Bor.own (f := f32) (fun _ => rfl) rfl rfl) bN)) (K1n_ok r14 r24 r25 hf18)) hc19)<|yl rfl (b true) n0<|zN ?_
        refine RunC.wl (τ' := [(1, (sFc a4)), (2, f32 a5), (3, f32 a6), (4, i64 a7), (5, ptr [i64 a0, sl a1.length (a1.map i64), sl a2.length (a2.map i64), (sFc a3)]), (12, oref 4 1 0 r9.length), (13, i64 r7), (14, b r8), (15, optr 3 2 0), (16, oref 5 1 0 r14.length), (17, oref 6 1 0 r17.length), (18, i64 r15), (19, b r16), (83, b true)]) (Γ' := [oJ 2 r11, oJ 2 r12, oF 2 r13, ⟨2, some [i64 r10, oref 0 2 0 r11.length, oref 1 2 0 r12.length, oref 2 2 0 r13.length]⟩, oF 1 r9, oF 1 r14, oF 1 r17, ⟨1, none⟩]) ⟨aR, aR, aR, aR, aR, aR, aR, aR, aR, aR, aR, aR, aR, aR, trivial⟩ ⟨⟨rfl, .inr rfl⟩, ⟨rfl, .inr rfl⟩, ⟨rfl, .inr rfl⟩, ⟨rfl, .inr rfl⟩, ⟨rfl, .inr rfl⟩, ⟨rfl, .inr rfl⟩, ⟨rfl, .inr rfl⟩, ⟨rfl, .inl rfl⟩, trivial⟩<|yT<|zQ<|ya rfl (b false)<|zN ?_
        refine RunC.ret ?_
        have hq := oI h
        subst q0
        exact bR rfl
      ·refine RunC.region_draw (Γ' := [oJ 2 r11, oJ 2 r12, oF 2 r13, ⟨2, some [i64 r10, oref 0 2 0 r11.length, oref 1 2 0 r12.length, oref 2 2 0 r13.length]⟩, oF 1 r9, oF 1 r14, oF 1 r17, o0]) 5 mixed 
        (TR.d (r := agg [i64 r10, oref 0 2 0 r11.length, oref 1 2 0 r12.length, oref 2 2 0 r13.length]) (fs := []) rfl rfl (yA agg30 siz30) <|
        (tl rfl (agg [i64 a0, sl a1.length (a1.map i64), sl a2.length (a2.map i64), (sFc a3)]) (yL agg25 siz25) <|
        (TR.d (r := agg [i64 r19, sl r20.length (r20.map i64), sl r21.length (r21.map i64), (sFc r22)]) (fs := []) rfl rfl (TOp.callS (CallAs.func ent10 rfl rfl) (ALes.cons aR ALes.nil) (lts_cons (lt_agg (lts_cons rfl (lts_cons (lt_sl (fun _ => rfl)) (lts_cons (lt_sl (fun _ => rfl)) (lts_cons (lt_sl (fun _ => rfl)) lts_nil))))) lts_nil) (lt_agg (lts_cons rfl (lts_cons (lt_sl (fun _ => rfl)) (lts_cons (lt_sl (fun _ => rfl)) (lts_cons (lt_sl (fun _ => rfl)) lts_nil))))) (K05_ok a0 a1 a2 a3 r19 r20 r21 r22 hf14) (Bor.agg (bP (Bors.cons (Bor.own (f := i64) (fun _ => rfl) rfl rfl) (Bors.cons (Bor.own (f := i64) (fun _ => rfl) rfl rfl) (Bors.cons (Bor.own (f := f32) (fun _ => rfl) rfl rfl) bN)))))) <|
        (TR.d (r := b false) (fs := []) rfl rfl (TOp.eqb (TOp.callB (CallAs.func ent14 rfl rfl) (Bors.cons (Bor.agg (bP (Bors.cons (Bor.own (f := i64) (fun _ => rfl) rfl rfl) (Bors.cons (Bor.own (f := i64) (fun _ => rfl) rfl rfl) (Bors.cons (Bor.own (f := f32) (fun _ => rfl) rfl rfl) bN))))) (Bors.cons (Bor.agg (bP (bS (bS (bS bN))))) bN)) rfl rfl (K1p_ok r10 r11 r12 r13 r19 r20 r21 r22 r23 hf15)) hc16) <|
        (tl rfl (b true) (LOp.eqb (LOp.not rfl rfl) rfl) <|
        TR.nil))))) rfl (by kernel_rfl) rfl fills_nil rfl ?_
       iterate 5 refine ROps.dropS ?_
       refine ROps.drop0<|zN ?_
       refine RunC.wl (τ' := [(1, (sFc a4)), (2, f32 a5), (3, f32 a6), (4, i64 a7), (5, ptr [i64 a0, sl a1.length (a1.map i64), sl a2.length (a2.map i64), (sFc a3)]), (12, oref 4 1 0 r9.length), (13, i64 r7), (14, b r8), (15, optr 3 2 0), (16, oref 5 1 0 r14.length), (17, oref 6 1 0 r17.length), (18, i64 r15), (19, b r16), (78, b true)]) (Γ' := [oJ 2 r11, oJ 2 r12, oF 2 r13, ⟨2, some [i64 r10, oref 0 2 0 r11.length, oref 1 2 0 r12.length, oref 2 2 0 r13.length]⟩, oF 1 r9, oF 1 r14, oF 1 r17, o0]) ⟨aR, aR, aR, aR, aR, aR, aR, aR, aR, aR, aR, aR, aR, aR, trivial⟩ ⟨⟨rfl, .inr rfl⟩, ⟨rfl, .inr rfl⟩, ⟨rfl, .inr rfl⟩, ⟨rfl, .inr rfl⟩, ⟨rfl, .inr rfl⟩, ⟨rfl, .inr rfl⟩, ⟨rfl, .inr rfl⟩, ⟨rfl, .inr rfl⟩, trivial⟩<|yT<|zQ<|ya rfl (b false)<|zN ?_
       refine RunC.ret ?_
       have hq := oI h
       subst q0
       exact bR rfl
   ·refine yW<|ym rfl (oref 6 1 0 r17.length)<|ym rfl (oref 4 1 0 r9.length)<|yd rfl (b false) (TOp.eqb (yc ent13 rfl rfl (Bors.cons (Bor.own (f := f32) (fun _ => rfl) rfl rfl) (Bors.cons (Bor.own (f := f32) (fun _ => rfl) rfl rfl) bN)) (K1n_ok r17 r9 r18 hf10)) hc11)<|yl rfl (b true) n0<|ym rfl (b true)<|yR rfl<|yR rfl<|yR rfl<|yl rfl (b true) yq<|ym rfl (b true)<|yR rfl<|yR rfl<|yR rfl<|yl rfl (b true) yq<|zN ?_
    refine yT<|zQ<|ya rfl (b false)<|zN ?_
    refine RunC.ret ?_
    have hq := oI h
    subst q0
    exact bR rfl
end
end Go.Proofs.Ytfhbfpdeafpelaa
