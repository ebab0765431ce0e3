/- Generated. -/
import Derived.Test.YtcifbefhglffhaaGreatG1
namespace Go.Proofs.YtcifbefhglffhaaGreat
open Go Go.AM Go.AM.AV
set_option maxRecDepth 20000
set_option maxHeartbeats 4000000
set_option linter.unusedVariables false
set_option linter.unusedSimpArgs false
noncomputable section
def K2m_b1 (a0 : Int) (a1 : Int) (a2 : List F) (v3 : Int) : Option (LR (Int) (Unit) (Bool)) :=
 bsel (decide (v3 < a0)) (
  obind (K2l a0 a1 a2 v3 v3) fun (r4 : F) =>
  bsel (feq .f32 r4 (some 0)) (
   some (LR.ret false)) (
   olet (IntKind.i64.wrap (v3 + 1)) fun (x5 : Int) =>
   some (LR.next x5))) (
  some (LR.out ()))
def K2m_s1 (a0 : Int) (a1 : Int) (a2 : List F) : (Int) → Option (LR (Int) (Unit) (Bool)) := fun s => K2m_b1 a0 a1 a2 s
def K2m_k1  : Option (Bool) :=
 some true
def K2m (a0 : Int) (a1 : Int) (a2 : List F) (a3 : List Int) : Option (Bool) :=
 obind (K2k a0 a1 a2) fun (r1 : Bool) =>
 bsel r1 (
  obind (K2e a3) fun (r2 : Bool) =>
  bsel r2 (
   bsel (!decide ((a3.length : Int) = a0)) (
    some false) (
    obind (loopM (K2m_s1 a0 a1 a2) 0) fun z => osum z (fun _ => K2m_k1) (fun r => some r))) (
   some false)) (
  some false)
theorem K2m_ok (a0 : Int) (a1 : Int) (a2 : List F) (a3 : List Int) (q0 : Bool) (h : K2m a0 a1 a2 a3 = some q0) : Ev Tryz.prog 52 [ptr [i64 a0, i64 a1, (sFc a2), sl a3.length (a3.map i64)]] [] (b q0) [] := by
 refine yE Tryz.func52 0 93 0 ([(0, ptr [i64 a0, i64 a1, (sFc a2), sl a3.length (a3.map i64)])]) [] rfl ?_
 unfold K2m at h
 refine zQ<|ya rfl (b false)<|zN ?_
 refine yS<|yS ?_
 obtain ⟨r1, hf1, h⟩ := oS h
 rcases oB h with ⟨hc2, h⟩ | ⟨hc2, h⟩
 ·obtain ⟨r2, hf3, h⟩ := oS h
  rcases oB h with ⟨hc4, h⟩ | ⟨hc4, h⟩
  ·rcases oB h with ⟨hc5, h⟩ | ⟨hc5, h⟩
   ·refine RunC.region_draw (Γ' := []) 26 mixed 
     (tm rfl (ptr [i64 a0, i64 a1, (sFc a2), sl a3.length (a3.map i64)]) <|
     (tl rfl (ptr [i64 a0, i64 a1, (sFc a2), sl a3.length (a3.map i64)]) y4 <|
     (tl rfl (ptr [i64 a0, i64 a1, (sFc a2), sl a3.length (a3.map i64)]) (LOp.fap und41 rfl siz27 rfl rfl rfl) <|
     (TR.d (r := b true) (fs := []) rfl rfl (TOp.eqb (TOp.callB (CallAs.func ent83 rfl rfl) (Bors.cons (Bor.ptrT 3 (bP (bP (bS (bS bN)))) rfl) bN) rfl rfl (K2k_ok a0 a1 a2 r1 hf1)) hc2) <|
     (tl rfl (b false) (LOp.eqb (LOp.not rfl rfl) rfl) <|
     (tm rfl (b false) <|
     (tm rfl (ptr [i64 a0, i64 a1, (sFc a2), sl a3.length (a3.map i64)]) <|
     (tl rfl (ptr [i64 a0, i64 a1, (sFc a2), sl a3.length (a3.map i64)]) y4 <|
     (tl rfl (ptr [sl a3.length (a3.map i64)]) (LOp.fap und41 rfl siz39 rfl rfl rfl) <|
     (tl rfl (sl a3.length (a3.map i64)) (y2 agg39) <|
     (TR.d (r := b true) (fs := []) rfl rfl (TOp.eqb (yc ent51 rfl rfl (bS bN) (K2e_ok a3 r2 hf3)) hc4) <|
     (tl rfl (b false) (LOp.eqb (LOp.not rfl rfl) rfl) <|
     (tl rfl (b false) yp <|
     (tm rfl (b false) <|
     (tm rfl (ptr [i64 a0, i64 a1, (sFc a2), sl a3.length (a3.map i64)]) <|
     (tl rfl (ptr [i64 a0, i64 a1, (sFc a2), sl a3.length (a3.map i64)]) y4 <|
     (tl rfl (ptr [sl a3.length (a3.map i64)]) (LOp.fap und41 rfl siz39 rfl rfl rfl) <|
     (tl rfl (sl a3.length (a3.map i64)) (y2 agg39) <|
     (tl rfl (i64 (a3.length : Int)) (LOp.len_sl und39 rfl rfl) <|
     (tm rfl (ptr [i64 a0, i64 a1, (sFc a2), sl a3.length (a3.map i64)]) <|
     (tl rfl (ptr [i64 a0, i64 a1, (sFc a2), sl a3.length (a3.map i64)]) y4 <|
     (tl rfl (ptr [i64 a0, i64 a1, (sFc a2), sl a3.length (a3.map i64)]) (LOp.fap und41 rfl siz27 rfl rfl rfl) <|
     (tl rfl (ptr [i64 a0, i64 a1, (sFc a2), sl a3.length (a3.map i64)]) (LOp.fap und27 rfl siz2 rfl rfl rfl) <|
     (tl rfl (i64 a0) (y2 agg2) <|
     (tl rfl (b true) (LOp.eqb (LOp.neq rfl rfl rfl) hc5) <|
     (tl rfl (b true) yp <|
     TR.nil)))))))))))))))))))))))))) rfl (by kernel_rfl) rfl fills_nil rfl ?_
    iterate 26 refine ROps.dropS ?_
    refine ROps.drop0<|zN ?_
    refine RunC.wl (τ' := [(0, ptr [i64 a0, i64 a1, (sFc a2), sl a3.length (a3.map i64)]), (29, b true)]) (Γ' := []) ⟨aR, aR, trivial⟩ trivial<|yT<|zQ<|ya rfl (b false)<|zN ?_
    refine RunC.ret ?_
    have hq := oI h
    subst q0
    exact bR rfl
   ·refine RunC.region_draw (Γ' := []) 26 mixed 
     (tm rfl (ptr [i64 a0, i64 a1, (sFc a2), sl a3.length (a3.map i64)]) <|
     (tl rfl (ptr [i64 a0, i64 a1, (sFc a2), sl a3.length (a3.map i64)]) y4 <|
     (tl rfl (ptr [i64 a0, i64 a1, (sFc a2), sl a3.length (a3.map i64)]) (LOp.fap und41 rfl siz27 rfl rfl rfl) <|
     (TR.d (r := b true) (fs := []) rfl rfl (TOp.eqb (TOp.callB (CallAs.func ent83 rfl rfl) (Bors.cons (Bor.ptrT 3 (bP (bP (bS (bS bN)))) rfl) bN) rfl rfl (K2k_ok a0 a1 a2 r1 hf1)) hc2) <|
     (tl rfl (b false) (LOp.eqb (LOp.not rfl rfl) rfl) <|
     (tm rfl (b false) <|
     (tm rfl (ptr [i64 a0, i64 a1, (sFc a2), sl a3.length (a3.map i64)]) <|
     (tl rfl (ptr [i64 a0, i64 a1, (sFc a2), sl a3.length (a3.map i64)]) y4 <|
     (tl rfl (ptr [sl a3.length (a3.map i64)]) (LOp.fap und41 rfl siz39 rfl rfl rfl) <|
     (tl rfl (sl a3.length (a3.map i64)) (y2 agg39) <|
     (TR.d (r := b true) (fs := []) rfl rfl (TOp.eqb (yc ent51 rfl rfl (bS bN) (K2e_ok a3 r2 hf3)) hc4) <|
     (tl rfl (b false) (LOp.eqb (LOp.not rfl rfl) rfl) <|
     (tl rfl (b false) yp <|
     (tm rfl (b false) <|
     (tm rfl (ptr [i64 a0, i64 a1, (sFc a2), sl a3.length (a3.map i64)]) <|
     (tl rfl (ptr [i64 a0, i64 a1, (sFc a2), sl a3.length (a3.map i64)]) y4 <|
     (tl rfl (ptr [sl a3.length (a3.map i64)]) (LOp.fap und41 rfl siz39 rfl rfl rfl) <|
     (tl rfl (sl a3.length (a3.map i64)) (y2 agg39) <|
     (tl rfl (i64 (a3.length : Int)) (LOp.len_sl und39 rfl rfl) <|
     (tm rfl (ptr [i64 a0, i64 a1, (sFc a2), sl a3.length (a3.map i64)]) <|
     (tl rfl (ptr [i64 a0, i64 a1, (sFc a2), sl a3.length (a3.map i64)]) y4 <|
     (tl rfl (ptr [i64 a0, i64 a1, (sFc a2), sl a3.length (a3.map i64)]) (LOp.fap und41 rfl siz27 rfl rfl rfl) <|
     (tl rfl (ptr [i64 a0, i64 a1, (sFc a2), sl a3.length (a3.map i64)]) (LOp.fap und27 rfl siz2 rfl rfl rfl) <|
     (tl rfl (i64 a0) (y2 agg2) <|
     (tl rfl (b false) (LOp.eqb (LOp.neq rfl rfl rfl) hc5) <|
     (tl rfl (b false) yp <|
     TR.nil)))))))))))))))))))))))))) rfl (by kernel_rfl) rfl fills_nil rfl ?_
    iterate 26 refine ROps.dropS ?_
    refine ROps.drop0<|zN ?_
    refine RunC.wl (τ' := [(0, ptr [i64 a0, i64 a1, (sFc a2), sl a3.length (a3.map i64)]), (29, b false)]) (Γ' := []) ⟨aR, aR, trivial⟩ trivial<|yF<|RunC.skip<|yS<|zQ<|ya rfl (i64 0)<|zN ?_
    obtain ⟨z2, hz_2, h⟩ := oS h
    refine RunC.cutN (fun τ Γ => WeakLe τ [] ∧ DeadLe Γ [] ∧ z2 = .inl ()) ?_ ?_
    ·refine RunC.block (RunC.loop (RunL.loopM (x := z2) (K2m_s1 a0 a1 a2) (fun (s : Int) τ Γ => WeakLe τ [(0, ptr [i64 a0, i64 a1, (sFc a2), sl a3.length (a3.map i64)]), (3, i64 s)] ∧ DeadLe Γ []) ?_ _ _ _ hz_2 ⟨⟨aR, aR, trivial⟩, trivial⟩))
     rintro v3 τ2 Γ2 y2_ ⟨hw2, hd2⟩ h2_ ho2 hr2
     refine RunC.wl (τ' := [(0, ptr [i64 a0, i64 a1, (sFc a2), sl a3.length (a3.map i64)]), (3, i64 v3)]) (Γ' := []) hw2 hd2 ?_
     replace h2_ : K2m_b1 a0 a1 a2 v3 = some y2_ := h2_
     unfold K2m_b1 at h2_
     refine yS<|yS ?_
     rcases oB h2_ with ⟨hc6, h2_⟩ | ⟨hc6, h2_⟩
     ·refine yW<|ym rfl (i64 v3)<|ym rfl (ptr [i64 a0, i64 a1, (sFc a2), sl a3.length (a3.map i64)])<|yl rfl (ptr [i64 a0, i64 a1, (sFc a2), sl a3.length (a3.map i64)]) y4<|yl rfl (ptr [i64 a0, i64 a1, (sFc a2), sl a3.length (a3.map i64)]) (LOp.fap und41 rfl siz27 rfl rfl rfl)<|yl rfl (ptr [i64 a0, i64 a1, (sFc a2), sl a3.length (a3.map i64)]) (LOp.fap und27 rfl siz2 rfl rfl rfl)<|yl rfl (i64 a0) (y2 agg2)<|yl rfl (b true) (LOp.eqb (LOp.lss rfl rfl rfl) hc6)<|zN ?_
      refine yT<|RunC.skip<|yS<|RunC.block<|yS ?_
      obtain ⟨r4, hf7, h2_⟩ := oS h2_
      rcases oB h2_ with ⟨hc8, h2_⟩ | ⟨hc8, h2_⟩
      ·refine yW<|ym rfl (ptr [i64 a0, i64 a1, (sFc a2), sl a3.length (a3.map i64)])<|yl rfl (ptr [i64 a0, i64 a1, (sFc a2), sl a3.length (a3.map i64)]) y4<|yl rfl (ptr [i64 a0, i64 a1, (sFc a2), sl a3.length (a3.map i64)]) (LOp.fap und41 rfl siz27 rfl rfl rfl)<|ym rfl (i64 v3)<|ym rfl (i64 v3)<|yd rfl (f32 r4) (TOp.callB (CallAs.func ent84 rfl rfl) (Bors.cons (Bor.ptrT 3 (bP (bP (bS (bS bN)))) rfl) (bP bN0)) rfl rfl (K2l_ok a0 a1 a2 v3 v3 r4 hf7))<|yl rfl (b true) (LOp.eqb (LOp.feq rfl (OpF.tmp rfl) (OpF.const rfl (by kernel_rfl) (by kernel_rfl))) hc8)<|zN ?_
       refine RunC.wl (τ' := [(0, ptr [i64 a0, i64 a1, (sFc a2), sl a3.length (a3.map i64)]), (3, i64 v3), (45, b true)]) (Γ' := []) ⟨aR, aR, aR, trivial⟩ trivial<|yT<|zQ<|ya rfl (b false)<|zN ?_
       refine RunC.ret ?_
       cases oI h2_
       have hx3_ := hr2 _ rfl
       subst hx3_
       have hq := oI h
       subst q0
       exact bR rfl
      ·refine yW<|ym rfl (ptr [i64 a0, i64 a1, (sFc a2), sl a3.length (a3.map i64)])<|yl rfl (ptr [i64 a0, i64 a1, (sFc a2), sl a3.length (a3.map i64)]) y4<|yl rfl (ptr [i64 a0, i64 a1, (sFc a2), sl a3.length (a3.map i64)]) (LOp.fap und41 rfl siz27 rfl rfl rfl)<|ym rfl (i64 v3)<|ym rfl (i64 v3)<|yd rfl (f32 r4) (TOp.callB (CallAs.func ent84 rfl rfl) (Bors.cons (Bor.ptrT 3 (bP (bP (bS (bS bN)))) rfl) (bP bN0)) rfl rfl (K2l_ok a0 a1 a2 v3 v3 r4 hf7))<|yl rfl (b false) (LOp.eqb (LOp.feq rfl (OpF.tmp rfl) (OpF.const rfl (by kernel_rfl) (by kernel_rfl))) hc8)<|zN ?_
       refine RunC.wl (τ' := [(0, ptr [i64 a0, i64 a1, (sFc a2), sl a3.length (a3.map i64)]), (3, i64 v3), (45, b false)]) (Γ' := []) ⟨aR, aR, aR, trivial⟩ trivial<|yF<|RunC.skip ?_
       obtain ⟨x5, hx9, h2_⟩ := oL h2_
       refine yW<|ym rfl (i64 v3)<|yl rfl (i64 x5) (LOp.eqr (LOp.add rfl rfl rfl) (congrArg (ik .i64) hx9))<|ya rfl (i64 x5)<|zN ?_
       cases oI h2_
       exact ⟨_, rfl, ⟨aR, aR, trivial⟩, trivial⟩
     ·refine yW<|ym rfl (i64 v3)<|ym rfl (ptr [i64 a0, i64 a1, (sFc a2), sl a3.length (a3.map i64)])<|yl rfl (ptr [i64 a0, i64 a1, (sFc a2), sl a3.length (a3.map i64)]) y4<|yl rfl (ptr [i64 a0, i64 a1, (sFc a2), sl a3.length (a3.map i64)]) (LOp.fap und41 rfl siz27 rfl rfl rfl)<|yl rfl (ptr [i64 a0, i64 a1, (sFc a2), sl a3.length (a3.map i64)]) (LOp.fap und27 rfl siz2 rfl rfl rfl)<|yl rfl (i64 a0) (y2 agg2)<|yl rfl (b false) (LOp.eqb (LOp.lss rfl rfl rfl) hc6)<|zN ?_
      refine yF<|RunC.exit ?_
      cases oI h2_
      have hx := ho2 _ rfl
      exact ⟨trivial, trivial, hx⟩
    ·rintro τ4 Γ4 ⟨hw4, hd4, rfl⟩
     refine RunC.wl hw4 hd4 ?_
     replace h : K2m_k1 = some q0 := h
     unfold K2m_k1 at h
     refine zQ<|ya rfl (b true)<|zN ?_
     refine RunC.ret ?_
     have hq := oI h
     subst q0
     exact bR rfl
  ·refine RunC.region_draw (Γ' := []) 26 mixed 
    (tm rfl (ptr [i64 a0, i64 a1, (sFc a2), sl a3.length (a3.map i64)]) <|
    (tl rfl (ptr [i64 a0, i64 a1, (sFc a2), sl a3.length (a3.map i64)]) y4 <|
    (tl rfl (ptr [i64 a0, i64 a1, (sFc a2), sl a3.length (a3.map i64)]) (LOp.fap und41 rfl siz27 rfl rfl rfl) <|
    (TR.d (r := b true) (fs := []) rfl rfl (TOp.eqb (TOp.callB (CallAs.func ent83 rfl rfl) (Bors.cons (Bor.ptrT 3 (bP (bP (bS (bS bN)))) rfl) bN) rfl rfl (K2k_ok a0 a1 a2 r1 hf1)) hc2) <|
    (tl rfl (b false) (LOp.eqb (LOp.not rfl rfl) rfl) <|
    (tm rfl (b false) <|
    (tm rfl (ptr [i64 a0, i64 a1, (sFc a2), sl a3.length (a3.map i64)]) <|
    (tl rfl (ptr [i64 a0, i64 a1, (sFc a2), sl a3.length (a3.map i64)]) y4 <|
    (tl rfl (ptr [sl a3.length (a3.map i64)]) (LOp.fap und41 rfl siz39 rfl rfl rfl) <|
    (tl rfl (sl a3.length (a3.map i64)) (y2 agg39) <|
    (TR.d (r := b false) (fs := []) rfl rfl (TOp.eqb (yc ent51 rfl rfl (bS bN) (K2e_ok a3 r2 hf3)) hc4) <|
    (tl rfl (b true) (LOp.eqb (LOp.not rfl rfl) rfl) <|
    (tl rfl (b true) yp <|
    (tm rfl (b true) <|
    (ts rfl <|
    (ts rfl <|
    (ts rfl <|
    (ts rfl <|
    (ts rfl <|
    (ts rfl <|
    (ts rfl <|
    (ts rfl <|
    (ts rfl <|
    (ts rfl <|
    (ts rfl <|
    (tl rfl (b true) yq <|
    TR.nil)))))))))))))))))))))))))) rfl (by kernel_rfl) rfl fills_nil rfl ?_
   iterate 26 refine ROps.dropS ?_
   refine ROps.drop0<|zN ?_
   refine RunC.wl (τ' := [(0, ptr [i64 a0, i64 a1, (sFc a2), sl a3.length (a3.map i64)]), (29, b true)]) (Γ' := []) ⟨aR, aR, trivial⟩ trivial<|yT<|zQ<|ya rfl (b false)<|zN ?_
   refine RunC.ret ?_
   have hq := oI h
   subst q0
   exact bR rfl
 ·refine RunC.region_draw (Γ' := []) 26 mixed 
   (tm rfl (ptr [i64 a0, i64 a1, (sFc a2), sl a3.length (a3.map i64)]) <|
   (tl rfl (ptr [i64 a0, i64 a1, (sFc a2), sl a3.length (a3.map i64)]) y4 <|
   (tl rfl (ptr [i64 a0, i64 a1, (sFc a2), sl a3.length (a3.map i64)]) (LOp.fap und41 rfl siz27 rfl rfl rfl) <|
   (TR.d (r := b false) (fs := []) rfl rfl (TOp.eqb (TOp.callB (CallAs.func ent83 rfl rfl) (Bors.cons (Bor.ptrT 3 (bP (bP (bS (bS bN)))) rfl) bN) rfl rfl (K2k_ok a0 a1 a2 r1 hf1)) hc2) <|
   (tl rfl (b true) (LOp.eqb (LOp.not rfl rfl) rfl) <|
   (tm rfl (b true) <|
   (ts rfl <|
   (ts rfl <|
   (ts rfl <|
   (ts rfl <|
   (ts rfl <|
   (ts rfl <|
   (tl rfl (b true) yq <|
   (tm rfl (b true) <|
   (ts rfl <|
   (ts rfl <|
   (ts rfl <|
   (ts rfl <|
   (ts rfl <|
   (ts rfl <|
   (ts rfl <|
   (ts rfl <|
   (ts rfl <|
   (ts rfl <|
   (ts rfl <|
   (tl rfl (b true) yq <|
   TR.nil)))))))))))))))))))))))))) rfl (by kernel_rfl) rfl fills_nil rfl ?_
  iterate 26 refine ROps.dropS ?_
  refine ROps.drop0<|zN ?_
  refine RunC.wl (τ' := [(0, ptr [i64 a0, i64 a1, (sFc a2), sl a3.length (a3.map i64)]), (29, b true)]) (Γ' := []) ⟨aR, aR, trivial⟩ trivial<|yT<|zQ<|ya rfl (b false)<|zN ?_
  refine RunC.ret ?_
  have hq := oI h
  subst q0
  exact bR rfl
def K2n (a0 : Int) (a1 : Int) (a2 : List F) (a3 : List Int) : Option (Bool) :=
 obind (K2m a0 a1 a2 a3) fun (r1 : Bool) =>
 some r1
theorem K2n_ok (a0 : Int) (a1 : Int) (a2 : List F) (a3 : List Int) (q0 : Bool) (h : K2n a0 a1 a2 a3 = some q0) : Ev Tryz.prog 14 [agg [i64 a0, i64 a1, (sFc a2), sl a3.length (a3.map i64)]] [] (b q0) [] := by
 refine yE Tryz.func14 0 9 0 ([(0, agg [i64 a0, i64 a1, (sFc a2), sl a3.length (a3.map i64)])]) [] rfl ?_
 unfold K2n at h
 refine zQ<|yd rfl (ptr [i64 a0, i64 a1, (sFc a2), sl a3.length (a3.map i64)]) (TOp.box_s rfl rfl rfl)<|ya rfl (b false)<|zN ?_
 refine yS ?_
 obtain ⟨r1, hf1, h⟩ := oS h
 refine yW<|yd rfl (b r1) (TOp.callB (CallAs.func ent52 rfl rfl) (Bors.cons (Bor.ptr (bP (bP (bS (bS bN))))) bN) rfl rfl (K2m_ok a0 a1 a2 a3 r1 hf1))<|ya rfl (b r1)<|zN ?_
 refine RunC.ret ?_
 have hq := oI h
 subst q0
 exact bR rfl
def K2o (a0 : F) : Option (Int) :=
 bsel (!feq .f32 a0 a0) (
  some 2143289344) (
  obind (a0) fun (b1 : Nat) =>
  olet (IntKind.i64.wrap (b1 : Int)) fun (x2 : Int) =>
  some x2)
theorem K2o_ok (a0 : F) (q0 : Int) (h : K2o a0 = some q0) : Ev Tryz.prog 108 [f32 a0] [] (i64 q0) [] := by
 refine yE Tryz.func108 0 19 0 [(0, f32 a0)] [] rfl ?_
 unfold K2o at h
 refine zQ<|ya rfl (i64 0)<|zN ?_
 refine yS<|yS ?_
 rcases oB h with ⟨hc1, h⟩ | ⟨hc1, h⟩
 ·refine yW<|ym rfl (f32 a0)<|ym rfl (f32 a0)<|yl rfl (b true) (LOp.eqb (LOp.fne rfl (OpF.tmp rfl) (OpF.tmp rfl)) hc1)<|zN ?_
  refine yT<|zQ<|ya rfl (i64 2143289344)<|zN ?_
  refine RunC.ret ?_
  have hq := oI h
  subst q0
  exact bR rfl
 ·refine yW<|ym rfl (f32 a0)<|ym rfl (f32 a0)<|yl rfl (b false) (LOp.eqb (LOp.fne rfl (OpF.tmp rfl) (OpF.tmp rfl)) hc1)<|zN ?_
  refine yF<|RunC.skip<|yS ?_
  obtain ⟨b1, he2, h⟩ := oS h
  obtain ⟨x2, hx3, h⟩ := oL h
  refine yW<|ym rfl (f32 a0)<|yl rfl (ik .u32 (b1 : Int)) (LOp.fbx ext111 rfl (OpF.tmp rfl) he2)<|yl rfl (i64 x2) (LOp.eqr (LOp.i2i (src := 123) (dst := 2) ⟨_, pun123⟩ pun2 rfl rfl) (congrArg (ik .i64) hx3))<|ya rfl (i64 x2)<|zN ?_
  refine RunC.ret ?_
  have hq := oI h
  subst q0
  exact bR rfl
def K2p (a0 : F) (a1 : F) : Option (Bool) :=
 obind (K2o a0) fun (r1 : Int) =>
 obind (K2o a1) fun (r2 : Int) =>
 some (decide (r1 = r2))
theorem K2p_ok (a0 : F) (a1 : F) (q0 : Bool) (h : K2p a0 a1 = some q0) : Ev Tryz.prog 103 [f32 a0, f32 a1] [] (b q0) [] := by
 refine yE Tryz.func103 0 21 0 [(0, f32 a0), (1, f32 a1)] [] rfl ?_
 unfold K2p at h
 refine zQ<|ya rfl (b false)<|zN ?_
 refine yS ?_
 obtain ⟨r1, hf1, h⟩ := oS h
 obtain ⟨r2, hf2, h⟩ := oS h
 refine yW<|ym rfl (f32 a0)<|yd rfl (i64 r1) (yc ent108 rfl rfl bN0 (K2o_ok a0 r1 hf1))<|ym rfl (f32 a1)<|yd rfl (i64 r2) (yc ent108 rfl rfl bN0 (K2o_ok a1 r2 hf2))<|yl rfl (b (decide (r1 = r2))) (LOp.eql rfl rfl rfl)<|ya rfl (b (decide (r1 = r2)))<|zN ?_
 refine RunC.ret ?_
 have hq := oI h
 subst q0
 exact bR rfl
def K2q_b1 (a0 : List F) (a1 : List F) (v1 : Int) : Option (LR (Int) (Unit) (Bool)) :=
 bsel (decide (v1 < (a0.length : Int))) (
  obind (at? a0 v1) fun (e2 : F) =>
  obind (at? a1 v1) fun (e3 : F) =>
  obind (K2p e2 e3) fun (r4 : Bool) =>
  bsel r4 (
   olet (IntKind.i64.wrap (v1 + 1)) fun (x5 : Int) =>
   some (LR.next x5)) (
   some (LR.ret false))) (
  some (LR.out ()))
def K2q_s1 (a0 : List F) (a1 : List F) : (Int) → Option (LR (Int) (Unit) (Bool)) := fun s => K2q_b1 a0 a1 s
def K2q_k1  : Option (Bool) :=
 some true
def K2q (a0 : List F) (a1 : List F) : Option (Bool) :=
 bsel (!decide ((a0.length : Int) = (a1.length : Int))) (
  some false) (
  obind (loopM (K2q_s1 a0 a1) 0) fun z => osum z (fun _ => K2q_k1) (fun r => some r))
theorem K2q_ok (a0 : List F) (a1 : List F) (q0 : Bool) (h : K2q a0 a1 = some q0) : Ev Tryz.prog 85 [(sFc a0), (sFc a1)] [] (b q0) [] := by
 refine yE Tryz.func85 0 55 0 [(0, (sFc a0)), (1, (sFc a1))] [] rfl ?_
 unfold K2q at h
 refine zQ<|ya rfl (b false)<|zN ?_
 refine yS<|yS ?_
 rcases oB h with ⟨hc1, h⟩ | ⟨hc1, h⟩
 ·refine yW<|ym rfl (sFc a0)<|yl rfl (i64 (a0.length : Int)) (LOp.len_sl und25 rfl rfl)<|ym rfl (sFc a1)<|yl rfl (i64 (a1.length : Int)) (LOp.len_sl und25 rfl rfl)<|yl rfl (b true) (LOp.eqb (LOp.neq rfl rfl rfl) hc1)<|zN ?_
  refine yT<|zQ<|ya rfl (b false)<|zN ?_
  refine RunC.ret ?_
  have hq := oI h
  subst q0
  exact bR rfl
 ·refine yW<|ym rfl (sFc a0)<|yl rfl (i64 (a0.length : Int)) (LOp.len_sl und25 rfl rfl)<|ym rfl (sFc a1)<|yl rfl (i64 (a1.length : Int)) (LOp.len_sl und25 rfl rfl)<|yl rfl (b false) (LOp.eqb (LOp.neq rfl rfl rfl) hc1)<|zN ?_
  refine yF<|RunC.skip<|yS<|zQ<|ya rfl (i64 0)<|zN ?_
  obtain ⟨z2, hz_2, h⟩ := oS h
  refine RunC.cutN (fun τ Γ => WeakLe τ [] ∧ DeadLe Γ [] ∧ z2 = .inl ()) ?_ ?_
  ·refine RunC.block (RunC.loop (RunL.loopM (x := z2) (K2q_s1 a0 a1) (fun (s : Int) τ Γ => WeakLe τ [(0, (sFc a0)), (1, (sFc a1)), (5, i64 s)] ∧ DeadLe Γ []) ?_ _ _ _ hz_2 ⟨⟨aR, aR, aR, trivial⟩, trivial⟩))
   rintro v1 τ2 Γ2 y2_ ⟨hw2, hd2⟩ h2_ ho2 hr2
   refine RunC.wl (τ' := [(0, (sFc a0)), (1, (sFc a1)), (5, i64 v1)]) (Γ' := []) hw2 hd2 ?_
   replace h2_ : K2q_b1 a0 a1 v1 = some y2_ := h2_
   unfold K2q_b1 at h2_
   refine yS<|yS ?_
   rcases oB h2_ with ⟨hc2, h2_⟩ | ⟨hc2, h2_⟩
   ·refine yW<|ym rfl (i64 v1)<|ym rfl (sFc a0)<|yl rfl (i64 (a0.length : Int)) (LOp.len_sl und25 rfl rfl)<|yl rfl (b true) (LOp.eqb (LOp.lss rfl rfl rfl) hc2)<|zN ?_
    refine yT<|RunC.skip<|yS<|RunC.block<|yS ?_
    obtain ⟨e2, he3, h2_⟩ := oS h2_
    obtain ⟨e3, he4, h2_⟩ := oS h2_
    obtain ⟨r4, hf5, h2_⟩ := oS h2_
    rcases oB h2_ with ⟨hc6, h2_⟩ | ⟨hc6, h2_⟩
    ·refine RunC.region_draw (Γ' := []) 10 mixed 
      (tm rfl (sFc a0) <|
      (tm rfl (i64 v1) <|
      (tl rfl (ptr [f32 e2]) (LOp.le (LOp.ix (f := f32) und25 siz30 rfl rfl rfl rfl he3) ALe.ptr) <|
      (tl rfl (f32 e2) (y2 agg30) <|
      (tm rfl (sFc a1) <|
      (tm rfl (i64 v1) <|
      (tl rfl (ptr [f32 e3]) (LOp.le (LOp.ix (f := f32) und25 siz30 rfl rfl rfl rfl he4) ALe.ptr) <|
      (tl rfl (f32 e3) (y2 agg30) <|
      (TR.d (r := b true) (fs := []) rfl rfl (TOp.eqb (yc ent103 rfl rfl (bP bN0) (K2p_ok e2 e3 r4 hf5)) hc6) <|
      (tl rfl (b false) (LOp.eqb (LOp.not rfl rfl) rfl) <|
      TR.nil)))))))))) rfl (by kernel_rfl) rfl fills_nil rfl ?_
     iterate 10 refine ROps.dropS ?_
     refine ROps.drop0<|zN ?_
     refine RunC.wl (τ' := [(0, (sFc a0)), (1, (sFc a1)), (5, i64 v1), (26, b false)]) (Γ' := []) ⟨aR, aR, aR, aR, trivial⟩ trivial<|yF<|RunC.skip ?_
     obtain ⟨x5, hx7, h2_⟩ := oL h2_
     refine yW<|ym rfl (i64 v1)<|yl rfl (i64 x5) (LOp.eqr (LOp.add rfl rfl rfl) (congrArg (ik .i64) hx7))<|ya rfl (i64 x5)<|zN ?_
     cases oI h2_
     exact ⟨_, rfl, ⟨aR, aR, aR, trivial⟩, trivial⟩
    ·refine RunC.region_draw (Γ' := []) 10 mixed 
      (tm rfl (sFc a0) <|
      (tm rfl (i64 v1) <|
      (tl rfl (ptr [f32 e2]) (LOp.le (LOp.ix (f := f32) und25 siz30 rfl rfl rfl rfl he3) ALe.ptr) <|
      (tl rfl (f32 e2) (y2 agg30) <|
      (tm rfl (sFc a1) <|
      (tm rfl (i64 v1) <|
      (tl rfl (ptr [f32 e3]) (LOp.le (LOp.ix (f := f32) und25 siz30 rfl rfl rfl rfl he4) ALe.ptr) <|
      (tl rfl (f32 e3) (y2 agg30) <|
      (TR.d (r := b false) (fs := []) rfl rfl (TOp.eqb (yc ent103 rfl rfl (bP bN0) (K2p_ok e2 e3 r4 hf5)) hc6) <|
      (tl rfl (b true) (LOp.eqb (LOp.not rfl rfl) rfl) <|
      TR.nil)))))))))) rfl (by kernel_rfl) rfl fills_nil rfl ?_
     iterate 10 refine ROps.dropS ?_
     refine ROps.drop0<|zN ?_
     refine RunC.wl (τ' := [(0, (sFc a0)), (1, (sFc a1)), (5, i64 v1), (26, b true)]) (Γ' := []) ⟨aR, aR, aR, aR, trivial⟩ trivial<|yT<|zQ<|ya rfl (b false)<|zN ?_
     refine RunC.ret ?_
     cases oI h2_
     have hx3_ := hr2 _ rfl
     subst hx3_
     have hq := oI h
     subst q0
     exact bR rfl
   ·refine yW<|ym rfl (i64 v1)<|ym rfl (sFc a0)<|yl rfl (i64 (a0.length : Int)) (LOp.len_sl und25 rfl rfl)<|yl rfl (b false) (LOp.eqb (LOp.lss rfl rfl rfl) hc2)<|zN ?_
    refine yF<|RunC.exit ?_
    cases oI h2_
    have hx := ho2 _ rfl
    exact ⟨trivial, trivial, hx⟩
  ·rintro τ4 Γ4 ⟨hw4, hd4, rfl⟩
   refine RunC.wl hw4 hd4 ?_
   replace h : K2q_k1 = some q0 := h
   unfold K2q_k1 at h
   refine zQ<|ya rfl (b true)<|zN ?_
   refine RunC.ret ?_
   have hq := oI h
   subst q0
   exact bR rfl
def K2r (a0 : Int) (a1 : Int) (a2 : List F) (a3 : Int) (a4 : Int) (a5 : List F) : Option (Bool) :=
 bsel (decide (a0 = a3)) (
  bsel (decide (a1 = a4)) (
   obind (K2q a2 a5) fun (r1 : Bool) =>
   some r1) (
   some false)) (
  some false)
theorem K2r_ok (a0 : Int) (a1 : Int) (a2 : List F) (a3 : Int) (a4 : Int) (a5 : List F) (q0 : Bool) (h : K2r a0 a1 a2 a3 a4 a5 = some q0) : Ev Tryz.prog 53 [ptr (mXc a0 a1 a2), ptr (mXc a3 a4 a5)] [] (b q0) [] := by
 refine yE Tryz.func53 0 73 0 [(0, ptr (mXc a0 a1 a2)), (1, ptr (mXc a3 a4 a5))] [] rfl ?_
 unfold K2r at h
 refine zQ<|ya rfl (b false)<|zN ?_
 refine yS ?_
 rcases oB h with ⟨hc1, h⟩ | ⟨hc1, h⟩
 ·rcases oB h with ⟨hc2, h⟩ | ⟨hc2, h⟩
  ·obtain ⟨r1, hf3, h⟩ := oS h
   refine RunC.region_draw (Γ' := []) 32 mixed 
    (tm rfl (ptr (mXc a0 a1 a2)) <|
    (tl rfl (ptr (mXc a0 a1 a2)) y4 <|
    (tl rfl (ptr (mXc a0 a1 a2)) (LOp.fap und27 rfl siz2 rfl rfl rfl) <|
    (tl rfl (i64 a0) (y2 agg2) <|
    (tm rfl (ptr (mXc a3 a4 a5)) <|
    (tl rfl (ptr (mXc a3 a4 a5)) y4 <|
    (tl rfl (ptr (mXc a3 a4 a5)) (LOp.fap und27 rfl siz2 rfl rfl rfl) <|
    (tl rfl (i64 a3) (y2 agg2) <|
    (tl rfl (b true) (LOp.eqb (LOp.eql rfl rfl rfl) hc1) <|
    (tm rfl (b true) <|
    (tm rfl (ptr (mXc a0 a1 a2)) <|
    (tl rfl (ptr (mXc a0 a1 a2)) y4 <|
    (tl rfl (ptr [i64 a1, (sFc a2)]) (LOp.fap und27 rfl siz2 rfl rfl rfl) <|
    (tl rfl (i64 a1) (y2 agg2) <|
    (tm rfl (ptr (mXc a3 a4 a5)) <|
    (tl rfl (ptr (mXc a3 a4 a5)) y4 <|
    (tl rfl (ptr [i64 a4, (sFc a5)]) (LOp.fap und27 rfl siz2 rfl rfl rfl) <|
    (tl rfl (i64 a4) (y2 agg2) <|
    (tl rfl (b true) (LOp.eqb (LOp.eql rfl rfl rfl) hc2) <|
    (tl rfl (b true) yq <|
    (tm rfl (b true) <|
    (tm rfl (ptr (mXc a0 a1 a2)) <|
    (tl rfl (ptr (mXc a0 a1 a2)) y4 <|
    (tl rfl (ptr [(sFc a2)]) (LOp.fap und27 rfl siz25 rfl rfl rfl) <|
    (tl rfl (sFc a2) (y2 agg25) <|
    (tm rfl (ptr (mXc a3 a4 a5)) <|
    (tl rfl (ptr (mXc a3 a4 a5)) y4 <|
    (tl rfl (ptr [(sFc a5)]) (LOp.fap und27 rfl siz25 rfl rfl rfl) <|
    (tl rfl (sFc a5) (y2 agg25) <|
    (TR.d (r := b r1) (fs := []) rfl rfl (yc ent85 rfl rfl (bS (bS bN)) (K2q_ok a2 a5 r1 hf3)) <|
    (tl rfl (b r1) yq <|
    (tl rfl (b r1) (LOp.assign rfl rfl) <|
    TR.nil)))))))))))))))))))))))))))))))) rfl (by kernel_rfl) rfl fills_nil rfl ?_
   iterate 32 refine ROps.dropS ?_
   refine ROps.drop0<|zN ?_
   refine RunC.ret ?_
   have hq := oI h
   subst q0
   exact bR rfl
  ·refine RunC.region_draw (Γ' := []) 32 mixed 
    (tm rfl (ptr (mXc a0 a1 a2)) <|
    (tl rfl (ptr (mXc a0 a1 a2)) y4 <|
    (tl rfl (ptr (mXc a0 a1 a2)) (LOp.fap und27 rfl siz2 rfl rfl rfl) <|
    (tl rfl (i64 a0) (y2 agg2) <|
    (tm rfl (ptr (mXc a3 a4 a5)) <|
    (tl rfl (ptr (mXc a3 a4 a5)) y4 <|
    (tl rfl (ptr (mXc a3 a4 a5)) (LOp.fap und27 rfl siz2 rfl rfl rfl) <|
    (tl rfl (i64 a3) (y2 agg2) <|
    (tl rfl (b true) (LOp.eqb (LOp.eql rfl rfl rfl) hc1) <|
    (tm rfl (b true) <|
    (tm rfl (ptr (mXc a0 a1 a2)) <|
    (tl rfl (ptr (mXc a0 a1 a2)) y4 <|
    (tl rfl (ptr [i64 a1, (sFc a2)]) (LOp.fap und27 rfl siz2 rfl rfl rfl) <|
    (tl rfl (i64 a1) (y2 agg2) <|
    (tm rfl (ptr (mXc a3 a4 a5)) <|
    (tl rfl (ptr (mXc a3 a4 a5)) y4 <|
    (tl rfl (ptr [i64 a4, (sFc a5)]) (LOp.fap und27 rfl siz2 rfl rfl rfl) <|
    (tl rfl (i64 a4) (y2 agg2) <|
    (tl rfl (b false) (LOp.eqb (LOp.eql rfl rfl rfl) hc2) <|
    (tl rfl (b false) yq <|
    (tm rfl (b false) <|
    (ts rfl <|
    (ts rfl <|
    (ts rfl <|
    (ts rfl <|
    (ts rfl <|
    (ts rfl <|
    (ts rfl <|
    (ts rfl <|
    (ts rfl <|
    (tl rfl (b false) yp <|
    (tl rfl (b false) (LOp.assign rfl rfl) <|
    TR.nil)))))))))))))))))))))))))))))))) rfl (by kernel_rfl) rfl fills_nil rfl ?_
   iterate 32 refine ROps.dropS ?_
   refine ROps.drop0<|zN ?_
   refine RunC.ret ?_
   have hq := oI h
   subst q0
   exact bR rfl
 ·refine RunC.region_draw (Γ' := []) 32 mixed 
   (tm rfl (ptr (mXc a0 a1 a2)) <|
   (tl rfl (ptr (mXc a0 a1 a2)) y4 <|
   (tl rfl (ptr (mXc a0 a1 a2)) (LOp.fap und27 rfl siz2 rfl rfl rfl) <|
   (tl rfl (i64 a0) (y2 agg2) <|
   (tm rfl (ptr (mXc a3 a4 a5)) <|
   (tl rfl (ptr (mXc a3 a4 a5)) y4 <|
   (tl rfl (ptr (mXc a3 a4 a5)) (LOp.fap und27 rfl siz2 rfl rfl rfl) <|
   (tl rfl (i64 a3) (y2 agg2) <|
   (tl rfl (b false) (LOp.eqb (LOp.eql rfl rfl rfl) hc1) <|
   (tm rfl (b false) <|
   (ts rfl <|
   (ts rfl <|
   (ts rfl <|
   (ts rfl <|
   (ts rfl <|
   (ts rfl <|
   (ts rfl <|
   (ts rfl <|
   (ts rfl <|
   (tl rfl (b false) yp <|
   (tm rfl (b false) <|
   (ts rfl <|
   (ts rfl <|
   (ts rfl <|
   (ts rfl <|
   (ts rfl <|
   (ts rfl <|
   (ts rfl <|
   (ts rfl <|
   (ts rfl <|
   (tl rfl (b false) yp <|
   (tl rfl (b false) (LOp.assign rfl rfl) <|
   TR.nil)))))))))))))))))))))))))))))))) rfl (by kernel_rfl) rfl fills_nil rfl ?_
  iterate 32 refine ROps.dropS ?_
  refine ROps.drop0<|zN ?_
  refine RunC.ret ?_
  have hq := oI h
  subst q0
  exact bR rfl
def K2s (a0 : Int) (a1 : Int) (a2 : List F) (a3 : Int) (a4 : Int) (a5 : List F) : Option (Bool) :=
 obind (K2r a0 a1 a2 a3 a4 a5) fun (r1 : Bool) =>
 some r1
theorem K2s_ok (a0 : Int) (a1 : Int) (a2 : List F) (a3 : Int) (a4 : Int) (a5 : List F) (q0 : Bool) (h : K2s a0 a1 a2 a3 a4 a5 = some q0) : Ev Tryz.prog 15 [agg (mXc a0 a1 a2), agg (mXc a3 a4 a5)] [] (b q0) [] := by
 refine yE Tryz.func15 0 13 0 [(0, agg (mXc a0 a1 a2)), (1, agg (mXc a3 a4 a5))] [] rfl ?_
 unfold K2s at h
 refine zQ<|yd rfl (ptr (mXc a0 a1 a2)) (TOp.box_s rfl rfl rfl)<|yd rfl (ptr (mXc a3 a4 a5)) (TOp.box_s rfl rfl rfl)<|ya rfl (b false)<|zN ?_
 refine yS ?_
 obtain ⟨r1, hf1, h⟩ := oS h
 refine yW<|yd rfl (b r1) (TOp.callB (CallAs.func ent53 rfl rfl) (Bors.cons (Bor.ptr (bP (bP (bS bN)))) (Bors.cons (Bor.ptr (bP (bP (bS bN)))) bN)) rfl rfl (K2r_ok a0 a1 a2 a3 a4 a5 r1 hf1))<|ya rfl (b r1)<|zN ?_
 refine RunC.ret ?_
 have hq := oI h
 subst q0
 exact bR rfl
def K2t_b1 (a0 : Int) (a1 : Int) (a2 : List F) (L6 : List F) (v7 : Int) : Option (LR ((List F) × Int) ((List F)) (Int × Int × (List F))) :=
 olet (IntKind.i64.wrap (a0 * a1)) fun (x8 : Int) =>
 bsel (decide (v7 < x8)) (
  need (!decide (a0 = 0)) <|
  olet (v7.tmod a0) fun (x9 : Int) =>
  need (!decide (a0 = 0)) <|
  olet (IntKind.i64.wrap (v7.tdiv a0)) fun (x10 : Int) =>
  obind (K2l a0 a1 a2 x9 x10) fun (r11 : F) =>
  need (apok 4 L6.length 1) <|
  olet (IntKind.i64.wrap (v7 + 1)) fun (x12 : Int) =>
  some (LR.next ((L6 ++ ([r11] : List F)), x12))) (
  some (LR.out L6))
def K2t_s1 (a0 : Int) (a1 : Int) (a2 : List F) : ((List F) × Int) → Option (LR ((List F) × Int) ((List F)) (Int × Int × (List F))) := fun s => K2t_b1 a0 a1 a2 s.1 s.2
def K2t_k1 (r1 : Int) (r2 : Int) (L15 : List F) : Option (Int × Int × (List F)) :=
 some (r1, r2, L15)
def K2t (a0 : Int) (a1 : Int) (a2 : List F) : Option (Int × Int × (List F)) :=
 obind3 (K03 a1 a0) fun (r1 : Int) (r2 : Int) (r3 : List F) =>
 obind (loopM (K2t_s1 a0 a1 a2) (r3, 0)) fun z => osum z (fun e => K2t_k1 r1 r2 e) (fun r => some r)
theorem K2t_ok (a0 : Int) (a1 : Int) (a2 : List F) (q0 : Int) (q1 : Int) (q2 : List F) (h : K2t a0 a1 a2 = some (q0, q1, q2)) : Ev Tryz.prog 55 [ptr (mXc a0 a1 a2)] [] (agg (oXc q0 q1 0 0 q2.length)) [oF 0 q2] := by
 refine yE Tryz.func55 4 95 0 [(0, ptr (mXc a0 a1 a2))] [o0, o0, o0, o0] rfl ?_
 unfold K2t at h
 refine zQ<|ye rfl (optr 0 1 0) [⟨1, some zMx⟩, o0, o0, o0] (TOp.alloc_o (g := o0) 0 rfl zer27 zok27 rfl)<|zN ?_
 refine yS ?_
 obtain ⟨r1, r2, r3, hf1, h⟩ := obind3_some h
 refine RunC.region_draw (Γ' := [⟨1, some zMx⟩, oF 1 r3, ⟨1, some zMx⟩, o0]) 10 mixed 
  (tm rfl (ptr (mXc a0 a1 a2)) <|
  (tl rfl (ptr (mXc a0 a1 a2)) y4 <|
  (tl rfl (ptr [i64 a1, (sFc a2)]) (LOp.fap und27 rfl siz2 rfl rfl rfl) <|
  (tl rfl (i64 a1) (y2 agg2) <|
  (tm rfl (ptr (mXc a0 a1 a2)) <|
  (tl rfl (ptr (mXc a0 a1 a2)) y4 <|
  (tl rfl (ptr (mXc a0 a1 a2)) (LOp.fap und27 rfl siz2 rfl rfl rfl) <|
  (tl rfl (i64 a0) (y2 agg2) <|
  (TR.d (r := agg (oXc r1 r2 1 1 r3.length)) (fs := [(1, (r3.map f32))]) rfl rfl (TOp.callBN (ls := [(r3.map f32)]) [1] (CallAs.func ent23 rfl rfl) (bP bN0) rfl (K03_ok a1 a0 r1 r2 r3 hf1) (and_all (lts0_map (f := f32) (fun _ => rfl) _) rfl) (and_all (noss_map (f := f32) (fun _ => rfl) _) rfl) rfl (by decide) (ns_of ⟨⟨_, rfl⟩, trivial⟩)) <|
  (TR.d (r := optr 2 1 0) (fs := [(2, zMx)]) rfl rfl (TOp.alloc_o (g := o0) 2 rfl zer27 zok27 rfl) <|
  TR.nil)))))))))) rfl (by kernel_rfl) rfl (fills_of (by show List.Nodup [1, 2]; decide) ⟨⟨_, rfl⟩, ⟨_, rfl⟩, trivial⟩) rfl ?_
 iterate 10 refine ROps.dropS ?_
 refine ROps.drop0<|ys (agg (oXc r1 r2 1 1 r3.length)) (oXc r1 r2 1 1 r3.length) [⟨1, some zMx⟩, oF 1 r3, ⟨1, some (oXc r1 r2 1 1 r3.length)⟩, o0] siz27<|zN ?_
 refine yS<|zQ<|ya rfl (i64 0)<|zN ?_
 obtain ⟨z2, hz_2, h⟩ := oS h
 refine RunC.cutN (fun τ Γ => ∃ (L15 : List F) (u13 : Nat) (u14 : Nat), WeakLe τ [(2, optr 0 1 0), (3, optr 2 1 0)] ∧ DeadLe Γ [⟨1, some zMx⟩, ⟨u13, some (L15.map f32)⟩, ⟨1, some (oXc r1 r2 1 u13 L15.length)⟩, ⟨u14, none⟩] ∧ z2 = .inl L15) ?_ ?_
 ·refine RunC.block (RunC.loop (RunL.loopM (x := z2) (K2t_s1 a0 a1 a2) (fun (s : (List F) × Int) τ Γ => ∃ (u4 : Nat) (u5 : Nat), WeakLe τ [(0, ptr (mXc a0 a1 a2)), (2, optr 0 1 0), (3, optr 2 1 0), (4, i64 s.2)] ∧ DeadLe Γ [⟨1, some zMx⟩, ⟨u4, some (s.1.map f32)⟩, ⟨1, some [i64 r1, i64 r2, oref 1 u4 0 s.1.length]⟩, ⟨u5, none⟩]) ?_ _ _ _ hz_2 ⟨1, 0, ⟨aR, aR, aR, aR, trivial⟩, ⟨⟨rfl, .inr rfl⟩, ⟨rfl, .inr rfl⟩, ⟨rfl, .inr (by first | rfl | simp)⟩, ⟨rfl, .inl rfl⟩, trivial⟩⟩))
  rintro ⟨L6, v7⟩ τ2 Γ2 y2_ ⟨u4, u5, hw2, hd2⟩ h2_ ho2 hr2
  refine RunC.wl (τ' := [(0, ptr (mXc a0 a1 a2)), (2, optr 0 1 0), (3, optr 2 1 0), (4, i64 v7)]) (Γ' := [⟨1, some zMx⟩, ⟨u4, some (L6.map f32)⟩, ⟨1, some (oXc r1 r2 1 u4 L6.length)⟩, ⟨u5, none⟩]) hw2 hd2 ?_
  replace h2_ : K2t_b1 a0 a1 a2 L6 v7 = some y2_ := h2_
  unfold K2t_b1 at h2_
  refine yS<|yS ?_
  obtain ⟨x8, hx2, h2_⟩ := oL h2_
  rcases oB h2_ with ⟨hc3, h2_⟩ | ⟨hc3, h2_⟩
  ·refine RunC.region_draw (Γ' := [⟨1, some zMx⟩, ⟨u4, some (L6.map f32)⟩, ⟨1, some (oXc r1 r2 1 u4 L6.length)⟩, ⟨u5, none⟩]) 11 mixed 
    (tm rfl (i64 v7) <|
    (tm rfl (ptr (mXc a0 a1 a2)) <|
    (tl rfl (ptr (mXc a0 a1 a2)) y4 <|
    (tl rfl (ptr (mXc a0 a1 a2)) (LOp.fap und27 rfl siz2 rfl rfl rfl) <|
    (tl rfl (i64 a0) (y2 agg2) <|
    (tm rfl (ptr (mXc a0 a1 a2)) <|
    (tl rfl (ptr (mXc a0 a1 a2)) y4 <|
    (tl rfl (ptr [i64 a1, (sFc a2)]) (LOp.fap und27 rfl siz2 rfl rfl rfl) <|
    (tl rfl (i64 a1) (y2 agg2) <|
    (tl rfl (i64 x8) (LOp.eqr (LOp.mul rfl rfl rfl) (congrArg (ik .i64) hx2)) <|
    (tl rfl (b true) (LOp.eqb (LOp.lss rfl rfl rfl) hc3) <|
    TR.nil))))))))))) rfl (by kernel_rfl) rfl fills_nil rfl ?_
   iterate 11 refine ROps.dropS ?_
   refine ROps.drop0<|zN ?_
   refine yT<|RunC.skip<|yS<|RunC.block ?_
   obtain ⟨hz4, h2_⟩ := need_some h2_
   obtain ⟨x9, hx5, h2_⟩ := oL h2_
   obtain ⟨hz6, h2_⟩ := need_some h2_
   obtain ⟨x10, hx7, h2_⟩ := oL h2_
   obtain ⟨r11, hf8, h2_⟩ := oS h2_
   obtain ⟨hm9, h2_⟩ := need_some h2_
   refine RunC.region_draw (Γ' := [⟨1, some zMx⟩, ⟨u4, some (L6.map f32)⟩, ⟨1, some (oXc r1 r2 1 u4 L6.length)⟩, ⟨(u5 + 1), some (([r11] : List F).map f32)⟩]) 17 mixed 
    (tl rfl (optr 2 1 2) (LOp.fao und27 rfl siz25 rfl rfl rfl) <|
    (TR.d (r := oref 1 u4 0 L6.length) (fs := []) rfl rfl (TOp.load1_o rfl rfl agg25 rfl rfl) <|
    (tm rfl (ptr (mXc a0 a1 a2)) <|
    (tm rfl (i64 v7) <|
    (tm rfl (ptr (mXc a0 a1 a2)) <|
    (tl rfl (ptr (mXc a0 a1 a2)) y4 <|
    (tl rfl (ptr (mXc a0 a1 a2)) (LOp.fap und27 rfl siz2 rfl rfl rfl) <|
    (tl rfl (i64 a0) (y2 agg2) <|
    (tl rfl (i64 x9) (LOp.eqr (LOp.rem rfl rfl rfl (nz hz4)) (congrArg (ik .i64) hx5)) <|
    (tm rfl (i64 v7) <|
    (tm rfl (ptr (mXc a0 a1 a2)) <|
    (tl rfl (ptr (mXc a0 a1 a2)) y4 <|
    (tl rfl (ptr (mXc a0 a1 a2)) (LOp.fap und27 rfl siz2 rfl rfl rfl) <|
    (tl rfl (i64 a0) (y2 agg2) <|
    (tl rfl (i64 x10) (LOp.eqr (LOp.quo rfl rfl rfl (nz hz6)) (congrArg (ik .i64) hx7)) <|
    (TR.d (r := f32 r11) (fs := []) rfl rfl (TOp.callB (CallAs.func ent84 rfl rfl) (Bors.cons (Bor.ptr (bP (bP (bS bN)))) (bP bN0)) rfl rfl (K2l_ok a0 a1 a2 x9 x10 r11 hf8)) <|
    (TR.d (r := oref 3 (u5 + 1) 0 1) (fs := [(3, (([r11] : List F).map f32))]) rfl rfl (TOp.buildSlice_o (g := ⟨u5, none⟩) (za := f32 (some 0)) (qs := [(0, [f32 r11])]) 3 rfl und25 siz30 zer30 rfl zel30 rfl rfl ⟨rfl, ⟨_, ALe.refl _, rfl⟩, trivial⟩ rfl) <|
    TR.nil))))))))))))))))) rfl (by kernel_rfl) rfl (fills_of (by show List.Nodup [3]; decide) ⟨⟨_, rfl⟩, trivial⟩) rfl ?_
   iterate 17 refine ROps.dropS ?_
   refine ROps.drop0<|ROps.app (f := f32) (xs := L6) (ys := ([r11] : List F)) (Γ' := [⟨1, some zMx⟩, ⟨(u4 + 1), some ((L6 ++ ([r11] : List F)).map f32)⟩, ⟨1, some (oXc r1 r2 1 u4 L6.length)⟩, ⟨(u5 + 1), some (([r11] : List F).map f32)⟩]) rfl pun25 inf30 rfl rfl rfl rfl rfl rfl rfl rfl rfl (by simp) (ReadAs.own rfl (by simp)) (ones_map (fun _ => rfl)) (ap_by hm9) (ap_mx hm9) rfl<|yl rfl (optr 2 1 2) (LOp.fao und27 rfl siz25 rfl rfl rfl)<|ys (oref 1 (u4 + 1) 0 (L6.length + 1)) [i64 r1, i64 r2, oref 1 (u4 + 1) 0 (L6.length + 1)] ([⟨1, some zMx⟩, ⟨(u4 + 1), some ((L6 ++ ([r11] : List F)).map f32)⟩, ⟨1, some [i64 r1, i64 r2, oref 1 (u4 + 1) 0 (L6.length + 1)]⟩, ⟨(u5 + 1), some (([r11] : List F).map f32)⟩]) siz25<|zN ?_
   refine RunC.wl (τ' := [(0, ptr (mXc a0 a1 a2)), (2, optr 0 1 0), (3, optr 2 1 0), (4, i64 v7)]) (Γ' := [⟨1, some zMx⟩, ⟨(u4 + 1), some ((L6 ++ ([r11] : List F)).map f32)⟩, ⟨1, some [i64 r1, i64 r2, oref 1 (u4 + 1) 0 (L6.length + 1)]⟩, ⟨(u5 + 1), none⟩]) ⟨aR, aR, aR, aR, trivial⟩ ⟨⟨rfl, .inr rfl⟩, ⟨rfl, .inr rfl⟩, ⟨rfl, .inr rfl⟩, ⟨rfl, .inl rfl⟩, trivial⟩ ?_
   obtain ⟨x12, hx10, h2_⟩ := oL h2_
   refine yW<|ym rfl (i64 v7)<|yl rfl (i64 x12) (LOp.eqr (LOp.add rfl rfl rfl) (congrArg (ik .i64) hx10))<|ya rfl (i64 x12)<|zN ?_
   cases oI h2_
   exact ⟨_, rfl, (u4 + 1), (u5 + 1), ⟨aR, aR, aR, aR, trivial⟩, ⟨⟨rfl, .inr rfl⟩, ⟨rfl, .inr rfl⟩, ⟨rfl, .inr (by first | rfl | simp)⟩, ⟨rfl, .inl rfl⟩, trivial⟩⟩
  ·refine RunC.region_draw (Γ' := [⟨1, some zMx⟩, ⟨u4, some (L6.map f32)⟩, ⟨1, some (oXc r1 r2 1 u4 L6.length)⟩, ⟨u5, none⟩]) 11 mixed 
    (tm rfl (i64 v7) <|
    (tm rfl (ptr (mXc a0 a1 a2)) <|
    (tl rfl (ptr (mXc a0 a1 a2)) y4 <|
    (tl rfl (ptr (mXc a0 a1 a2)) (LOp.fap und27 rfl siz2 rfl rfl rfl) <|
    (tl rfl (i64 a0) (y2 agg2) <|
    (tm rfl (ptr (mXc a0 a1 a2)) <|
    (tl rfl (ptr (mXc a0 a1 a2)) y4 <|
    (tl rfl (ptr [i64 a1, (sFc a2)]) (LOp.fap und27 rfl siz2 rfl rfl rfl) <|
    (tl rfl (i64 a1) (y2 agg2) <|
    (tl rfl (i64 x8) (LOp.eqr (LOp.mul rfl rfl rfl) (congrArg (ik .i64) hx2)) <|
    (tl rfl (b false) (LOp.eqb (LOp.lss rfl rfl rfl) hc3) <|
    TR.nil))))))))))) rfl (by kernel_rfl) rfl fills_nil rfl ?_
   iterate 11 refine ROps.dropS ?_
   refine ROps.drop0<|zN ?_
   refine yF<|RunC.exit ?_
   cases oI h2_
   have hx := ho2 _ rfl
   exact ⟨L6, u4, u5, ⟨aR, aR, trivial⟩, ⟨⟨rfl, .inr rfl⟩, ⟨rfl, .inr rfl⟩, ⟨rfl, .inr (by first | rfl | simp)⟩, ⟨rfl, .inl rfl⟩, trivial⟩, hx⟩
 ·rintro τ3 Γ3 ⟨L15, u13, u14, hw3, hd3, rfl⟩
  refine RunC.wl hw3 hd3 ?_
  replace h : K2t_k1 r1 r2 L15 = some (q0, q1, q2) := h
  unfold K2t_k1 at h
  refine zQ<|yd rfl (agg (oXc r1 r2 1 u13 L15.length)) (yA agg27 siz27)<|ys (agg (oXc r1 r2 1 u13 L15.length)) (oXc r1 r2 1 u13 L15.length) [⟨1, some (oXc r1 r2 1 u13 L15.length)⟩, ⟨u13, some (L15.map f32)⟩, ⟨1, some (oXc r1 r2 1 u13 L15.length)⟩, ⟨u14, none⟩] siz27<|zN ?_
  refine RunC.ret ?_
  have hq := oI h
  obtain ⟨hq0, hq⟩ := Prod.mk.inj hq
  obtain ⟨hq1, hq⟩ := Prod.mk.inj hq
  subst q0
  subst q1
  subst q2
  exact bodyQ.mk (r' := agg (oXc r1 r2 1 u13 L15.length)) [(1, u13)] (.inr rfl) rfl (ndB_ok rfl) (by simp [ren, rens, sigma]) rfl (Res.one rfl (RV.cell agg27 siz27 rfl rfl rfl rfl)) (sA rfl trivial)
def K2u (a0 : Int) (a1 : Int) (a2 : List F) : Option (Int × Int × Bool × (List F)) :=
 obind (K2j a0 a1 a2) fun (r1 : Bool) =>
 bsel r1 (
  obind3 (K2t a0 a1 a2) fun (r2 : Int) (r3 : Int) (r4 : List F) =>
  some (r2, r3, true, r4)) (
  some (0, 0, false, ([] : List F)))
theorem K2u_ok (a0 : Int) (a1 : Int) (a2 : List F) (q0 : Int) (q1 : Int) (q2 : Bool) (q3 : List F) (h : K2u a0 a1 a2 = some (q0, q1, q2, q3)) : Ev Tryz.prog 16 [agg (mXc a0 a1 a2)] [] (tup [agg (oXc q0 q1 0 0 q3.length), b q2]) [oF 0 q3] := by
 refine yE Tryz.func16 2 17 0 [(0, agg (mXc a0 a1 a2))] [o0, o0] rfl ?_
 unfold K2u at h
 refine zQ<|yd rfl (ptr (mXc a0 a1 a2)) (TOp.box_s rfl rfl rfl)<|ye rfl (optr 0 1 0) [⟨1, some zMx⟩, o0] (TOp.alloc_o (g := o0) 0 rfl zer27 zok27 rfl)<|ya rfl (b false)<|zN ?_
 refine yS<|yS ?_
 obtain ⟨r1, hf1, h⟩ := oS h
 rcases oB h with ⟨hc2, h⟩ | ⟨hc2, h⟩
 ·refine yW<|yd rfl (b true) (TOp.eqb (TOp.callB (CallAs.func ent54 rfl rfl) (Bors.cons (Bor.ptr (bP (bP (bS bN)))) bN) rfl rfl (K2j_ok a0 a1 a2 r1 hf1)) hc2)<|yl rfl (b false) y1<|zN ?_
  refine yF<|RunC.skip<|yS ?_
  obtain ⟨r2, r3, r4, hf3, h⟩ := obind3_some h
  refine yW<|ye rfl (agg (oXc r2 r3 1 1 r4.length)) [⟨1, some zMx⟩, oF 1 r4] (TOp.callBN (ls := [(r4.map f32)]) [1] (CallAs.func ent55 rfl rfl) (Bors.cons (Bor.ptr (bP (bP (bS bN)))) bN) rfl (K2t_ok a0 a1 a2 r2 r3 r4 hf3) (and_all (lts0_map (f := f32) (fun _ => rfl) _) rfl) (and_all (noss_map (f := f32) (fun _ => rfl) _) rfl) rfl (by decide) (ns_of ⟨⟨_, rfl⟩, trivial⟩))<|ys (agg (oXc r2 r3 1 1 r4.length)) (oXc r2 r3 1 1 r4.length) [⟨1, some (oXc r2 r3 1 1 r4.length)⟩, oF 1 r4] siz27<|ya rfl (b true)<|zN ?_
  refine RunC.ret ?_
  have hq := oI h
  obtain ⟨hq0, hq⟩ := Prod.mk.inj hq
  obtain ⟨hq1, hq⟩ := Prod.mk.inj hq
  obtain ⟨hq2, hq⟩ := Prod.mk.inj hq
  subst q0
  subst q1
  subst q2
  subst q3
  exact yB (tup [agg (oXc r2 r3 1 1 r4.length), b true]) [(1, 1)] (Res.two rfl (RV.cell agg27 siz27 rfl rfl rfl rfl) (RV.tmp rfl)) (sA rfl trivial)
 ·refine yW<|yd rfl (b false) (TOp.eqb (TOp.callB (CallAs.func ent54 rfl rfl) (Bors.cons (Bor.ptr (bP (bP (bS bN)))) bN) rfl rfl (K2j_ok a0 a1 a2 r1 hf1)) hc2)<|yl rfl (b true) y0<|zN ?_
  refine yT<|zQ<|yl rfl (agg zMx) (LOp.build (qs := []) zer27 zok27 und27 plc27 rfl trivial rfl)<|ys (agg zMx) zMx [⟨1, some zMx⟩, o0] siz27<|ya rfl (b false)<|zN ?_
  refine RunC.nil_cell (l' := [i64 0, i64 0, oref 1 1 0 0]) (Γ' := [⟨1, some [i64 0, i64 0, oref 1 1 0 0]⟩, ⟨1, some (([] : List F).map f32)⟩]) 0 2 1 rfl rfl rfl rfl rfl<|RunC.ret ?_
  have hq := oI h
  obtain ⟨hq0, hq⟩ := Prod.mk.inj hq
  obtain ⟨hq1, hq⟩ := Prod.mk.inj hq
  obtain ⟨hq2, hq⟩ := Prod.mk.inj hq
  subst q0
  subst q1
  subst q2
  subst q3
  exact yB (tup [agg [i64 0, i64 0, oref 1 1 0 (([] : List F).length)], b false]) [(1, 1)] (Res.eq (Res.two rfl (RV.cell agg27 siz27 rfl rfl rfl rfl) (RV.tmp rfl)) (by first | rfl | (rw [(show ([] : List F).length = 0 from rfl)] <;> rfl))) (sA rfl trivial)
def K2v_b1 (a1 : Int) (a2 : List F) (a3 : List Int) (L7 : List F) (v8 : Int) : Option (LR ((List F) × Int) ((List F)) (Int × Int × Bool × (List F))) :=
 bsel (decide (v8 < (a3.length : Int))) (
  obind (at? a3 v8) fun (e9 : Int) =>
  olet (IntKind.i64.wrap (e9 * a1)) fun (x10 : Int) =>
  obind (at? a3 v8) fun (e11 : Int) =>
  olet (IntKind.i64.wrap (e11 + 1)) fun (x12 : Int) =>
  olet (IntKind.i64.wrap (x12 * a1)) fun (x13 : Int) =>
  obind (sub? a2 x10 x13) fun (l14 : List F) =>
  need (apok 4 L7.length l14.length) <|
  olet (IntKind.i64.wrap (v8 + 1)) fun (x15 : Int) =>
  some (LR.next ((L7 ++ l14), x15))) (
  some (LR.out L7))
def K2v_s1 (a1 : Int) (a2 : List F) (a3 : List Int) : ((List F) × Int) → Option (LR ((List F) × Int) ((List F)) (Int × Int × Bool × (List F))) := fun s => K2v_b1 a1 a2 a3 s.1 s.2
def K2v_k1 (r3 : Int) (r4 : Int) (L17 : List F) : Option (Int × Int × Bool × (List F)) :=
 some (r3, r4, true, L17)
def K2v (a0 : Int) (a1 : Int) (a2 : List F) (a3 : List Int) : Option (Int × Int × Bool × (List F)) :=
 obind (K2j a0 a1 a2) fun (r1 : Bool) =>
 bsel r1 (
  obind (K2e a3) fun (r2 : Bool) =>
  bsel r2 (
   bsel (!decide ((a3.length : Int) = a0)) (
    some (0, 0, false, ([] : List F))) (
    obind3 (K03 a0 a1) fun (r3 : Int) (r4 : Int) (r5 : List F) =>
    obind (loopM (K2v_s1 a1 a2 a3) (r5, 0)) fun z => osum z (fun e => K2v_k1 r3 r4 e) (fun r => some r))) (
   some (0, 0, false, ([] : List F)))) (
  some (0, 0, false, ([] : List F)))
theorem K2v_ok (a0 : Int) (a1 : Int) (a2 : List F) (a3 : List Int) (q0 : Int) (q1 : Int) (q2 : Bool) (q3 : List F) (h : K2v a0 a1 a2 a3 = some (q0, q1, q2, q3)) : Ev Tryz.prog 17 [agg (mXc a0 a1 a2), sl a3.length (a3.map i64)] [] (tup [agg (oXc q0 q1 0 0 q3.length), b q2]) [oF 0 q3] := by
 refine yE Tryz.func17 3 115 0 [(0, agg (mXc a0 a1 a2)), (1, sl a3.length (a3.map i64))] [o0, o0, o0] rfl ?_
 unfold K2v at h
 refine zQ<|yd rfl (ptr (mXc a0 a1 a2)) (TOp.box_s rfl rfl rfl)<|ye rfl (optr 0 1 0) [⟨1, some zMx⟩, o0, o0] (TOp.alloc_o (g := o0) 0 rfl zer27 zok27 rfl)<|ya rfl (b false)<|zN ?_
 refine yS<|yS ?_
 obtain ⟨r1, hf1, h⟩ := oS h
 rcases oB h with ⟨hc2, h⟩ | ⟨hc2, h⟩
 ·obtain ⟨r2, hf3, h⟩ := oS h
  rcases oB h with ⟨hc4, h⟩ | ⟨hc4, h⟩
  ·rcases oB h with ⟨hc5, h⟩ | ⟨hc5, h⟩
   ·refine yW<|yd rfl (b true) (TOp.eqb (TOp.callB (CallAs.func ent54 rfl rfl) (Bors.cons (Bor.ptr (bP (bP (bS bN)))) bN) rfl rfl (K2j_ok a0 a1 a2 r1 hf1)) hc2)<|yl rfl (b false) y1<|ym rfl (b false)<|ym rfl (sl a3.length (a3.map i64))<|yd rfl (b true) (TOp.eqb (yc ent51 rfl rfl (bS bN) (K2e_ok a3 r2 hf3)) hc4)<|yl rfl (b false) y1<|yl rfl (b false) yp<|ym rfl (b false)<|ym rfl (sl a3.length (a3.map i64))<|yl rfl (i64 (a3.length : Int)) (LOp.len_sl und39 rfl rfl)<|yl rfl (ptr (mXc a0 a1 a2)) (LOp.fap und27 rfl siz2 rfl rfl rfl)<|yl rfl (i64 a0) (y2 agg2)<|yl rfl (b true) (LOp.eqb (LOp.neq rfl rfl rfl) hc5)<|yl rfl (b true) yp<|zN ?_
    refine RunC.wl (τ' := [(1, sl a3.length (a3.map i64)), (2, ptr (mXc a0 a1 a2)), (4, optr 0 1 0), (21, b true)]) (Γ' := [⟨1, some zMx⟩, o0, o0]) ⟨aR, aR, aR, aR, trivial⟩ ⟨⟨rfl, .inr rfl⟩, ⟨rfl, .inr rfl⟩, ⟨rfl, .inr rfl⟩, trivial⟩<|yT<|zQ<|yl rfl (agg zMx) (LOp.build (qs := []) zer27 zok27 und27 plc27 rfl trivial rfl)<|ys (agg zMx) zMx [⟨1, some zMx⟩, o0, o0] siz27<|ya rfl (b false)<|zN ?_
    refine RunC.nil_cell (l' := [i64 0, i64 0, oref 1 1 0 0]) (Γ' := [⟨1, some [i64 0, i64 0, oref 1 1 0 0]⟩, ⟨1, some (([] : List F).map f32)⟩, o0]) 0 2 1 rfl rfl rfl rfl rfl<|RunC.ret ?_
    have hq := oI h
    obtain ⟨hq0, hq⟩ := Prod.mk.inj hq
    obtain ⟨hq1, hq⟩ := Prod.mk.inj hq
    obtain ⟨hq2, hq⟩ := Prod.mk.inj hq
    subst q0
    subst q1
    subst q2
    subst q3
    exact yB (tup [agg [i64 0, i64 0, oref 1 1 0 (([] : List F).length)], b false]) [(1, 1)] (Res.eq (Res.two rfl (RV.cell agg27 siz27 rfl rfl rfl rfl) (RV.tmp rfl)) (by first | rfl | (rw [(show ([] : List F).length = 0 from rfl)] <;> rfl))) (sA rfl trivial)
   ·refine yW<|yd rfl (b true) (TOp.eqb (TOp.callB (CallAs.func ent54 rfl rfl) (Bors.cons (Bor.ptr (bP (bP (bS bN)))) bN) rfl rfl (K2j_ok a0 a1 a2 r1 hf1)) hc2)<|yl rfl (b false) y1<|ym rfl (b false)<|ym rfl (sl a3.length (a3.map i64))<|yd rfl (b true) (TOp.eqb (yc ent51 rfl rfl (bS bN) (K2e_ok a3 r2 hf3)) hc4)<|yl rfl (b false) y1<|yl rfl (b false) yp<|ym rfl (b false)<|ym rfl (sl a3.length (a3.map i64))<|yl rfl (i64 (a3.length : Int)) (LOp.len_sl und39 rfl rfl)<|yl rfl (ptr (mXc a0 a1 a2)) (LOp.fap und27 rfl siz2 rfl rfl rfl)<|yl rfl (i64 a0) (y2 agg2)<|yl rfl (b false) (LOp.eqb (LOp.neq rfl rfl rfl) hc5)<|yl rfl (b false) yp<|zN ?_
    refine RunC.wl (τ' := [(1, sl a3.length (a3.map i64)), (2, ptr (mXc a0 a1 a2)), (4, optr 0 1 0), (21, b false)]) (Γ' := [⟨1, some zMx⟩, o0, o0]) ⟨aR, aR, aR, aR, trivial⟩ ⟨⟨rfl, .inr rfl⟩, ⟨rfl, .inr rfl⟩, ⟨rfl, .inr rfl⟩, trivial⟩<|yF<|RunC.skip<|yS ?_
    obtain ⟨r3, r4, r5, hf6, h⟩ := obind3_some h
    refine yW<|yl rfl (ptr (mXc a0 a1 a2)) (LOp.fap und27 rfl siz2 rfl rfl rfl)<|yl rfl (i64 a0) (y2 agg2)<|yl rfl (ptr [i64 a1, (sFc a2)]) (LOp.fap und27 rfl siz2 rfl rfl rfl)<|yl rfl (i64 a1) (y2 agg2)<|ye rfl (agg (oXc r3 r4 1 1 r5.length)) [⟨1, some zMx⟩, oF 1 r5, o0] (TOp.callBN (ls := [(r5.map f32)]) [1] (CallAs.func ent23 rfl rfl) (bP bN0) rfl (K03_ok a0 a1 r3 r4 r5 hf6) (and_all (lts0_map (f := f32) (fun _ => rfl) _) rfl) (and_all (noss_map (f := f32) (fun _ => rfl) _) rfl) rfl (by decide) (ns_of ⟨⟨_, rfl⟩, trivial⟩))<|ye rfl (optr 2 1 0) [⟨1, some zMx⟩, oF 1 r5, ⟨1, some zMx⟩] (TOp.alloc_o (g := o0) 2 rfl zer27 zok27 rfl)<|ys (agg (oXc r3 r4 1 1 r5.length)) (oXc r3 r4 1 1 r5.length) [⟨1, some zMx⟩, oF 1 r5, ⟨1, some (oXc r3 r4 1 1 r5.length)⟩] siz27<|zN ?_
    refine yS<|zQ<|ya rfl (i64 0)<|zN ?_
    obtain ⟨z2, hz_2, h⟩ := oS h
    refine RunC.cutN (fun τ Γ => ∃ (L17 : List F) (u16 : Nat), WeakLe τ [(4, optr 0 1 0), (6, optr 2 1 0)] ∧ DeadLe Γ [⟨1, some zMx⟩, ⟨u16, some (L17.map f32)⟩, ⟨1, some (oXc r3 r4 1 u16 L17.length)⟩] ∧ z2 = .inl L17) ?_ ?_
    ·refine RunC.block (RunC.loop (RunL.loopM (x := z2) (K2v_s1 a1 a2 a3) (fun (s : (List F) × Int) τ Γ => ∃ (u6 : Nat), WeakLe τ [(1, sl a3.length (a3.map i64)), (2, ptr (mXc a0 a1 a2)), (4, optr 0 1 0), (6, optr 2 1 0), (7, i64 s.2)] ∧ DeadLe Γ [⟨1, some zMx⟩, ⟨u6, some (s.1.map f32)⟩, ⟨1, some [i64 r3, i64 r4, oref 1 u6 0 s.1.length]⟩]) ?_ _ _ _ hz_2 ⟨1, ⟨aR, aR, aR, aR, aR, trivial⟩, ⟨⟨rfl, .inr rfl⟩, ⟨rfl, .inr rfl⟩, ⟨rfl, .inr (by first | rfl | simp)⟩, trivial⟩⟩))
     rintro ⟨L7, v8⟩ τ2 Γ2 y2_ ⟨u6, hw2, hd2⟩ h2_ ho2 hr2
     refine RunC.wl (τ' := [(1, sl a3.length (a3.map i64)), (2, ptr (mXc a0 a1 a2)), (4, optr 0 1 0), (6, optr 2 1 0), (7, i64 v8)]) (Γ' := [⟨1, some zMx⟩, ⟨u6, some (L7.map f32)⟩, ⟨1, some (oXc r3 r4 1 u6 L7.length)⟩]) hw2 hd2 ?_
     replace h2_ : K2v_b1 a1 a2 a3 L7 v8 = some y2_ := h2_
     unfold K2v_b1 at h2_
     refine yS<|yS ?_
     rcases oB h2_ with ⟨hc7, h2_⟩ | ⟨hc7, h2_⟩
     ·refine yW<|ym rfl (i64 v8)<|ym rfl (sl a3.length (a3.map i64))<|yl rfl (i64 (a3.length : Int)) (LOp.len_sl und39 rfl rfl)<|yl rfl (b true) (LOp.eqb (LOp.lss rfl rfl rfl) hc7)<|zN ?_
      refine yT<|RunC.skip<|yS<|RunC.block ?_
      obtain ⟨e9, he8, h2_⟩ := oS h2_
      obtain ⟨x10, hx9, h2_⟩ := oL h2_
      obtain ⟨e11, he10, h2_⟩ := oS h2_
      obtain ⟨x12, hx11, h2_⟩ := oL h2_
      obtain ⟨x13, hx12, h2_⟩ := oL h2_
      obtain ⟨l14, hs13, h2_⟩ := oS h2_
      obtain ⟨hm14, h2_⟩ := need_some h2_
      refine RunC.region_draw (Γ' := [⟨1, some zMx⟩, ⟨u6, some (L7.map f32)⟩, ⟨1, some (oXc r3 r4 1 u6 L7.length)⟩]) 20 mixed 
       (tl rfl (optr 2 1 2) (LOp.fao und27 rfl siz25 rfl rfl rfl) <|
       (TR.d (r := oref 1 u6 0 L7.length) (fs := []) rfl rfl (TOp.load1_o rfl rfl agg25 rfl rfl) <|
       (tl rfl (ptr [(sFc a2)]) (LOp.fap und27 rfl siz25 rfl rfl rfl) <|
       (tl rfl (sFc a2) (y2 agg25) <|
       (tm rfl (sl a3.length (a3.map i64)) <|
       (tm rfl (i64 v8) <|
       (tl rfl (ptr [i64 e9]) (LOp.le (LOp.ix (f := i64) und39 siz2 rfl rfl rfl rfl he8) ALe.ptr) <|
       (tl rfl (i64 e9) (y2 agg2) <|
       (tl rfl (ptr [i64 a1, (sFc a2)]) (LOp.fap und27 rfl siz2 rfl rfl rfl) <|
       (tl rfl (i64 a1) (y2 agg2) <|
       (tl rfl (i64 x10) (LOp.eqr (LOp.mul rfl rfl rfl) (congrArg (ik .i64) hx9)) <|
       (tm rfl (sl a3.length (a3.map i64)) <|
       (tm rfl (i64 v8) <|
       (tl rfl (ptr [i64 e11]) (LOp.le (LOp.ix (f := i64) und39 siz2 rfl rfl rfl rfl he10) ALe.ptr) <|
       (tl rfl (i64 e11) (y2 agg2) <|
       (tl rfl (i64 x12) (LOp.eqr (LOp.add rfl rfl rfl) (congrArg (ik .i64) hx11)) <|
       (tl rfl (ptr [i64 a1, (sFc a2)]) (LOp.fap und27 rfl siz2 rfl rfl rfl) <|
       (tl rfl (i64 a1) (y2 agg2) <|
       (tl rfl (i64 x13) (LOp.eqr (LOp.mul rfl rfl rfl) (congrArg (ik .i64) hx12)) <|
       (tl rfl (sFc l14) (LOp.slice_sl (f := f32) und25 siz30 rfl rfl rfl rfl rfl hs13) <|
       TR.nil)))))))))))))))))))) rfl (by kernel_rfl) rfl fills_nil rfl ?_
      iterate 20 refine ROps.dropS ?_
      refine ROps.drop0<|ROps.app (f := f32) (xs := L7) (ys := l14) (Γ' := [⟨1, some zMx⟩, ⟨(u6 + 1), some ((L7 ++ l14).map f32)⟩, ⟨1, some (oXc r3 r4 1 u6 L7.length)⟩]) rfl pun25 inf30 rfl rfl rfl rfl rfl rfl rfl rfl rfl (by simp) (ReadAs.sl (by simp)) (ones_map (fun _ => rfl)) (ap_by hm14) (ap_mx hm14) rfl<|yl rfl (optr 2 1 2) (LOp.fao und27 rfl siz25 rfl rfl rfl)<|ys (oref 1 (u6 + 1) 0 (L7.length + l14.length)) [i64 r3, i64 r4, oref 1 (u6 + 1) 0 (L7.length + l14.length)] ([⟨1, some zMx⟩, ⟨(u6 + 1), some ((L7 ++ l14).map f32)⟩, ⟨1, some [i64 r3, i64 r4, oref 1 (u6 + 1) 0 (L7.length + l14.length)]⟩]) siz25<|zN ?_
      refine RunC.wl (τ' := [(1, sl a3.length (a3.map i64)), (2, ptr (mXc a0 a1 a2)), (4, optr 0 1 0), (6, optr 2 1 0), (7, i64 v8)]) (Γ' := [⟨1, some zMx⟩, ⟨(u6 + 1), some ((L7 ++ l14).map f32)⟩, ⟨1, some [i64 r3, i64 r4, oref 1 (u6 + 1) 0 (L7.length + l14.length)]⟩]) ⟨aR, aR, aR, aR, aR, trivial⟩ ⟨⟨rfl, .inr rfl⟩, ⟨rfl, .inr rfl⟩, ⟨rfl, .inr rfl⟩, trivial⟩ ?_
      obtain ⟨x15, hx15, h2_⟩ := oL h2_
      refine yW<|ym rfl (i64 v8)<|yl rfl (i64 x15) (LOp.eqr (LOp.add rfl rfl rfl) (congrArg (ik .i64) hx15))<|ya rfl (i64 x15)<|zN ?_
      cases oI h2_
      exact ⟨_, rfl, (u6 + 1), ⟨aR, aR, aR, aR, aR, trivial⟩, ⟨⟨rfl, .inr rfl⟩, ⟨rfl, .inr rfl⟩, ⟨rfl, .inr (by first | rfl | simp)⟩, trivial⟩⟩
     ·refine yW<|ym rfl (i64 v8)<|ym rfl (sl a3.length (a3.map i64))<|yl rfl (i64 (a3.length : Int)) (LOp.len_sl und39 rfl rfl)<|yl rfl (b false) (LOp.eqb (LOp.lss rfl rfl rfl) hc7)<|zN ?_
      refine yF<|RunC.exit ?_
      cases oI h2_
      have hx := ho2 _ rfl
      exact ⟨L7, u6, ⟨aR, aR, trivial⟩, ⟨⟨rfl, .inr rfl⟩, ⟨rfl, .inr rfl⟩, ⟨rfl, .inr (by first | rfl | simp)⟩, trivial⟩, hx⟩
    ·rintro τ3 Γ3 ⟨L17, u16, hw3, hd3, rfl⟩
     refine RunC.wl hw3 hd3 ?_
     replace h : K2v_k1 r3 r4 L17 = some (q0, q1, q2, q3) := h
     unfold K2v_k1 at h
     refine zQ<|yd rfl (agg (oXc r3 r4 1 u16 L17.length)) (yA agg27 siz27)<|ys (agg (oXc r3 r4 1 u16 L17.length)) (oXc r3 r4 1 u16 L17.length) [⟨1, some (oXc r3 r4 1 u16 L17.length)⟩, ⟨u16, some (L17.map f32)⟩, ⟨1, some (oXc r3 r4 1 u16 L17.length)⟩] siz27<|ya rfl (b true)<|zN ?_
     refine RunC.ret ?_
     have hq := oI h
     obtain ⟨hq0, hq⟩ := Prod.mk.inj hq
     obtain ⟨hq1, hq⟩ := Prod.mk.inj hq
     obtain ⟨hq2, hq⟩ := Prod.mk.inj hq
     subst q0
     subst q1
     subst q2
     subst q3
     exact bodyQ.mk (r' := tup [agg (oXc r3 r4 1 u16 L17.length), b true]) [(1, u16)] (.inr rfl) rfl (ndB_ok rfl) (by simp [ren, rens, sigma]) rfl (Res.two rfl (RV.cell agg27 siz27 rfl rfl rfl rfl) (RV.tmp rfl)) (sA rfl trivial)
  ·refine yW<|yd rfl (b true) (TOp.eqb (TOp.callB (CallAs.func ent54 rfl rfl) (Bors.cons (Bor.ptr (bP (bP (bS bN)))) bN) rfl rfl (K2j_ok a0 a1 a2 r1 hf1)) hc2)<|yl rfl (b false) y1<|ym rfl (b false)<|ym rfl (sl a3.length (a3.map i64))<|yd rfl (b false) (TOp.eqb (yc ent51 rfl rfl (bS bN) (K2e_ok a3 r2 hf3)) hc4)<|yl rfl (b true) y0<|yl rfl (b true) yp<|ym rfl (b true)<|yR rfl<|yR rfl<|yR rfl<|yR rfl<|yR rfl<|yl rfl (b true) yq<|zN ?_
   refine RunC.wl (τ' := [(1, sl a3.length (a3.map i64)), (2, ptr (mXc a0 a1 a2)), (4, optr 0 1 0), (21, b true)]) (Γ' := [⟨1, some zMx⟩, o0, o0]) ⟨aR, aR, aR, aR, trivial⟩ ⟨⟨rfl, .inr rfl⟩, ⟨rfl, .inr rfl⟩, ⟨rfl, .inr rfl⟩, trivial⟩<|yT<|zQ<|yl rfl (agg zMx) (LOp.build (qs := []) zer27 zok27 und27 plc27 rfl trivial rfl)<|ys (agg zMx) zMx [⟨1, some zMx⟩, o0, o0] siz27<|ya rfl (b false)<|zN ?_
   refine RunC.nil_cell (l' := [i64 0, i64 0, oref 1 1 0 0]) (Γ' := [⟨1, some [i64 0, i64 0, oref 1 1 0 0]⟩, ⟨1, some (([] : List F).map f32)⟩, o0]) 0 2 1 rfl rfl rfl rfl rfl<|RunC.ret ?_
   have hq := oI h
   obtain ⟨hq0, hq⟩ := Prod.mk.inj hq
   obtain ⟨hq1, hq⟩ := Prod.mk.inj hq
   obtain ⟨hq2, hq⟩ := Prod.mk.inj hq
   subst q0
   subst q1
   subst q2
   subst q3
   exact yB (tup [agg [i64 0, i64 0, oref 1 1 0 (([] : List F).length)], b false]) [(1, 1)] (Res.eq (Res.two rfl (RV.cell agg27 siz27 rfl rfl rfl rfl) (RV.tmp rfl)) (by first | rfl | (rw [(show ([] : List F).length = 0 from rfl)] <;> rfl))) (sA rfl trivial)
 ·refine yW<|yd rfl (b false) (TOp.eqb (TOp.callB (CallAs.func ent54 rfl rfl) (Bors.cons (Bor.ptr (bP (bP (bS bN)))) bN) rfl rfl (K2j_ok a0 a1 a2 r1 hf1)) hc2)<|yl rfl (b true) y0<|ym rfl (b true)<|yR rfl<|yR rfl<|yR rfl<|yl rfl (b true) yq<|ym rfl (b true)<|yR rfl<|yR rfl<|yR rfl<|yR rfl<|yR rfl<|yl rfl (b true) yq<|zN ?_
  refine RunC.wl (τ' := [(1, sl a3.length (a3.map i64)), (2, ptr (mXc a0 a1 a2)), (4, optr 0 1 0), (21, b true)]) (Γ' := [⟨1, some zMx⟩, o0, o0]) ⟨aR, aR, aR, aR, trivial⟩ ⟨⟨rfl, .inr rfl⟩, ⟨rfl, .inr rfl⟩, ⟨rfl, .inr rfl⟩, trivial⟩<|yT<|zQ<|yl rfl (agg zMx) (LOp.build (qs := []) zer27 zok27 und27 plc27 rfl trivial rfl)<|ys (agg zMx) zMx [⟨1, some zMx⟩, o0, o0] siz27<|ya rfl (b false)<|zN ?_
  refine RunC.nil_cell (l' := [i64 0, i64 0, oref 1 1 0 0]) (Γ' := [⟨1, some [i64 0, i64 0, oref 1 1 0 0]⟩, ⟨1, some (([] : List F).map f32)⟩, o0]) 0 2 1 rfl rfl rfl rfl rfl<|RunC.ret ?_
  have hq := oI h
  obtain ⟨hq0, hq⟩ := Prod.mk.inj hq
  obtain ⟨hq1, hq⟩ := Prod.mk.inj hq
  obtain ⟨hq2, hq⟩ := Prod.mk.inj hq
  subst q0
  subst q1
  subst q2
  subst q3
  exact yB (tup [agg [i64 0, i64 0, oref 1 1 0 (([] : List F).length)], b false]) [(1, 1)] (Res.eq (Res.two rfl (RV.cell agg27 siz27 rfl rfl rfl rfl) (RV.tmp rfl)) (by first | rfl | (rw [(show ([] : List F).length = 0 from rfl)] <;> rfl))) (sA rfl trivial)
def K2w (a0 : Int) (a1 : Int) (a2 : Int) (a3 : Int) (a4 : List F) (a5 : List Int) : Option (F) :=
 bsel (decide (a0 = a1)) (
  some (some 1065353216)) (
  bsel (decide (a0 < a1)) (
   some (some 0)) (
   obind (K0p a2 a3 a4 a0 a1) fun (r1 : F) =>
   some r1))
theorem K2w_ok (a0 : Int) (a1 : Int) (a2 : Int) (a3 : Int) (a4 : List F) (a5 : List Int) (q0 : F) (h : K2w a0 a1 a2 a3 a4 a5 = some q0) : Ev Tryz.prog 58 [i64 a0, i64 a1, ptr [i64 a2, i64 a3, (sFc a4), sl a5.length (a5.map i64)]] [] (f32 q0) [] := by
 refine yE Tryz.func58 0 39 0 ([(0, i64 a0), (1, i64 a1), (2, ptr [i64 a2, i64 a3, (sFc a4), sl a5.length (a5.map i64)])]) [] rfl ?_
 unfold K2w at h
 refine zQ<|yl rfl (f32 (some 0)) (LOp.le (LOp.assign rfl rfl) (ALe.fl (by kernel_rfl) (by kernel_rfl)))<|zN ?_
 refine yS<|RunC.block<|yS ?_
 rcases oB h with ⟨hc1, h⟩ | ⟨hc1, h⟩
 ·refine yW<|ym rfl (i64 a0)<|ym rfl (i64 a1)<|yl rfl (b true) (LOp.eqb (LOp.eql rfl rfl rfl) hc1)<|ya rfl (b true)<|zN ?_
  refine yT<|zQ<|yl rfl (f32 (some 1065353216)) (LOp.le (LOp.assign rfl rfl) (ALe.fl (by kernel_rfl) (by kernel_rfl)))<|zN ?_
  refine RunC.ret ?_
  have hq := oI h
  subst q0
  exact bR rfl
 ·refine yW<|ym rfl (i64 a0)<|ym rfl (i64 a1)<|yl rfl (b false) (LOp.eqb (LOp.eql rfl rfl rfl) hc1)<|ya rfl (b false)<|zN ?_
  refine yF<|yS ?_
  rcases oB h with ⟨hc2, h⟩ | ⟨hc2, h⟩
  ·refine yW<|ym rfl (i64 a0)<|ym rfl (i64 a1)<|yl rfl (b true) (LOp.eqb (LOp.lss rfl rfl rfl) hc2)<|ya rfl (b true)<|zN ?_
   refine yT<|zQ<|yl rfl (f32 (some 0)) (LOp.le (LOp.assign rfl rfl) (ALe.fl (by kernel_rfl) (by kernel_rfl)))<|zN ?_
   refine RunC.ret ?_
   have hq := oI h
   subst q0
   exact bR rfl
  ·refine yW<|ym rfl (i64 a0)<|ym rfl (i64 a1)<|yl rfl (b false) (LOp.eqb (LOp.lss rfl rfl rfl) hc2)<|ya rfl (b false)<|zN ?_
   refine yF<|RunC.skip<|yS ?_
   obtain ⟨r1, hf3, h⟩ := oS h
   refine yW<|yl rfl (ptr [i64 a2, i64 a3, (sFc a4), sl a5.length (a5.map i64)]) (LOp.fap und41 rfl siz27 rfl rfl rfl)<|yl rfl (agg (mXc a2 a3 a4)) (yL agg27 siz27)<|ym rfl (i64 a0)<|ym rfl (i64 a1)<|yd rfl (f32 r1) (TOp.callB (CallAs.func ent46 rfl rfl) (Bors.cons (Bor.agg (bP (bP (bS bN)))) (bP bN0)) rfl rfl (K0p_ok a2 a3 a4 a0 a1 r1 hf3))<|ya rfl (f32 r1)<|zN ?_
   refine RunC.ret ?_
   have hq := oI h
   subst q0
   exact bR rfl
def K2x_b2 (a1 : Int) (a2 : Int) (a3 : Int) (a4 : List F) (a5 : List Int) (r1 : Int) (r2 : Int) (r3 : List F) (v6 : Int) (L7 : List F) (v9 : Int) : Option (LR ((List F) × Int) ((List F)) (Int × Int × (List F))) :=
 bsel (decide (v9 < a1)) (
  obind (K2w v6 v9 a2 a3 a4 a5) fun (r11 : F) =>
  obind (K0r r1 r2 v6 v9 r11 L7) fun (r12 : List F) =>
  need (decide (r12.length = r3.length)) <|
  olet (IntKind.i64.wrap (v9 + 1)) fun (x13 : Int) =>
  some (LR.next (r12, x13))) (
  some (LR.out L7))
def K2x_s2 (a1 : Int) (a2 : Int) (a3 : Int) (a4 : List F) (a5 : List Int) (r1 : Int) (r2 : Int) (r3 : List F) (v6 : Int) : ((List F) × Int) → Option (LR ((List F) × Int) ((List F)) (Int × Int × (List F))) := fun s => K2x_b2 a1 a2 a3 a4 a5 r1 r2 r3 v6 s.1 s.2
def K2x_k2 (v6 : Int) (L14 : List F) : Option (LR ((List F) × Int) ((List F)) (Int × Int × (List F))) :=
 olet (IntKind.i64.wrap (v6 + 1)) fun (x16 : Int) =>
 some (LR.next (L14, x16))
def K2x_b3 (a0 : Int) (a1 : Int) (a2 : Int) (a3 : Int) (a4 : List F) (a5 : List Int) (r1 : Int) (r2 : Int) (r3 : List F) (L4 : List F) (v6 : Int) : Option (LR ((List F) × Int) ((List F)) (Int × Int × (List F))) :=
 bsel (decide (v6 < a0)) (
  obind (loopM (K2x_s2 a1 a2 a3 a4 a5 r1 r2 r3 v6) (L4, 0)) fun z => osum z (fun e => K2x_k2 v6 e) (fun r => some (LR.ret r))) (
  some (LR.out L4))
def K2x_s3 (a0 : Int) (a1 : Int) (a2 : Int) (a3 : Int) (a4 : List F) (a5 : List Int) (r1 : Int) (r2 : Int) (r3 : List F) : ((List F) × Int) → Option (LR ((List F) × Int) ((List F)) (Int × Int × (List F))) := fun s => K2x_b3 a0 a1 a2 a3 a4 a5 r1 r2 r3 s.1 s.2
def K2x_k3 (r1 : Int) (r2 : Int) (L17 : List F) : Option (Int × Int × (List F)) :=
 some (r1, r2, L17)
def K2x (a0 : Int) (a1 : Int) (a2 : Int) (a3 : Int) (a4 : List F) (a5 : List Int) : Option (Int × Int × (List F)) :=
 obind3 (K1f a0 a1) fun (r1 : Int) (r2 : Int) (r3 : List F) =>
 obind (loopM (K2x_s3 a0 a1 a2 a3 a4 a5 r1 r2 r3) (r3, 0)) fun z => osum z (fun e => K2x_k3 r1 r2 e) (fun r => some r)
theorem K2x_ok (a0 : Int) (a1 : Int) (a2 : Int) (a3 : Int) (a4 : List F) (a5 : List Int) (q0 : Int) (q1 : Int) (q2 : List F) (h : K2x a0 a1 a2 a3 a4 a5 = some (q0, q1, q2)) : Ev Tryz.prog 57 [i64 a0, i64 a1, fn (.func 58) [] [ptr [i64 a2, i64 a3, (sFc a4), sl a5.length (a5.map i64)]]] [] (agg (oXc q0 q1 0 0 q2.length)) [oF 0 q2] := by
 refine yE Tryz.func57 3 65 0 ([(0, i64 a0), (1, i64 a1), (2, fn (.func 58) [] [ptr [i64 a2, i64 a3, (sFc a4), sl a5.length (a5.map i64)]])]) [o0, o0, o0] rfl ?_
 unfold K2x at h
 refine zQ<|ye rfl (optr 0 1 0) [⟨1, some zMx⟩, o0, o0] (TOp.alloc_o (g := o0) 0 rfl zer27 zok27 rfl)<|zN ?_
 refine yS ?_
 obtain ⟨r1, r2, r3, hf1, h⟩ := obind3_some h
 refine yW<|ym rfl (i64 a0)<|ym rfl (i64 a1)<|ye rfl (agg (oXc r1 r2 1 1 r3.length)) [⟨1, some zMx⟩, oF 1 r3, o0] (TOp.callBN (ls := [(r3.map f32)]) [1] (CallAs.func ent64 rfl rfl) (bP bN0) rfl (K1f_ok a0 a1 r1 r2 r3 hf1) (and_all (lts0_map (f := f32) (fun _ => rfl) _) rfl) (and_all (noss_map (f := f32) (fun _ => rfl) _) rfl) rfl (by decide) (ns_of ⟨⟨_, rfl⟩, trivial⟩))<|ye rfl (optr 2 1 0) [⟨1, some zMx⟩, oF 1 r3, ⟨1, some zMx⟩] (TOp.alloc_o (g := o0) 2 rfl zer27 zok27 rfl)<|ys (agg (oXc r1 r2 1 1 r3.length)) (oXc r1 r2 1 1 r3.length) [⟨1, some zMx⟩, oF 1 r3, ⟨1, some (oXc r1 r2 1 1 r3.length)⟩] siz27<|zN ?_
 refine yS<|zQ<|ym rfl (i64 a0)<|ym rfl (i64 0)<|zN ?_
 obtain ⟨z4, hz_4, h⟩ := oS h
 refine RunC.cutN (fun τ Γ => ∃ (L17 : List F), L17.length = r3.length ∧ WeakLe τ [(6, optr 0 1 0), (7, optr 2 1 0)] ∧ DeadLe Γ [⟨1, some zMx⟩, oF 1 L17, ⟨1, some (oXc r1 r2 1 1 r3.length)⟩] ∧ z4 = .inl L17) ?_ ?_
 ·refine RunC.block (RunC.loop (RunL.loopM (x := z4) (K2x_s3 a0 a1 a2 a3 a4 a5 r1 r2 r3) (fun (s : (List F) × Int) τ Γ => s.1.length = r3.length ∧ WeakLe τ [(1, i64 a1), (2, fn (.func 58) [] [ptr [i64 a2, i64 a3, (sFc a4), sl a5.length (a5.map i64)]]), (6, optr 0 1 0), (7, optr 2 1 0), (13, i64 a0), (14, i64 s.2)] ∧ DeadLe Γ [⟨1, some zMx⟩, ⟨1, some (s.1.map f32)⟩, ⟨1, some (oXc r1 r2 1 1 r3.length)⟩]) ?_ _ _ _ hz_4 ⟨rfl, ⟨aR, aR, aR, aR, aR, aR, trivial⟩, ⟨⟨rfl, .inr rfl⟩, ⟨rfl, .inr rfl⟩, ⟨rfl, .inr rfl⟩, trivial⟩⟩))
  rintro ⟨L4, v6⟩ τ4 Γ4 y4_ ⟨hl5, hw4, hd4⟩ h4_ ho4 hr4
  refine RunC.wl (τ' := [(1, i64 a1), (2, fn (.func 58) [] [ptr [i64 a2, i64 a3, (sFc a4), sl a5.length (a5.map i64)]]), (6, optr 0 1 0), (7, optr 2 1 0), (13, i64 a0), (14, i64 v6)]) (Γ' := [⟨1, some zMx⟩, oF 1 L4, ⟨1, some (oXc r1 r2 1 1 r3.length)⟩]) hw4 hd4 ?_
  replace hl5 : L4.length = r3.length := hl5
  replace h4_ : K2x_b3 a0 a1 a2 a3 a4 a5 r1 r2 r3 L4 v6 = some y4_ := h4_
  unfold K2x_b3 at h4_
  refine yS ?_
  rcases oB h4_ with ⟨hc2, h4_⟩ | ⟨hc2, h4_⟩
  ·refine yW<|yl rfl (b true) (LOp.eqb (LOp.lss rfl rfl rfl) hc2)<|zN ?_
   refine yS<|yT<|RunC.skip<|yS<|RunC.block<|zQ<|ym rfl (i64 v6)<|ya rfl (i64 v6)<|zN ?_
   refine zQ<|ym rfl (i64 a1)<|ym rfl (i64 0)<|zN ?_
   obtain ⟨z5, hz_5, h4_⟩ := oS h4_
   refine RunC.cutN (fun τ Γ => ∃ (L14 : List F), L14.length = r3.length ∧ WeakLe τ [(1, i64 a1), (2, fn (.func 58) [] [ptr [i64 a2, i64 a3, (sFc a4), sl a5.length (a5.map i64)]]), (6, optr 0 1 0), (7, optr 2 1 0), (13, i64 a0), (14, i64 v6)] ∧ DeadLe Γ [⟨1, some zMx⟩, oF 1 L14, ⟨1, some (oXc r1 r2 1 1 r3.length)⟩] ∧ z5 = .inl L14) ?_ ?_
   ·refine RunC.block (RunC.loop (RunL.loopM (x := z5) (K2x_s2 a1 a2 a3 a4 a5 r1 r2 r3 v6) (fun (s : (List F) × Int) τ Γ => s.1.length = r3.length ∧ WeakLe τ [(1, i64 a1), (2, fn (.func 58) [] [ptr [i64 a2, i64 a3, (sFc a4), sl a5.length (a5.map i64)]]), (6, optr 0 1 0), (7, optr 2 1 0), (8, i64 v6), (13, i64 a0), (14, i64 v6), (17, i64 a1), (18, i64 s.2)] ∧ DeadLe Γ [⟨1, some zMx⟩, ⟨1, some (s.1.map f32)⟩, ⟨1, some (oXc r1 r2 1 1 r3.length)⟩]) ?_ _ _ _ hz_5 ⟨hl5, ⟨aR, aR, aR, aR, aR, aR, aR, aR, aR, trivial⟩, ⟨⟨rfl, .inr rfl⟩, ⟨rfl, .inr rfl⟩, ⟨rfl, .inr rfl⟩, trivial⟩⟩))
    rintro ⟨L7, v9⟩ τ5 Γ5 y5_ ⟨hl8, hw5, hd5⟩ h5_ ho5 hr5
    refine RunC.wl (τ' := [(1, i64 a1), (2, fn (.func 58) [] [ptr [i64 a2, i64 a3, (sFc a4), sl a5.length (a5.map i64)]]), (6, optr 0 1 0), (7, optr 2 1 0), (8, i64 v6), (13, i64 a0), (14, i64 v6), (17, i64 a1), (18, i64 v9)]) (Γ' := [⟨1, some zMx⟩, oF 1 L7, ⟨1, some (oXc r1 r2 1 1 r3.length)⟩]) hw5 hd5 ?_
    replace hl8 : L7.length = r3.length := hl8
    replace h5_ : K2x_b2 a1 a2 a3 a4 a5 r1 r2 r3 v6 L7 v9 = some y5_ := h5_
    unfold K2x_b2 at h5_
    refine yS ?_
    rcases oB h5_ with ⟨hc3, h5_⟩ | ⟨hc3, h5_⟩
    ·refine yW<|yl rfl (b true) (LOp.eqb (LOp.lss rfl rfl rfl) hc3)<|zN ?_
     refine yS<|yT<|RunC.skip<|yS<|RunC.block<|zQ<|ym rfl (i64 v9)<|ya rfl (i64 v9)<|zN ?_
     obtain ⟨r11, hf5, h5_⟩ := oS h5_
     obtain ⟨r12, hf6, h5_⟩ := oS h5_
     obtain ⟨hn7, h5_⟩ := need_some h5_
     refine RunC.region_draw (Γ' := [⟨1, some zMx⟩, oF 1 L7, ⟨1, some (oXc r1 r2 1 1 r3.length)⟩]) 7 mixed 
      (TR.d (r := agg (oXc r1 r2 1 1 r3.length)) (fs := []) rfl rfl (yA agg27 siz27) <|
      (tm rfl (i64 v6) <|
      (tm rfl (i64 v9) <|
      (tm rfl (fn (.func 58) [] [ptr [i64 a2, i64 a3, (sFc a4), sl a5.length (a5.map i64)]]) <|
      (tm rfl (i64 v6) <|
      (tm rfl (i64 v9) <|
      (TR.d (r := f32 r11) (fs := []) rfl rfl (TOp.callB (CallAs.fn ent58 rfl rfl rfl rfl) (bP (bP (Bors.cons (Bor.ptr (bP (bP (bS (bS bN))))) bN))) rfl rfl (K2w_ok v6 v9 a2 a3 a4 a5 r11 hf5)) <|
      TR.nil))))))) rfl (by kernel_rfl) rfl fills_nil rfl ?_
     iterate 7 refine ROps.dropS ?_
     refine ROps.drop0<|ROps.callO (A := [agg (oXc r1 r2 1 1 r3.length), i64 v6, i64 v9, f32 r11]) (args := [agg (oXc r1 r2 0 0 L7.length), i64 v6, i64 v9, f32 r11]) (Γc := [oF 0 L7]) (Γc' := [oF 0 r12]) (r' := tup []) (Γ' := [⟨1, some zMx⟩, oF 1 r12, ⟨1, some (oXc r1 r2 1 1 r3.length)⟩]) [(1, 1)] [] rfl (CallAs.func ent81 rfl rfl) rfl rfl (SelOk.of (ndB_ok rfl) (sA rfl trivial)) (live_of ⟨⟨_, _, rfl⟩, trivial⟩) (by simp [ren, rens, sigma, rens_f32, rens_f64, rens_i64, rens_ik, rens_str, rens_cp, hl8]) rfl (K0r_ok r1 r2 v6 v9 r11 L7 r12 hf6) rfl (news_of trivial) (ndB_ok rfl) (by simp [ren, rens, sigma, of_decide_eq_true hn7]) (by simp [backOb, sigma, ren, rens, rens_f32, rens_f64, rens_i64, rens_ik, rens_str, rens_cp] <;> omega)<|zN ?_
     obtain ⟨x13, hx8, h5_⟩ := oL h5_
     refine yW<|yl rfl (i64 x13) (LOp.eqr (LOp.add rfl rfl rfl) (congrArg (ik .i64) hx8))<|ym rfl (i64 x13)<|zN ?_
     cases oI h5_
     exact ⟨_, rfl, (of_decide_eq_true hn7), ⟨aR, aR, aR, aR, aR, aR, aR, aR, aR, trivial⟩, ⟨⟨rfl, .inr rfl⟩, ⟨rfl, .inr rfl⟩, ⟨rfl, .inr rfl⟩, trivial⟩⟩
    ·refine yW<|yl rfl (b false) (LOp.eqb (LOp.lss rfl rfl rfl) hc3)<|zN ?_
     refine yS<|yF<|RunC.exit ?_
     cases oI h5_
     have hx := ho5 _ rfl
     exact ⟨L7, hl8, ⟨aR, aR, aR, aR, aR, aR, trivial⟩, ⟨⟨rfl, .inr rfl⟩, ⟨rfl, .inr rfl⟩, ⟨rfl, .inr rfl⟩, trivial⟩, hx⟩
   ·rintro τ6 Γ6 ⟨L14, hl15, hw6, hd6, rfl⟩
    refine RunC.wl hw6 hd6 ?_
    replace h4_ : K2x_k2 v6 L14 = some y4_ := h4_
    unfold K2x_k2 at h4_
    obtain ⟨x16, hx9, h4_⟩ := oL h4_
    refine yW<|yl rfl (i64 x16) (LOp.eqr (LOp.add rfl rfl rfl) (congrArg (ik .i64) hx9))<|ym rfl (i64 x16)<|zN ?_
    cases oI h4_
    exact ⟨_, rfl, hl15, ⟨aR, aR, aR, aR, aR, aR, trivial⟩, ⟨⟨rfl, .inr rfl⟩, ⟨rfl, .inr rfl⟩, ⟨rfl, .inr rfl⟩, trivial⟩⟩
  ·refine yW<|yl rfl (b false) (LOp.eqb (LOp.lss rfl rfl rfl) hc2)<|zN ?_
   refine yS<|yF<|RunC.exit ?_
   cases oI h4_
   have hx := ho4 _ rfl
   exact ⟨L4, hl5, ⟨aR, aR, trivial⟩, ⟨⟨rfl, .inr rfl⟩, ⟨rfl, .inr rfl⟩, ⟨rfl, .inr rfl⟩, trivial⟩, hx⟩
 ·rintro τ7 Γ7 ⟨L17, hl18, hw7, hd7, rfl⟩
  refine RunC.wl hw7 hd7 ?_
  replace h : K2x_k3 r1 r2 L17 = some (q0, q1, q2) := h
  unfold K2x_k3 at h
  refine zQ<|yd rfl (agg (oXc r1 r2 1 1 r3.length)) (yA agg27 siz27)<|ys (agg (oXc r1 r2 1 1 r3.length)) (oXc r1 r2 1 1 r3.length) [⟨1, some (oXc r1 r2 1 1 r3.length)⟩, oF 1 L17, ⟨1, some (oXc r1 r2 1 1 r3.length)⟩] siz27<|zN ?_
  refine RunC.ret ?_
  have hq := oI h
  obtain ⟨hq0, hq⟩ := Prod.mk.inj hq
  obtain ⟨hq1, hq⟩ := Prod.mk.inj hq
  subst q0
  subst q1
  subst q2
  exact yB (agg (oXc r1 r2 1 1 L17.length)) [(1, 1)] (Res.eq (Res.one rfl (RV.cell agg27 siz27 rfl rfl rfl rfl)) (by first | rfl | (rw [(show L17.length = r3.length from hl18)] <;> rfl))) (sA rfl trivial)
def K2y (a0 : Int) (a1 : Int) (a2 : List F) (a3 : List Int) : Option (Int × Int × Bool × (List F)) :=
 obind (K1e a0 a1 a2 a3) fun (r1 : Bool) =>
 bsel r1 (
  obind3 (K2x a0 a0 a0 a1 a2 a3) fun (r2 : Int) (r3 : Int) (r4 : List F) =>
  some (r2, r3, true, r4)) (
  some (0, 0, false, ([] : List F)))
theorem K2y_ok (a0 : Int) (a1 : Int) (a2 : List F) (a3 : List Int) (q0 : Int) (q1 : Int) (q2 : Bool) (q3 : List F) (h : K2y a0 a1 a2 a3 = some (q0, q1, q2, q3)) : Ev Tryz.prog 18 [agg [i64 a0, i64 a1, (sFc a2), sl a3.length (a3.map i64)]] [] (tup [agg (oXc q0 q1 0 0 q3.length), b q2]) [oF 0 q3] := by
 refine yE Tryz.func18 2 33 0 ([(0, agg [i64 a0, i64 a1, (sFc a2), sl a3.length (a3.map i64)])]) [o0, o0] rfl ?_
 unfold K2y at h
 refine zQ<|yd rfl (ptr [i64 a0, i64 a1, (sFc a2), sl a3.length (a3.map i64)]) (TOp.box_s rfl rfl rfl)<|ye rfl (optr 0 1 0) [⟨1, some zMx⟩, o0] (TOp.alloc_o (g := o0) 0 rfl zer27 zok27 rfl)<|ya rfl (b false)<|zN ?_
 refine yS<|yS ?_
 obtain ⟨r1, hf1, h⟩ := oS h
 rcases oB h with ⟨hc2, h⟩ | ⟨hc2, h⟩
 ·refine yW<|yl rfl (agg [i64 a0, i64 a1, (sFc a2), sl a3.length (a3.map i64)]) (yL agg41 siz41)<|yd rfl (b true) (TOp.eqb (TOp.callB (CallAs.func ent56 rfl rfl) (Bors.cons (Bor.agg (bP (bP (bS (bS bN))))) bN) rfl rfl (K1e_ok a0 a1 a2 a3 r1 hf1)) hc2)<|yl rfl (b false) y1<|zN ?_
  refine yF<|RunC.skip<|yS ?_
  obtain ⟨r2, r3, r4, hf3, h⟩ := obind3_some h
  refine yW<|yl rfl (ptr [i64 a0, i64 a1, (sFc a2), sl a3.length (a3.map i64)]) (LOp.fap und41 rfl siz27 rfl rfl rfl)<|yl rfl (ptr [i64 a0, i64 a1, (sFc a2), sl a3.length (a3.map i64)]) (LOp.fap und27 rfl siz2 rfl rfl rfl)<|yl rfl (i64 a0) (y2 agg2)<|yl rfl (ptr [i64 a0, i64 a1, (sFc a2), sl a3.length (a3.map i64)]) (LOp.fap und41 rfl siz27 rfl rfl rfl)<|yl rfl (ptr [i64 a0, i64 a1, (sFc a2), sl a3.length (a3.map i64)]) (LOp.fap und27 rfl siz2 rfl rfl rfl)<|yl rfl (i64 a0) (y2 agg2)<|yl rfl (fn (.func 58) [] [ptr [i64 a0, i64 a1, (sFc a2), sl a3.length (a3.map i64)]]) (LOp.makeFunc rfl rfl)<|ye rfl (agg (oXc r2 r3 1 1 r4.length)) [⟨1, some zMx⟩, oF 1 r4] (TOp.callBN (ls := [(r4.map f32)]) [1] (CallAs.func ent57 rfl rfl) (bP (bP (Bors.cons (Bor.fn bN (Bors.cons (Bor.ptr (bP (bP (bS (bS bN))))) bN)) bN))) rfl (K2x_ok a0 a0 a0 a1 a2 a3 r2 r3 r4 hf3) (and_all (lts0_map (f := f32) (fun _ => rfl) _) rfl) (and_all (noss_map (f := f32) (fun _ => rfl) _) rfl) rfl (by decide) (ns_of ⟨⟨_, rfl⟩, trivial⟩))<|ys (agg (oXc r2 r3 1 1 r4.length)) (oXc r2 r3 1 1 r4.length) [⟨1, some (oXc r2 r3 1 1 r4.length)⟩, oF 1 r4] siz27<|ya rfl (b true)<|zN ?_
  refine RunC.ret ?_
  have hq := oI h
  obtain ⟨hq0, hq⟩ := Prod.mk.inj hq
  obtain ⟨hq1, hq⟩ := Prod.mk.inj hq
  obtain ⟨hq2, hq⟩ := Prod.mk.inj hq
  subst q0
  subst q1
  subst q2
  subst q3
  exact yB (tup [agg (oXc r2 r3 1 1 r4.length), b true]) [(1, 1)] (Res.two rfl (RV.cell agg27 siz27 rfl rfl rfl rfl) (RV.tmp rfl)) (sA rfl trivial)
 ·refine yW<|yl rfl (agg [i64 a0, i64 a1, (sFc a2), sl a3.length (a3.map i64)]) (yL agg41 siz41)<|yd rfl (b false) (TOp.eqb (TOp.callB (CallAs.func ent56 rfl rfl) (Bors.cons (Bor.agg (bP (bP (bS (bS bN))))) bN) rfl rfl (K1e_ok a0 a1 a2 a3 r1 hf1)) hc2)<|yl rfl (b true) y0<|zN ?_
  refine yT<|zQ<|yl rfl (agg zMx) (LOp.build (qs := []) zer27 zok27 und27 plc27 rfl trivial rfl)<|ys (agg zMx) zMx [⟨1, some zMx⟩, o0] siz27<|ya rfl (b false)<|zN ?_
  refine RunC.nil_cell (l' := [i64 0, i64 0, oref 1 1 0 0]) (Γ' := [⟨1, some [i64 0, i64 0, oref 1 1 0 0]⟩, ⟨1, some (([] : List F).map f32)⟩]) 0 2 1 rfl rfl rfl rfl rfl<|RunC.ret ?_
  have hq := oI h
  obtain ⟨hq0, hq⟩ := Prod.mk.inj hq
  obtain ⟨hq1, hq⟩ := Prod.mk.inj hq
  obtain ⟨hq2, hq⟩ := Prod.mk.inj hq
  subst q0
  subst q1
  subst q2
  subst q3
  exact yB (tup [agg [i64 0, i64 0, oref 1 1 0 (([] : List F).length)], b false]) [(1, 1)] (Res.eq (Res.two rfl (RV.cell agg27 siz27 rfl rfl rfl rfl) (RV.tmp rfl)) (by first | rfl | (rw [(show ([] : List F).length = 0 from rfl)] <;> rfl))) (sA rfl trivial)
def K2z (a0 : Int) (a1 : Int) (a2 : Int) (a3 : Int) (a4 : List F) : Option (F) :=
 bsel (decide (a1 < a0)) (
  some (some 0)) (
  obind (K0p a2 a3 a4 a0 a1) fun (r1 : F) =>
  some r1)
theorem K2z_ok (a0 : Int) (a1 : Int) (a2 : Int) (a3 : Int) (a4 : List F) (q0 : F) (h : K2z a0 a1 a2 a3 a4 = some q0) : Ev Tryz.prog 92 [i64 a0, i64 a1, ptr (mXc a2 a3 a4)] [] (f32 q0) [] := by
 refine yE Tryz.func92 0 27 0 [(0, i64 a0), (1, i64 a1), (2, ptr (mXc a2 a3 a4))] [] rfl ?_
 unfold K2z at h
 refine zQ<|yl rfl (f32 (some 0)) (LOp.le (LOp.assign rfl rfl) (ALe.fl (by kernel_rfl) (by kernel_rfl)))<|zN ?_
 refine yS<|yS ?_
 rcases oB h with ⟨hc1, h⟩ | ⟨hc1, h⟩
 ·refine yW<|ym rfl (i64 a0)<|ym rfl (i64 a1)<|yl rfl (b true) (LOp.eqb (LOp.gtr rfl rfl rfl) hc1)<|zN ?_
  refine yT<|zQ<|yl rfl (f32 (some 0)) (LOp.le (LOp.assign rfl rfl) (ALe.fl (by kernel_rfl) (by kernel_rfl)))<|zN ?_
  refine RunC.ret ?_
  have hq := oI h
  subst q0
  exact bR rfl
 ·refine yW<|ym rfl (i64 a0)<|ym rfl (i64 a1)<|yl rfl (b false) (LOp.eqb (LOp.gtr rfl rfl rfl) hc1)<|zN ?_
  refine yF<|RunC.skip<|yS ?_
  obtain ⟨r1, hf2, h⟩ := oS h
  refine yW<|yl rfl (agg (mXc a2 a3 a4)) (yL agg27 siz27)<|ym rfl (i64 a0)<|ym rfl (i64 a1)<|yd rfl (f32 r1) (TOp.callB (CallAs.func ent46 rfl rfl) (Bors.cons (Bor.agg (bP (bP (bS bN)))) (bP bN0)) rfl rfl (K0p_ok a2 a3 a4 a0 a1 r1 hf2))<|ya rfl (f32 r1)<|zN ?_
  refine RunC.ret ?_
  have hq := oI h
  subst q0
  exact bR rfl
def K30_b2 (a1 : Int) (a2 : Int) (a3 : Int) (a4 : List F) (r1 : Int) (r2 : Int) (r3 : List F) (v6 : Int) (L7 : List F) (v9 : Int) : Option (LR ((List F) × Int) ((List F)) (Int × Int × (List F))) :=
 bsel (decide (v9 < a1)) (
  obind (K2z v6 v9 a2 a3 a4) fun (r11 : F) =>
  obind (K0r r1 r2 v6 v9 r11 L7) fun (r12 : List F) =>
  need (decide (r12.length = r3.length)) <|
  olet (IntKind.i64.wrap (v9 + 1)) fun (x13 : Int) =>
  some (LR.next (r12, x13))) (
  some (LR.out L7))
def K30_s2 (a1 : Int) (a2 : Int) (a3 : Int) (a4 : List F) (r1 : Int) (r2 : Int) (r3 : List F) (v6 : Int) : ((List F) × Int) → Option (LR ((List F) × Int) ((List F)) (Int × Int × (List F))) := fun s => K30_b2 a1 a2 a3 a4 r1 r2 r3 v6 s.1 s.2
def K30_k2 (v6 : Int) (L14 : List F) : Option (LR ((List F) × Int) ((List F)) (Int × Int × (List F))) :=
 olet (IntKind.i64.wrap (v6 + 1)) fun (x16 : Int) =>
 some (LR.next (L14, x16))
def K30_b3 (a0 : Int) (a1 : Int) (a2 : Int) (a3 : Int) (a4 : List F) (r1 : Int) (r2 : Int) (r3 : List F) (L4 : List F) (v6 : Int) : Option (LR ((List F) × Int) ((List F)) (Int × Int × (List F))) :=
 bsel (decide (v6 < a0)) (
  obind (loopM (K30_s2 a1 a2 a3 a4 r1 r2 r3 v6) (L4, 0)) fun z => osum z (fun e => K30_k2 v6 e) (fun r => some (LR.ret r))) (
  some (LR.out L4))
def K30_s3 (a0 : Int) (a1 : Int) (a2 : Int) (a3 : Int) (a4 : List F) (r1 : Int) (r2 : Int) (r3 : List F) : ((List F) × Int) → Option (LR ((List F) × Int) ((List F)) (Int × Int × (List F))) := fun s => K30_b3 a0 a1 a2 a3 a4 r1 r2 r3 s.1 s.2
def K30_k3 (r1 : Int) (r2 : Int) (L17 : List F) : Option (Int × Int × (List F)) :=
 some (r1, r2, L17)
def K30 (a0 : Int) (a1 : Int) (a2 : Int) (a3 : Int) (a4 : List F) : Option (Int × Int × (List F)) :=
 obind3 (K1f a0 a1) fun (r1 : Int) (r2 : Int) (r3 : List F) =>
 obind (loopM (K30_s3 a0 a1 a2 a3 a4 r1 r2 r3) (r3, 0)) fun z => osum z (fun e => K30_k3 r1 r2 e) (fun r => some r)
theorem K30_ok (a0 : Int) (a1 : Int) (a2 : Int) (a3 : Int) (a4 : List F) (q0 : Int) (q1 : Int) (q2 : List F) (h : K30 a0 a1 a2 a3 a4 = some (q0, q1, q2)) : Ev Tryz.prog 57 [i64 a0, i64 a1, fn (.func 92) [] [ptr (mXc a2 a3 a4)]] [] (agg (oXc q0 q1 0 0 q2.length)) [oF 0 q2] := by
 refine yE Tryz.func57 3 65 0 ([(0, i64 a0), (1, i64 a1), (2, fn (.func 92) [] [ptr (mXc a2 a3 a4)])]) [o0, o0, o0] rfl ?_
 unfold K30 at h
 refine zQ<|ye rfl (optr 0 1 0) [⟨1, some zMx⟩, o0, o0] (TOp.alloc_o (g := o0) 0 rfl zer27 zok27 rfl)<|zN ?_
 refine yS ?_
 obtain ⟨r1, r2, r3, hf1, h⟩ := obind3_some h
 refine yW<|ym rfl (i64 a0)<|ym rfl (i64 a1)<|ye rfl (agg (oXc r1 r2 1 1 r3.length)) [⟨1, some zMx⟩, oF 1 r3, o0] (TOp.callBN (ls := [(r3.map f32)]) [1] (CallAs.func ent64 rfl rfl) (bP bN0) rfl (K1f_ok a0 a1 r1 r2 r3 hf1) (and_all (lts0_map (f := f32) (fun _ => rfl) _) rfl) (and_all (noss_map (f := f32) (fun _ => rfl) _) rfl) rfl (by decide) (ns_of ⟨⟨_, rfl⟩, trivial⟩))<|ye rfl (optr 2 1 0) [⟨1, some zMx⟩, oF 1 r3, ⟨1, some zMx⟩] (TOp.alloc_o (g := o0) 2 rfl zer27 zok27 rfl)<|ys (agg (oXc r1 r2 1 1 r3.length)) (oXc r1 r2 1 1 r3.length) [⟨1, some zMx⟩, oF 1 r3, ⟨1, some (oXc r1 r2 1 1 r3.length)⟩] siz27<|zN ?_
 refine yS<|zQ<|ym rfl (i64 a0)<|ym rfl (i64 0)<|zN ?_
 obtain ⟨z4, hz_4, h⟩ := oS h
 refine RunC.cutN (fun τ Γ => ∃ (L17 : List F), L17.length = r3.length ∧ WeakLe τ [(6, optr 0 1 0), (7, optr 2 1 0)] ∧ DeadLe Γ [⟨1, some zMx⟩, oF 1 L17, ⟨1, some (oXc r1 r2 1 1 r3.length)⟩] ∧ z4 = .inl L17) ?_ ?_
 ·refine RunC.block (RunC.loop (RunL.loopM (x := z4) (K30_s3 a0 a1 a2 a3 a4 r1 r2 r3) (fun (s : (List F) × Int) τ Γ => s.1.length = r3.length ∧ WeakLe τ [(1, i64 a1), (2, fn (.func 92) [] [ptr (mXc a2 a3 a4)]), (6, optr 0 1 0), (7, optr 2 1 0), (13, i64 a0), (14, i64 s.2)] ∧ DeadLe Γ [⟨1, some zMx⟩, ⟨1, some (s.1.map f32)⟩, ⟨1, some (oXc r1 r2 1 1 r3.length)⟩]) ?_ _ _ _ hz_4 ⟨rfl, ⟨aR, aR, aR, aR, aR, aR, trivial⟩, ⟨⟨rfl, .inr rfl⟩, ⟨rfl, .inr rfl⟩, ⟨rfl, .inr rfl⟩, trivial⟩⟩))
  rintro ⟨L4, v6⟩ τ4 Γ4 y4_ ⟨hl5, hw4, hd4⟩ h4_ ho4 hr4
  refine RunC.wl (τ' := [(1, i64 a1), (2, fn (.func 92) [] [ptr (mXc a2 a3 a4)]), (6, optr 0 1 0), (7, optr 2 1 0), (13, i64 a0), (14, i64 v6)]) (Γ' := [⟨1, some zMx⟩, oF 1 L4, ⟨1, some (oXc r1 r2 1 1 r3.length)⟩]) hw4 hd4 ?_
  replace hl5 : L4.length = r3.length := hl5
  replace h4_ : K30_b3 a0 a1 a2 a3 a4 r1 r2 r3 L4 v6 = some y4_ := h4_
  unfold K30_b3 at h4_
  refine yS ?_
  rcases oB h4_ with ⟨hc2, h4_⟩ | ⟨hc2, h4_⟩
  ·refine yW<|yl rfl (b true) (LOp.eqb (LOp.lss rfl rfl rfl) hc2)<|zN ?_
   refine yS<|yT<|RunC.skip<|yS<|RunC.block<|zQ<|ym rfl (i64 v6)<|ya rfl (i64 v6)<|zN ?_
   refine zQ<|ym rfl (i64 a1)<|ym rfl (i64 0)<|zN ?_
   obtain ⟨z5, hz_5, h4_⟩ := oS h4_
   refine RunC.cutN (fun τ Γ => ∃ (L14 : List F), L14.length = r3.length ∧ WeakLe τ [(1, i64 a1), (2, fn (.func 92) [] [ptr (mXc a2 a3 a4)]), (6, optr 0 1 0), (7, optr 2 1 0), (13, i64 a0), (14, i64 v6)] ∧ DeadLe Γ [⟨1, some zMx⟩, oF 1 L14, ⟨1, some (oXc r1 r2 1 1 r3.length)⟩] ∧ z5 = .inl L14) ?_ ?_
   ·refine RunC.block (RunC.loop (RunL.loopM (x := z5) (K30_s2 a1 a2 a3 a4 r1 r2 r3 v6) (fun (s : (List F) × Int) τ Γ => s.1.length = r3.length ∧ WeakLe τ [(1, i64 a1), (2, fn (.func 92) [] [ptr (mXc a2 a3 a4)]), (6, optr 0 1 0), (7, optr 2 1 0), (8, i64 v6), (13, i64 a0), (14, i64 v6), (17, i64 a1), (18, i64 s.2)] ∧ DeadLe Γ [⟨1, some zMx⟩, ⟨1, some (s.1.map f32)⟩, ⟨1, some (oXc r1 r2 1 1 r3.length)⟩]) ?_ _ _ _ hz_5 ⟨hl5, ⟨aR, aR, aR, aR, aR, aR, aR, aR, aR, trivial⟩, ⟨⟨rfl, .inr rfl⟩, ⟨rfl, .inr rfl⟩, ⟨rfl, .inr rfl⟩, trivial⟩⟩))
    rintro ⟨L7, v9⟩ τ5 Γ5 y5_ ⟨hl8, hw5, hd5⟩ h5_ ho5 hr5
    refine RunC.wl (τ' := [(1, i64 a1), (2, fn (.func 92) [] [ptr (mXc a2 a3 a4)]), (6, optr 0 1 0), (7, optr 2 1 0), (8, i64 v6), (13, i64 a0), (14, i64 v6), (17, i64 a1), (18, i64 v9)]) (Γ' := [⟨1, some zMx⟩, oF 1 L7, ⟨1, some (oXc r1 r2 1 1 r3.length)⟩]) hw5 hd5 ?_
    replace hl8 : L7.length = r3.length := hl8
    replace h5_ : K30_b2 a1 a2 a3 a4 r1 r2 r3 v6 L7 v9 = some y5_ := h5_
    unfold K30_b2 at h5_
    refine yS ?_
    rcases oB h5_ with ⟨hc3, h5_⟩ | ⟨hc3, h5_⟩
    ·refine yW<|yl rfl (b true) (LOp.eqb (LOp.lss rfl rfl rfl) hc3)<|zN ?_
     refine yS<|yT<|RunC.skip<|yS<|RunC.block<|zQ<|ym rfl (i64 v9)<|ya rfl (i64 v9)<|zN ?_
     obtain ⟨r11, hf5, h5_⟩ := oS h5_
     obtain ⟨r12, hf6, h5_⟩ := oS h5_
     obtain ⟨hn7, h5_⟩ := need_some h5_
     refine RunC.region_draw (Γ' := [⟨1, some zMx⟩, oF 1 L7, ⟨1, some (oXc r1 r2 1 1 r3.length)⟩]) 7 mixed 
      (TR.d (r := agg (oXc r1 r2 1 1 r3.length)) (fs := []) rfl rfl (yA agg27 siz27) <|
      (tm rfl (i64 v6) <|
      (tm rfl (i64 v9) <|
      (tm rfl (fn (.func 92) [] [ptr (mXc a2 a3 a4)]) <|
      (tm rfl (i64 v6) <|
      (tm rfl (i64 v9) <|
      (TR.d (r := f32 r11) (fs := []) rfl rfl (TOp.callB (CallAs.fn ent92 rfl rfl rfl rfl) (bP (bP (Bors.cons (Bor.ptr (bP (bP (bS bN)))) bN))) rfl rfl (K2z_ok v6 v9 a2 a3 a4 r11 hf5)) <|
      TR.nil))))))) rfl (by kernel_rfl) rfl fills_nil rfl ?_
     iterate 7 refine ROps.dropS ?_
     refine ROps.drop0<|ROps.callO (A := [agg (oXc r1 r2 1 1 r3.length), i64 v6, i64 v9, f32 r11]) (args := [agg (oXc r1 r2 0 0 L7.length), i64 v6, i64 v9, f32 r11]) (Γc := [oF 0 L7]) (Γc' := [oF 0 r12]) (r' := tup []) (Γ' := [⟨1, some zMx⟩, oF 1 r12, ⟨1, some (oXc r1 r2 1 1 r3.length)⟩]) [(1, 1)] [] rfl (CallAs.func ent81 rfl rfl) rfl rfl (SelOk.of (ndB_ok rfl) (sA rfl trivial)) (live_of ⟨⟨_, _, rfl⟩, trivial⟩) (by simp [ren, rens, sigma, rens_f32, rens_f64, rens_i64, rens_ik, rens_str, rens_cp, hl8]) rfl (K0r_ok r1 r2 v6 v9 r11 L7 r12 hf6) rfl (news_of trivial) (ndB_ok rfl) (by simp [ren, rens, sigma, of_decide_eq_true hn7]) (by simp [backOb, sigma, ren, rens, rens_f32, rens_f64, rens_i64, rens_ik, rens_str, rens_cp] <;> omega)<|zN ?_
     obtain ⟨x13, hx8, h5_⟩ := oL h5_
     refine yW<|yl rfl (i64 x13) (LOp.eqr (LOp.add rfl rfl rfl) (congrArg (ik .i64) hx8))<|ym rfl (i64 x13)<|zN ?_
     cases oI h5_
     exact ⟨_, rfl, (of_decide_eq_true hn7), ⟨aR, aR, aR, aR, aR, aR, aR, aR, aR, trivial⟩, ⟨⟨rfl, .inr rfl⟩, ⟨rfl, .inr rfl⟩, ⟨rfl, .inr rfl⟩, trivial⟩⟩
    ·refine yW<|yl rfl (b false) (LOp.eqb (LOp.lss rfl rfl rfl) hc3)<|zN ?_
     refine yS<|yF<|RunC.exit ?_
     cases oI h5_
     have hx := ho5 _ rfl
     exact ⟨L7, hl8, ⟨aR, aR, aR, aR, aR, aR, trivial⟩, ⟨⟨rfl, .inr rfl⟩, ⟨rfl, .inr rfl⟩, ⟨rfl, .inr rfl⟩, trivial⟩, hx⟩
   ·rintro τ6 Γ6 ⟨L14, hl15, hw6, hd6, rfl⟩
    refine RunC.wl hw6 hd6 ?_
    replace h4_ : K30_k2 v6 L14 = some y4_ := h4_
    unfold K30_k2 at h4_
    obtain ⟨x16, hx9, h4_⟩ := oL h4_
    refine yW<|yl rfl (i64 x16) (LOp.eqr (LOp.add rfl rfl rfl) (congrArg (ik .i64) hx9))<|ym rfl (i64 x16)<|zN ?_
    cases oI h4_
    exact ⟨_, rfl, hl15, ⟨aR, aR, aR, aR, aR, aR, trivial⟩, ⟨⟨rfl, .inr rfl⟩, ⟨rfl, .inr rfl⟩, ⟨rfl, .inr rfl⟩, trivial⟩⟩
  ·refine yW<|yl rfl (b false) (LOp.eqb (LOp.lss rfl rfl rfl) hc2)<|zN ?_
   refine yS<|yF<|RunC.exit ?_
   cases oI h4_
   have hx := ho4 _ rfl
   exact ⟨L4, hl5, ⟨aR, aR, trivial⟩, ⟨⟨rfl, .inr rfl⟩, ⟨rfl, .inr rfl⟩, ⟨rfl, .inr rfl⟩, trivial⟩, hx⟩
 ·rintro τ7 Γ7 ⟨L17, hl18, hw7, hd7, rfl⟩
  refine RunC.wl hw7 hd7 ?_
  replace h : K30_k3 r1 r2 L17 = some (q0, q1, q2) := h
  unfold K30_k3 at h
  refine zQ<|yd rfl (agg (oXc r1 r2 1 1 r3.length)) (yA agg27 siz27)<|ys (agg (oXc r1 r2 1 1 r3.length)) (oXc r1 r2 1 1 r3.length) [⟨1, some (oXc r1 r2 1 1 r3.length)⟩, oF 1 L17, ⟨1, some (oXc r1 r2 1 1 r3.length)⟩] siz27<|zN ?_
  refine RunC.ret ?_
  have hq := oI h
  obtain ⟨hq0, hq⟩ := Prod.mk.inj hq
  obtain ⟨hq1, hq⟩ := Prod.mk.inj hq
  subst q0
  subst q1
  subst q2
  exact yB (agg (oXc r1 r2 1 1 L17.length)) [(1, 1)] (Res.eq (Res.one rfl (RV.cell agg27 siz27 rfl rfl rfl rfl)) (by first | rfl | (rw [(show L17.length = r3.length from hl18)] <;> rfl))) (sA rfl trivial)
def K31 (a0 : Int) (a1 : Int) (a2 : List F) : Option (Int × Int × (List F)) :=
 obind3 (K30 a0 a1 a0 a1 a2) fun (r1 : Int) (r2 : Int) (r3 : List F) =>
 some (r1, r2, r3)
theorem K31_ok (a0 : Int) (a1 : Int) (a2 : List F) (q0 : Int) (q1 : Int) (q2 : List F) (h : K31 a0 a1 a2 = some (q0, q1, q2)) : Ev Tryz.prog 59 [agg (mXc a0 a1 a2)] [] (agg (oXc q0 q1 0 0 q2.length)) [oF 0 q2] := by
 refine yE Tryz.func59 2 19 0 [(0, agg (mXc a0 a1 a2))] [o0, o0] rfl ?_
 unfold K31 at h
 refine zQ<|yd rfl (ptr (mXc a0 a1 a2)) (TOp.box_s rfl rfl rfl)<|ye rfl (optr 0 1 0) [⟨1, some zMx⟩, o0] (TOp.alloc_o (g := o0) 0 rfl zer27 zok27 rfl)<|zN ?_
 refine yS ?_
 obtain ⟨r1, r2, r3, hf1, h⟩ := obind3_some h
 refine yW<|yl rfl (ptr (mXc a0 a1 a2)) (LOp.fap und27 rfl siz2 rfl rfl rfl)<|yl rfl (i64 a0) (y2 agg2)<|yl rfl (ptr [i64 a1, (sFc a2)]) (LOp.fap und27 rfl siz2 rfl rfl rfl)<|yl rfl (i64 a1) (y2 agg2)<|yl rfl (fn (.func 92) [] [ptr (mXc a0 a1 a2)]) (LOp.makeFunc rfl rfl)<|ye rfl (agg (oXc r1 r2 1 1 r3.length)) [⟨1, some zMx⟩, oF 1 r3] (TOp.callBN (ls := [(r3.map f32)]) [1] (CallAs.func ent57 rfl rfl) (bP (bP (Bors.cons (Bor.fn bN (Bors.cons (Bor.ptr (bP (bP (bS bN)))) bN)) bN))) rfl (K30_ok a0 a1 a0 a1 a2 r1 r2 r3 hf1) (and_all (lts0_map (f := f32) (fun _ => rfl) _) rfl) (and_all (noss_map (f := f32) (fun _ => rfl) _) rfl) rfl (by decide) (ns_of ⟨⟨_, rfl⟩, trivial⟩))<|ys (agg (oXc r1 r2 1 1 r3.length)) (oXc r1 r2 1 1 r3.length) [⟨1, some (oXc r1 r2 1 1 r3.length)⟩, oF 1 r3] siz27<|zN ?_
 refine RunC.ret ?_
 have hq := oI h
 obtain ⟨hq0, hq⟩ := Prod.mk.inj hq
 obtain ⟨hq1, hq⟩ := Prod.mk.inj hq
 subst q0
 subst q1
 subst q2
 exact yB (agg (oXc r1 r2 1 1 r3.length)) [(1, 1)] (Res.one rfl (RV.cell agg27 siz27 rfl rfl rfl rfl)) (sA rfl trivial)
def K32 (a0 : Int) (a1 : Int) (a2 : List F) (a3 : List Int) : Option (Int × Int × Bool × (List F)) :=
 obind (K1e a0 a1 a2 a3) fun (r1 : Bool) =>
 bsel r1 (
  obind3 (K31 a0 a1 a2) fun (r2 : Int) (r3 : Int) (r4 : List F) =>
  some (r2, r3, true, r4)) (
  some (0, 0, false, ([] : List F)))
theorem K32_ok (a0 : Int) (a1 : Int) (a2 : List F) (a3 : List Int) (q0 : Int) (q1 : Int) (q2 : Bool) (q3 : List F) (h : K32 a0 a1 a2 a3 = some (q0, q1, q2, q3)) : Ev Tryz.prog 19 [agg [i64 a0, i64 a1, (sFc a2), sl a3.length (a3.map i64)]] [] (tup [agg (oXc q0 q1 0 0 q3.length), b q2]) [oF 0 q3] := by
 refine yE Tryz.func19 2 23 0 ([(0, agg [i64 a0, i64 a1, (sFc a2), sl a3.length (a3.map i64)])]) [o0, o0] rfl ?_
 unfold K32 at h
 refine zQ<|yd rfl (ptr [i64 a0, i64 a1, (sFc a2), sl a3.length (a3.map i64)]) (TOp.box_s rfl rfl rfl)<|ye rfl (optr 0 1 0) [⟨1, some zMx⟩, o0] (TOp.alloc_o (g := o0) 0 rfl zer27 zok27 rfl)<|ya rfl (b false)<|zN ?_
 refine yS<|yS ?_
 obtain ⟨r1, hf1, h⟩ := oS h
 rcases oB h with ⟨hc2, h⟩ | ⟨hc2, h⟩
 ·refine yW<|yl rfl (agg [i64 a0, i64 a1, (sFc a2), sl a3.length (a3.map i64)]) (yL agg41 siz41)<|yd rfl (b true) (TOp.eqb (TOp.callB (CallAs.func ent56 rfl rfl) (Bors.cons (Bor.agg (bP (bP (bS (bS bN))))) bN) rfl rfl (K1e_ok a0 a1 a2 a3 r1 hf1)) hc2)<|yl rfl (b false) y1<|zN ?_
  refine yF<|RunC.skip<|yS ?_
  obtain ⟨r2, r3, r4, hf3, h⟩ := obind3_some h
  refine yW<|yl rfl (ptr [i64 a0, i64 a1, (sFc a2), sl a3.length (a3.map i64)]) (LOp.fap und41 rfl siz27 rfl rfl rfl)<|yl rfl (agg (mXc a0 a1 a2)) (yL agg27 siz27)<|ye rfl (agg (oXc r2 r3 1 1 r4.length)) [⟨1, some zMx⟩, oF 1 r4] (TOp.callBN (ls := [(r4.map f32)]) [1] (CallAs.func ent59 rfl rfl) (Bors.cons (Bor.agg (bP (bP (bS bN)))) bN) rfl (K31_ok a0 a1 a2 r2 r3 r4 hf3) (and_all (lts0_map (f := f32) (fun _ => rfl) _) rfl) (and_all (noss_map (f := f32) (fun _ => rfl) _) rfl) rfl (by decide) (ns_of ⟨⟨_, rfl⟩, trivial⟩))<|ys (agg (oXc r2 r3 1 1 r4.length)) (oXc r2 r3 1 1 r4.length) [⟨1, some (oXc r2 r3 1 1 r4.length)⟩, oF 1 r4] siz27<|ya rfl (b true)<|zN ?_
  refine RunC.ret ?_
  have hq := oI h
  obtain ⟨hq0, hq⟩ := Prod.mk.inj hq
  obtain ⟨hq1, hq⟩ := Prod.mk.inj hq
  obtain ⟨hq2, hq⟩ := Prod.mk.inj hq
  subst q0
  subst q1
  subst q2
  subst q3
  exact yB (tup [agg (oXc r2 r3 1 1 r4.length), b true]) [(1, 1)] (Res.two rfl (RV.cell agg27 siz27 rfl rfl rfl rfl) (RV.tmp rfl)) (sA rfl trivial)
 ·refine yW<|yl rfl (agg [i64 a0, i64 a1, (sFc a2), sl a3.length (a3.map i64)]) (yL agg41 siz41)<|yd rfl (b false) (TOp.eqb (TOp.callB (CallAs.func ent56 rfl rfl) (Bors.cons (Bor.agg (bP (bP (bS (bS bN))))) bN) rfl rfl (K1e_ok a0 a1 a2 a3 r1 hf1)) hc2)<|yl rfl (b true) y0<|zN ?_
  refine yT<|zQ<|yl rfl (agg zMx) (LOp.build (qs := []) zer27 zok27 und27 plc27 rfl trivial rfl)<|ys (agg zMx) zMx [⟨1, some zMx⟩, o0] siz27<|ya rfl (b false)<|zN ?_
  refine RunC.nil_cell (l' := [i64 0, i64 0, oref 1 1 0 0]) (Γ' := [⟨1, some [i64 0, i64 0, oref 1 1 0 0]⟩, ⟨1, some (([] : List F).map f32)⟩]) 0 2 1 rfl rfl rfl rfl rfl<|RunC.ret ?_
  have hq := oI h
  obtain ⟨hq0, hq⟩ := Prod.mk.inj hq
  obtain ⟨hq1, hq⟩ := Prod.mk.inj hq
  obtain ⟨hq2, hq⟩ := Prod.mk.inj hq
  subst q0
  subst q1
  subst q2
  subst q3
  exact yB (tup [agg [i64 0, i64 0, oref 1 1 0 (([] : List F).length)], b false]) [(1, 1)] (Res.eq (Res.two rfl (RV.cell agg27 siz27 rfl rfl rfl rfl) (RV.tmp rfl)) (by first | rfl | (rw [(show ([] : List F).length = 0 from rfl)] <;> rfl))) (sA rfl trivial)
def K33 (a0 : Int) (a1 : Int) (a2 : List F) (a3 : Int) (a4 : Int) (a5 : List F) : Option (Bool) :=
 obind (K2j a0 a1 a2) fun (r1 : Bool) =>
 bsel r1 (
  obind (K2j a3 a4 a5) fun (r2 : Bool) =>
  bsel r2 (
   some (decide (a1 = a3))) (
   some false)) (
  some false)
theorem K33_ok (a0 : Int) (a1 : Int) (a2 : List F) (a3 : Int) (a4 : Int) (a5 : List F) (q0 : Bool) (h : K33 a0 a1 a2 a3 a4 a5 = some q0) : Ev Tryz.prog 60 [ptr (mXc a0 a1 a2), ptr (mXc a3 a4 a5)] [] (b q0) [] := by
 refine yE Tryz.func60 0 45 0 [(0, ptr (mXc a0 a1 a2)), (1, ptr (mXc a3 a4 a5))] [] rfl ?_
 unfold K33 at h
 refine zQ<|ya rfl (b false)<|zN ?_
 refine yS ?_
 obtain ⟨r1, hf1, h⟩ := oS h
 rcases oB h with ⟨hc2, h⟩ | ⟨hc2, h⟩
 ·obtain ⟨r2, hf3, h⟩ := oS h
  rcases oB h with ⟨hc4, h⟩ | ⟨hc4, h⟩
  ·refine RunC.region_draw (Γ' := []) 18 mixed 
    (tm rfl (ptr (mXc a0 a1 a2)) <|
    (TR.d (r := b true) (fs := []) rfl rfl (TOp.eqb (TOp.callB (CallAs.func ent54 rfl rfl) (Bors.cons (Bor.ptr (bP (bP (bS bN)))) bN) rfl rfl (K2j_ok a0 a1 a2 r1 hf1)) hc2) <|
    (tm rfl (b true) <|
    (tm rfl (ptr (mXc a3 a4 a5)) <|
    (TR.d (r := b true) (fs := []) rfl rfl (TOp.eqb (TOp.callB (CallAs.func ent54 rfl rfl) (Bors.cons (Bor.ptr (bP (bP (bS bN)))) bN) rfl rfl (K2j_ok a3 a4 a5 r2 hf3)) hc4) <|
    (tl rfl (b true) yq <|
    (tm rfl (b true) <|
    (tm rfl (ptr (mXc a0 a1 a2)) <|
    (tl rfl (ptr (mXc a0 a1 a2)) y4 <|
    (tl rfl (ptr [i64 a1, (sFc a2)]) (LOp.fap und27 rfl siz2 rfl rfl rfl) <|
    (tl rfl (i64 a1) (y2 agg2) <|
    (tm rfl (ptr (mXc a3 a4 a5)) <|
    (tl rfl (ptr (mXc a3 a4 a5)) y4 <|
    (tl rfl (ptr (mXc a3 a4 a5)) (LOp.fap und27 rfl siz2 rfl rfl rfl) <|
    (tl rfl (i64 a3) (y2 agg2) <|
    (tl rfl (b (decide (a1 = a3))) (LOp.eql rfl rfl rfl) <|
    (tl rfl (b (decide (a1 = a3))) yq <|
    (tl rfl (b (decide (a1 = a3))) (LOp.assign rfl rfl) <|
    TR.nil)))))))))))))))))) rfl (by kernel_rfl) rfl fills_nil rfl ?_
   iterate 18 refine ROps.dropS ?_
   refine ROps.drop0<|zN ?_
   refine RunC.ret ?_
   have hq := oI h
   subst q0
   exact bR rfl
  ·refine RunC.region_draw (Γ' := []) 18 mixed 
    (tm rfl (ptr (mXc a0 a1 a2)) <|
    (TR.d (r := b true) (fs := []) rfl rfl (TOp.eqb (TOp.callB (CallAs.func ent54 rfl rfl) (Bors.cons (Bor.ptr (bP (bP (bS bN)))) bN) rfl rfl (K2j_ok a0 a1 a2 r1 hf1)) hc2) <|
    (tm rfl (b true) <|
    (tm rfl (ptr (mXc a3 a4 a5)) <|
    (TR.d (r := b false) (fs := []) rfl rfl (TOp.eqb (TOp.callB (CallAs.func ent54 rfl rfl) (Bors.cons (Bor.ptr (bP (bP (bS bN)))) bN) rfl rfl (K2j_ok a3 a4 a5 r2 hf3)) hc4) <|
    (tl rfl (b false) yq <|
    (tm rfl (b false) <|
    (ts rfl <|
    (ts rfl <|
    (ts rfl <|
    (ts rfl <|
    (ts rfl <|
    (ts rfl <|
    (ts rfl <|
    (ts rfl <|
    (ts rfl <|
    (tl rfl (b false) yp <|
    (tl rfl (b false) (LOp.assign rfl rfl) <|
    TR.nil)))))))))))))))))) rfl (by kernel_rfl) rfl fills_nil rfl ?_
   iterate 18 refine ROps.dropS ?_
   refine ROps.drop0<|zN ?_
   refine RunC.ret ?_
   have hq := oI h
   subst q0
   exact bR rfl
 ·refine RunC.region_draw (Γ' := []) 18 mixed 
   (tm rfl (ptr (mXc a0 a1 a2)) <|
   (TR.d (r := b false) (fs := []) rfl rfl (TOp.eqb (TOp.callB (CallAs.func ent54 rfl rfl) (Bors.cons (Bor.ptr (bP (bP (bS bN)))) bN) rfl rfl (K2j_ok a0 a1 a2 r1 hf1)) hc2) <|
   (tm rfl (b false) <|
   (ts rfl <|
   (ts rfl <|
   (tl rfl (b false) yp <|
   (tm rfl (b false) <|
   (ts rfl <|
   (ts rfl <|
   (ts rfl <|
   (ts rfl <|
   (ts rfl <|
   (ts rfl <|
   (ts rfl <|
   (ts rfl <|
   (ts rfl <|
   (tl rfl (b false) yp <|
   (tl rfl (b false) (LOp.assign rfl rfl) <|
   TR.nil)))))))))))))))))) rfl (by kernel_rfl) rfl fills_nil rfl ?_
  iterate 18 refine ROps.dropS ?_
  refine ROps.drop0<|zN ?_
  refine RunC.ret ?_
  have hq := oI h
  subst q0
  exact bR rfl
def K34_b2 (a0 : Int) (a1 : Int) (a2 : List F) (a3 : Int) (a4 : Int) (a5 : List F) (v7 : Int) (y9 : F) (v10 : Int) : Option (LR (F × Int) (F) (Int × Int × (List F))) :=
 bsel (decide (v10 < a1)) (
  need (!decide (a4 = 0)) <|
  olet (IntKind.i64.wrap (v7.tdiv a4)) fun (x11 : Int) =>
  obind (K2l a0 a1 a2 x11 v10) fun (r12 : F) =>
  need (!decide (a4 = 0)) <|
  olet (v7.tmod a4) fun (x13 : Int) =>
  obind (K2l a3 a4 a5 v10 x13) fun (r14 : F) =>
  olet (fop .mul .f32 r12 r14) fun (x15 : F) =>
  olet (fop .add .f32 y9 x15) fun (x16 : F) =>
  olet (IntKind.i64.wrap (v10 + 1)) fun (x17 : Int) =>
  some (LR.next (x16, x17))) (
  some (LR.out y9))
def K34_s2 (a0 : Int) (a1 : Int) (a2 : List F) (a3 : Int) (a4 : Int) (a5 : List F) (v7 : Int) : (F × Int) → Option (LR (F × Int) (F) (Int × Int × (List F))) := fun s => K34_b2 a0 a1 a2 a3 a4 a5 v7 s.1 s.2
def K34_k2 (L6 : List F) (v7 : Int) (y18 : F) : Option (LR ((List F) × Int) ((List F)) (Int × Int × (List F))) :=
 need (apok 4 L6.length 1) <|
 olet (IntKind.i64.wrap (v7 + 1)) fun (x19 : Int) =>
 some (LR.next ((L6 ++ ([y18] : List F)), x19))
def K34_b3 (a0 : Int) (a1 : Int) (a2 : List F) (a3 : Int) (a4 : Int) (a5 : List F) (L6 : List F) (v7 : Int) : Option (LR ((List F) × Int) ((List F)) (Int × Int × (List F))) :=
 olet (IntKind.i64.wrap (a0 * a4)) fun (x8 : Int) =>
 bsel (decide (v7 < x8)) (
  obind (loopM (K34_s2 a0 a1 a2 a3 a4 a5 v7) (some 0, 0)) fun z => osum z (fun e => K34_k2 L6 v7 e) (fun r => some (LR.ret r))) (
  some (LR.out L6))
def K34_s3 (a0 : Int) (a1 : Int) (a2 : List F) (a3 : Int) (a4 : Int) (a5 : List F) : ((List F) × Int) → Option (LR ((List F) × Int) ((List F)) (Int × Int × (List F))) := fun s => K34_b3 a0 a1 a2 a3 a4 a5 s.1 s.2
def K34_k3 (r1 : Int) (r2 : Int) (L22 : List F) : Option (Int × Int × (List F)) :=
 some (r1, r2, L22)
def K34 (a0 : Int) (a1 : Int) (a2 : List F) (a3 : Int) (a4 : Int) (a5 : List F) : Option (Int × Int × (List F)) :=
 obind3 (K03 a0 a4) fun (r1 : Int) (r2 : Int) (r3 : List F) =>
 obind (loopM (K34_s3 a0 a1 a2 a3 a4 a5) (r3, 0)) fun z => osum z (fun e => K34_k3 r1 r2 e) (fun r => some r)
theorem K34_ok (a0 : Int) (a1 : Int) (a2 : List F) (a3 : Int) (a4 : Int) (a5 : List F) (q0 : Int) (q1 : Int) (q2 : List F) (h : K34 a0 a1 a2 a3 a4 a5 = some (q0, q1, q2)) : Ev Tryz.prog 62 [ptr (mXc a0 a1 a2), ptr (mXc a3 a4 a5)] [] (agg (oXc q0 q1 0 0 q2.length)) [oF 0 q2] := by
 refine yE Tryz.func62 4 135 0 [(0, ptr (mXc a0 a1 a2)), (1, ptr (mXc a3 a4 a5))] [o0, o0, o0, o0] rfl ?_
 unfold K34 at h
 refine zQ<|ye rfl (optr 0 1 0) [⟨1, some zMx⟩, o0, o0, o0] (TOp.alloc_o (g := o0) 0 rfl zer27 zok27 rfl)<|zN ?_
 refine yS ?_
 obtain ⟨r1, r2, r3, hf1, h⟩ := obind3_some h
 refine RunC.region_draw (Γ' := [⟨1, some zMx⟩, oF 1 r3, ⟨1, some zMx⟩, o0]) 10 mixed 
  (tm rfl (ptr (mXc a0 a1 a2)) <|
  (tl rfl (ptr (mXc a0 a1 a2)) y4 <|
  (tl rfl (ptr (mXc a0 a1 a2)) (LOp.fap und27 rfl siz2 rfl rfl rfl) <|
  (tl rfl (i64 a0) (y2 agg2) <|
  (tm rfl (ptr (mXc a3 a4 a5)) <|
  (tl rfl (ptr (mXc a3 a4 a5)) y4 <|
  (tl rfl (ptr [i64 a4, (sFc a5)]) (LOp.fap und27 rfl siz2 rfl rfl rfl) <|
  (tl rfl (i64 a4) (y2 agg2) <|
  (TR.d (r := agg (oXc r1 r2 1 1 r3.length)) (fs := [(1, (r3.map f32))]) rfl rfl (TOp.callBN (ls := [(r3.map f32)]) [1] (CallAs.func ent23 rfl rfl) (bP bN0) rfl (K03_ok a0 a4 r1 r2 r3 hf1) (and_all (lts0_map (f := f32) (fun _ => rfl) _) rfl) (and_all (noss_map (f := f32) (fun _ => rfl) _) rfl) rfl (by decide) (ns_of ⟨⟨_, rfl⟩, trivial⟩)) <|
  (TR.d (r := optr 2 1 0) (fs := [(2, zMx)]) rfl rfl (TOp.alloc_o (g := o0) 2 rfl zer27 zok27 rfl) <|
  TR.nil)))))))))) rfl (by kernel_rfl) rfl (fills_of (by show List.Nodup [1, 2]; decide) ⟨⟨_, rfl⟩, ⟨_, rfl⟩, trivial⟩) rfl ?_
 iterate 10 refine ROps.dropS ?_
 refine ROps.drop0<|ys (agg (oXc r1 r2 1 1 r3.length)) (oXc r1 r2 1 1 r3.length) [⟨1, some zMx⟩, oF 1 r3, ⟨1, some (oXc r1 r2 1 1 r3.length)⟩, o0] siz27<|zN ?_
 refine yS<|zQ<|ya rfl (i64 0)<|zN ?_
 obtain ⟨z4, hz_4, h⟩ := oS h
 refine RunC.cutN (fun τ Γ => ∃ (L22 : List F) (u20 : Nat) (u21 : Nat), WeakLe τ [(4, optr 0 1 0), (5, optr 2 1 0)] ∧ DeadLe Γ [⟨1, some zMx⟩, ⟨u20, some (L22.map f32)⟩, ⟨1, some (oXc r1 r2 1 u20 L22.length)⟩, ⟨u21, none⟩] ∧ z4 = .inl L22) ?_ ?_
 ·refine RunC.block (RunC.loop (RunL.loopM (x := z4) (K34_s3 a0 a1 a2 a3 a4 a5) (fun (s : (List F) × Int) τ Γ => ∃ (u4 : Nat) (u5 : Nat), WeakLe τ [(0, ptr (mXc a0 a1 a2)), (1, ptr (mXc a3 a4 a5)), (4, optr 0 1 0), (5, optr 2 1 0), (6, i64 s.2)] ∧ DeadLe Γ [⟨1, some zMx⟩, ⟨u4, some (s.1.map f32)⟩, ⟨1, some [i64 r1, i64 r2, oref 1 u4 0 s.1.length]⟩, ⟨u5, none⟩]) ?_ _ _ _ hz_4 ⟨1, 0, ⟨aR, aR, aR, aR, aR, trivial⟩, ⟨⟨rfl, .inr rfl⟩, ⟨rfl, .inr rfl⟩, ⟨rfl, .inr (by first | rfl | simp)⟩, ⟨rfl, .inl rfl⟩, trivial⟩⟩))
  rintro ⟨L6, v7⟩ τ4 Γ4 y4_ ⟨u4, u5, hw4, hd4⟩ h4_ ho4 hr4
  refine RunC.wl (τ' := [(0, ptr (mXc a0 a1 a2)), (1, ptr (mXc a3 a4 a5)), (4, optr 0 1 0), (5, optr 2 1 0), (6, i64 v7)]) (Γ' := [⟨1, some zMx⟩, ⟨u4, some (L6.map f32)⟩, ⟨1, some (oXc r1 r2 1 u4 L6.length)⟩, ⟨u5, none⟩]) hw4 hd4 ?_
  replace h4_ : K34_b3 a0 a1 a2 a3 a4 a5 L6 v7 = some y4_ := h4_
  unfold K34_b3 at h4_
  refine yS<|yS ?_
  obtain ⟨x8, hx2, h4_⟩ := oL h4_
  rcases oB h4_ with ⟨hc3, h4_⟩ | ⟨hc3, h4_⟩
  ·refine RunC.region_draw (Γ' := [⟨1, some zMx⟩, ⟨u4, some (L6.map f32)⟩, ⟨1, some (oXc r1 r2 1 u4 L6.length)⟩, ⟨u5, none⟩]) 11 mixed 
    (tm rfl (i64 v7) <|
    (tm rfl (ptr (mXc a0 a1 a2)) <|
    (tl rfl (ptr (mXc a0 a1 a2)) y4 <|
    (tl rfl (ptr (mXc a0 a1 a2)) (LOp.fap und27 rfl siz2 rfl rfl rfl) <|
    (tl rfl (i64 a0) (y2 agg2) <|
    (tm rfl (ptr (mXc a3 a4 a5)) <|
    (tl rfl (ptr (mXc a3 a4 a5)) y4 <|
    (tl rfl (ptr [i64 a4, (sFc a5)]) (LOp.fap und27 rfl siz2 rfl rfl rfl) <|
    (tl rfl (i64 a4) (y2 agg2) <|
    (tl rfl (i64 x8) (LOp.eqr (LOp.mul rfl rfl rfl) (congrArg (ik .i64) hx2)) <|
    (tl rfl (b true) (LOp.eqb (LOp.lss rfl rfl rfl) hc3) <|
    TR.nil))))))))))) rfl (by kernel_rfl) rfl fills_nil rfl ?_
   iterate 11 refine ROps.dropS ?_
   refine ROps.drop0<|zN ?_
   refine yT<|RunC.skip<|yS<|RunC.block<|zQ<|yl rfl (f32 (some 0)) (LOp.le (LOp.assign rfl rfl) (ALe.fl (by kernel_rfl) (by kernel_rfl)))<|zN ?_
   refine yS<|zQ<|ya rfl (i64 0)<|zN ?_
   obtain ⟨z5, hz_5, h4_⟩ := oS h4_
   refine RunC.cutN (fun τ Γ => ∃ (y18 : F), WeakLe τ [(0, ptr (mXc a0 a1 a2)), (1, ptr (mXc a3 a4 a5)), (4, optr 0 1 0), (5, optr 2 1 0), (6, i64 v7), (7, f32 y18)] ∧ DeadLe Γ [⟨1, some zMx⟩, ⟨u4, some (L6.map f32)⟩, ⟨1, some (oXc r1 r2 1 u4 L6.length)⟩, ⟨u5, none⟩] ∧ z5 = .inl y18) ?_ ?_
   ·refine RunC.block (RunC.loop (RunL.loopM (x := z5) (K34_s2 a0 a1 a2 a3 a4 a5 v7) (fun (s : F × Int) τ Γ => WeakLe τ [(0, ptr (mXc a0 a1 a2)), (1, ptr (mXc a3 a4 a5)), (4, optr 0 1 0), (5, optr 2 1 0), (6, i64 v7), (7, f32 s.1), (8, i64 s.2)] ∧ DeadLe Γ [⟨1, some zMx⟩, ⟨u4, some (L6.map f32)⟩, ⟨1, some (oXc r1 r2 1 u4 L6.length)⟩, ⟨u5, none⟩]) ?_ _ _ _ hz_5 ⟨⟨aR, aR, aR, aR, aR, aR, aR, trivial⟩, ⟨⟨rfl, .inr rfl⟩, ⟨rfl, .inr rfl⟩, ⟨rfl, .inr rfl⟩, ⟨rfl, .inl rfl⟩, trivial⟩⟩))
    rintro ⟨y9, v10⟩ τ5 Γ5 y5_ ⟨hw5, hd5⟩ h5_ ho5 hr5
    refine RunC.wl (τ' := [(0, ptr (mXc a0 a1 a2)), (1, ptr (mXc a3 a4 a5)), (4, optr 0 1 0), (5, optr 2 1 0), (6, i64 v7), (7, f32 y9), (8, i64 v10)]) (Γ' := [⟨1, some zMx⟩, ⟨u4, some (L6.map f32)⟩, ⟨1, some (oXc r1 r2 1 u4 L6.length)⟩, ⟨u5, none⟩]) hw5 hd5 ?_
    replace h5_ : K34_b2 a0 a1 a2 a3 a4 a5 v7 y9 v10 = some y5_ := h5_
    unfold K34_b2 at h5_
    refine yS<|yS ?_
    rcases oB h5_ with ⟨hc4, h5_⟩ | ⟨hc4, h5_⟩
    ·refine yW<|ym rfl (i64 v10)<|ym rfl (ptr (mXc a0 a1 a2))<|yl rfl (ptr (mXc a0 a1 a2)) y4<|yl rfl (ptr [i64 a1, (sFc a2)]) (LOp.fap und27 rfl siz2 rfl rfl rfl)<|yl rfl (i64 a1) (y2 agg2)<|yl rfl (b true) (LOp.eqb (LOp.lss rfl rfl rfl) hc4)<|zN ?_
     refine yT<|RunC.skip<|yS<|RunC.block ?_
     obtain ⟨hz5, h5_⟩ := need_some h5_
     obtain ⟨x11, hx6, h5_⟩ := oL h5_
     obtain ⟨r12, hf7, h5_⟩ := oS h5_
     obtain ⟨hz8, h5_⟩ := need_some h5_
     obtain ⟨x13, hx9, h5_⟩ := oL h5_
     obtain ⟨r14, hf10, h5_⟩ := oS h5_
     obtain ⟨x15, hx11, h5_⟩ := oL h5_
     obtain ⟨x16, hx12, h5_⟩ := oL h5_
     refine RunC.region_draw (Γ' := [⟨1, some zMx⟩, ⟨u4, some (L6.map f32)⟩, ⟨1, some (oXc r1 r2 1 u4 L6.length)⟩, ⟨u5, none⟩]) 22 mixed 
      (tm rfl (f32 y9) <|
      (tm rfl (ptr (mXc a0 a1 a2)) <|
      (tm rfl (i64 v7) <|
      (tm rfl (ptr (mXc a3 a4 a5)) <|
      (tl rfl (ptr (mXc a3 a4 a5)) y4 <|
      (tl rfl (ptr [i64 a4, (sFc a5)]) (LOp.fap und27 rfl siz2 rfl rfl rfl) <|
      (tl rfl (i64 a4) (y2 agg2) <|
      (tl rfl (i64 x11) (LOp.eqr (LOp.quo rfl rfl rfl (nz hz5)) (congrArg (ik .i64) hx6)) <|
      (tm rfl (i64 v10) <|
      (TR.d (r := f32 r12) (fs := []) rfl rfl (TOp.callB (CallAs.func ent84 rfl rfl) (Bors.cons (Bor.ptr (bP (bP (bS bN)))) (bP bN0)) rfl rfl (K2l_ok a0 a1 a2 x11 v10 r12 hf7)) <|
      (tm rfl (ptr (mXc a3 a4 a5)) <|
      (tm rfl (i64 v10) <|
      (tm rfl (i64 v7) <|
      (tm rfl (ptr (mXc a3 a4 a5)) <|
      (tl rfl (ptr (mXc a3 a4 a5)) y4 <|
      (tl rfl (ptr [i64 a4, (sFc a5)]) (LOp.fap und27 rfl siz2 rfl rfl rfl) <|
      (tl rfl (i64 a4) (y2 agg2) <|
      (tl rfl (i64 x13) (LOp.eqr (LOp.rem rfl rfl rfl (nz hz8)) (congrArg (ik .i64) hx9)) <|
      (TR.d (r := f32 r14) (fs := []) rfl rfl (TOp.callB (CallAs.func ent84 rfl rfl) (Bors.cons (Bor.ptr (bP (bP (bS bN)))) (bP bN0)) rfl rfl (K2l_ok a3 a4 a5 v10 x13 r14 hf10)) <|
      (TR.d (r := f32 x15) (fs := []) rfl rfl (TOp.eqr (TOp.fop (.inr (.inr (.inl rfl))) rfl (OpF.tmp rfl) (OpF.tmp rfl)) (congrArg (f .f32) hx11)) <|
      (TR.d (r := f32 x16) (fs := []) rfl rfl (TOp.eqr (TOp.fop (.inl rfl) rfl (OpF.tmp rfl) (OpF.tmp rfl)) (congrArg (f .f32) hx12)) <|
      (tl rfl (f32 x16) (LOp.assign rfl rfl) <|
      TR.nil)))))))))))))))))))))) rfl (by kernel_rfl) rfl fills_nil rfl ?_
     iterate 22 refine ROps.dropS ?_
     refine ROps.drop0<|zN ?_
     refine RunC.wl (τ' := [(0, ptr (mXc a0 a1 a2)), (1, ptr (mXc a3 a4 a5)), (4, optr 0 1 0), (5, optr 2 1 0), (6, i64 v7), (7, f32 x16), (8, i64 v10)]) (Γ' := [⟨1, some zMx⟩, ⟨u4, some (L6.map f32)⟩, ⟨1, some (oXc r1 r2 1 u4 L6.length)⟩, ⟨u5, none⟩]) ⟨aR, aR, aR, aR, aR, aR, aR, trivial⟩ ⟨⟨rfl, .inr rfl⟩, ⟨rfl, .inr rfl⟩, ⟨rfl, .inr rfl⟩, ⟨rfl, .inl rfl⟩, trivial⟩ ?_
     obtain ⟨x17, hx13, h5_⟩ := oL h5_
     refine yW<|ym rfl (i64 v10)<|yl rfl (i64 x17) (LOp.eqr (LOp.add rfl rfl rfl) (congrArg (ik .i64) hx13))<|ya rfl (i64 x17)<|zN ?_
     cases oI h5_
     exact ⟨_, rfl, ⟨aR, aR, aR, aR, aR, aR, aR, trivial⟩, ⟨⟨rfl, .inr rfl⟩, ⟨rfl, .inr rfl⟩, ⟨rfl, .inr rfl⟩, ⟨rfl, .inl rfl⟩, trivial⟩⟩
    ·refine yW<|ym rfl (i64 v10)<|ym rfl (ptr (mXc a0 a1 a2))<|yl rfl (ptr (mXc a0 a1 a2)) y4<|yl rfl (ptr [i64 a1, (sFc a2)]) (LOp.fap und27 rfl siz2 rfl rfl rfl)<|yl rfl (i64 a1) (y2 agg2)<|yl rfl (b false) (LOp.eqb (LOp.lss rfl rfl rfl) hc4)<|zN ?_
     refine yF<|RunC.exit ?_
     cases oI h5_
     have hx := ho5 _ rfl
     exact ⟨y9, ⟨aR, aR, aR, aR, aR, aR, trivial⟩, ⟨⟨rfl, .inr rfl⟩, ⟨rfl, .inr rfl⟩, ⟨rfl, .inr rfl⟩, ⟨rfl, .inl rfl⟩, trivial⟩, hx⟩
   ·rintro τ6 Γ6 ⟨y18, hw6, hd6, rfl⟩
    refine RunC.wl hw6 hd6 ?_
    replace h4_ : K34_k2 L6 v7 y18 = some y4_ := h4_
    unfold K34_k2 at h4_
    obtain ⟨hm14, h4_⟩ := need_some h4_
    refine yW<|yl rfl (optr 2 1 2) (LOp.fao und27 rfl siz25 rfl rfl rfl)<|yd rfl (oref 1 u4 0 L6.length) (TOp.load1_o rfl rfl agg25 rfl rfl)<|ym rfl (f32 y18)<|ye rfl (oref 3 (u5 + 1) 0 1) ([⟨1, some zMx⟩, ⟨u4, some (L6.map f32)⟩, ⟨1, some (oXc r1 r2 1 u4 L6.length)⟩, ⟨(u5 + 1), some (([y18] : List F).map f32)⟩]) (TOp.buildSlice_o (g := ⟨u5, none⟩) (za := f32 (some 0)) (qs := [(0, [f32 y18])]) 3 rfl und25 siz30 zer30 rfl zel30 rfl rfl ⟨rfl, ⟨_, ALe.refl _, rfl⟩, trivial⟩ rfl)<|ROps.app (f := f32) (xs := L6) (ys := ([y18] : List F)) (Γ' := [⟨1, some zMx⟩, ⟨(u4 + 1), some ((L6 ++ ([y18] : List F)).map f32)⟩, ⟨1, some (oXc r1 r2 1 u4 L6.length)⟩, ⟨(u5 + 1), some (([y18] : List F).map f32)⟩]) rfl pun25 inf30 rfl rfl rfl rfl rfl rfl rfl rfl rfl (by simp) (ReadAs.own rfl (by simp)) (ones_map (fun _ => rfl)) (ap_by hm14) (ap_mx hm14) rfl<|yl rfl (optr 2 1 2) (LOp.fao und27 rfl siz25 rfl rfl rfl)<|ys (oref 1 (u4 + 1) 0 (L6.length + 1)) [i64 r1, i64 r2, oref 1 (u4 + 1) 0 (L6.length + 1)] ([⟨1, some zMx⟩, ⟨(u4 + 1), some ((L6 ++ ([y18] : List F)).map f32)⟩, ⟨1, some [i64 r1, i64 r2, oref 1 (u4 + 1) 0 (L6.length + 1)]⟩, ⟨(u5 + 1), some (([y18] : List F).map f32)⟩]) siz25<|zN ?_
    refine RunC.wl (τ' := [(0, ptr (mXc a0 a1 a2)), (1, ptr (mXc a3 a4 a5)), (4, optr 0 1 0), (5, optr 2 1 0), (6, i64 v7)]) (Γ' := [⟨1, some zMx⟩, ⟨(u4 + 1), some ((L6 ++ ([y18] : List F)).map f32)⟩, ⟨1, some [i64 r1, i64 r2, oref 1 (u4 + 1) 0 (L6.length + 1)]⟩, ⟨(u5 + 1), none⟩]) ⟨aR, aR, aR, aR, aR, trivial⟩ ⟨⟨rfl, .inr rfl⟩, ⟨rfl, .inr rfl⟩, ⟨rfl, .inr rfl⟩, ⟨rfl, .inl rfl⟩, trivial⟩ ?_
    obtain ⟨x19, hx15, h4_⟩ := oL h4_
    refine yW<|ym rfl (i64 v7)<|yl rfl (i64 x19) (LOp.eqr (LOp.add rfl rfl rfl) (congrArg (ik .i64) hx15))<|ya rfl (i64 x19)<|zN ?_
    cases oI h4_
    exact ⟨_, rfl, (u4 + 1), (u5 + 1), ⟨aR, aR, aR, aR, aR, trivial⟩, ⟨⟨rfl, .inr rfl⟩, ⟨rfl, .inr rfl⟩, ⟨rfl, .inr (by first | rfl | simp)⟩, ⟨rfl, .inl rfl⟩, trivial⟩⟩
  ·refine RunC.region_draw (Γ' := [⟨1, some zMx⟩, ⟨u4, some (L6.map f32)⟩, ⟨1, some (oXc r1 r2 1 u4 L6.length)⟩, ⟨u5, none⟩]) 11 mixed 
    (tm rfl (i64 v7) <|
    (tm rfl (ptr (mXc a0 a1 a2)) <|
    (tl rfl (ptr (mXc a0 a1 a2)) y4 <|
    (tl rfl (ptr (mXc a0 a1 a2)) (LOp.fap und27 rfl siz2 rfl rfl rfl) <|
    (tl rfl (i64 a0) (y2 agg2) <|
    (tm rfl (ptr (mXc a3 a4 a5)) <|
    (tl rfl (ptr (mXc a3 a4 a5)) y4 <|
    (tl rfl (ptr [i64 a4, (sFc a5)]) (LOp.fap und27 rfl siz2 rfl rfl rfl) <|
    (tl rfl (i64 a4) (y2 agg2) <|
    (tl rfl (i64 x8) (LOp.eqr (LOp.mul rfl rfl rfl) (congrArg (ik .i64) hx2)) <|
    (tl rfl (b false) (LOp.eqb (LOp.lss rfl rfl rfl) hc3) <|
    TR.nil))))))))))) rfl (by kernel_rfl) rfl fills_nil rfl ?_
   iterate 11 refine ROps.dropS ?_
   refine ROps.drop0<|zN ?_
   refine yF<|RunC.exit ?_
   cases oI h4_
   have hx := ho4 _ rfl
   exact ⟨L6, u4, u5, ⟨aR, aR, trivial⟩, ⟨⟨rfl, .inr rfl⟩, ⟨rfl, .inr rfl⟩, ⟨rfl, .inr (by first | rfl | simp)⟩, ⟨rfl, .inl rfl⟩, trivial⟩, hx⟩
 ·rintro τ7 Γ7 ⟨L22, u20, u21, hw7, hd7, rfl⟩
  refine RunC.wl hw7 hd7 ?_
  replace h : K34_k3 r1 r2 L22 = some (q0, q1, q2) := h
  unfold K34_k3 at h
  refine zQ<|yd rfl (agg (oXc r1 r2 1 u20 L22.length)) (yA agg27 siz27)<|ys (agg (oXc r1 r2 1 u20 L22.length)) (oXc r1 r2 1 u20 L22.length) [⟨1, some (oXc r1 r2 1 u20 L22.length)⟩, ⟨u20, some (L22.map f32)⟩, ⟨1, some (oXc r1 r2 1 u20 L22.length)⟩, ⟨u21, none⟩] siz27<|zN ?_
  refine RunC.ret ?_
  have hq := oI h
  obtain ⟨hq0, hq⟩ := Prod.mk.inj hq
  obtain ⟨hq1, hq⟩ := Prod.mk.inj hq
  subst q0
  subst q1
  subst q2
  exact bodyQ.mk (r' := agg (oXc r1 r2 1 u20 L22.length)) [(1, u20)] (.inr rfl) rfl (ndB_ok rfl) (by simp [ren, rens, sigma]) rfl (Res.one rfl (RV.cell agg27 siz27 rfl rfl rfl rfl)) (sA rfl trivial)
def K35 (a0 : Int) (a1 : Int) (a2 : List F) : Option ((Int × Int × Bool × (List F)) ⊕ (Int × Int × Bool × (List F) × (List F))) :=
 obind (K2j a0 a1 a2) fun (r1 : Bool) =>
 bsel r1 (
  some (Sum.inl (a0, a1, true, a2))) (
  some (Sum.inr (0, 0, false, a2, ([] : List F))))
theorem K35_ok0 (a0 : Int) (a1 : Int) (a2 : List F) (q0 : Int) (q1 : Int) (q2 : Bool) (q3 : List F) (h : K35 a0 a1 a2 = some (Sum.inl (q0, q1, q2, q3))) : Ev Tryz.prog 61 [agg (oXc a0 a1 0 0 a2.length)] [oF 0 a2] (tup [agg (oXc q0 q1 0 0 q3.length), b q2]) [oF 0 q3] := by
 refine Ev.start Tryz.func61 rfl rfl 2 (τ := [(0, agg (oXc a0 a1 0 0 a2.length))]) rfl (Γ' := [oF 0 a2, o0, o0]) rfl (n := 16) rfl (g := 1) rfl (by decide) ?_
 unfold K35 at h
 refine zQ<|yd rfl (ptr (oXc a0 a1 0 0 a2.length)) (TOp.box_s rfl rfl rfl)<|ye rfl (optr 1 1 0) [oF 0 a2, ⟨1, some zMx⟩, o0] (TOp.alloc_o (g := o0) 1 rfl zer27 zok27 rfl)<|ya rfl (b false)<|zN ?_
 refine yS<|yS ?_
 obtain ⟨r1, hf1, h⟩ := oS h
 rcases oB h with ⟨hc2, h⟩ | ⟨hc2, h⟩
 ·refine yW<|yd rfl (b true) (TOp.eqb (TOp.callB (CallAs.func ent54 rfl rfl) (Bors.cons (Bor.ptr (bP (bP (Bors.cons (Bor.own (f := f32) (fun _ => rfl) rfl rfl) bN)))) bN) rfl rfl (K2j_ok a0 a1 a2 r1 hf1)) hc2)<|yl rfl (b false) y1<|zN ?_
  refine yF<|RunC.skip<|zQ<|yl rfl (agg (oXc a0 a1 0 0 a2.length)) (yL agg27 siz27)<|ys (agg (oXc a0 a1 0 0 a2.length)) (oXc a0 a1 0 0 a2.length) [oF 0 a2, ⟨1, some (oXc a0 a1 0 0 a2.length)⟩, o0] siz27<|ya rfl (b true)<|zN ?_
  refine RunC.ret ?_
  have hq := oI h
  have hq := Sum.inl.inj hq
  obtain ⟨hq0, hq⟩ := Prod.mk.inj hq
  obtain ⟨hq1, hq⟩ := Prod.mk.inj hq
  obtain ⟨hq2, hq⟩ := Prod.mk.inj hq
  subst q0
  subst q1
  subst q2
  subst q3
  exact yB (tup [agg (oXc a0 a1 0 0 a2.length), b true]) [(0, 0)] (Res.two rfl (RV.cell agg27 siz27 rfl rfl rfl rfl) (RV.tmp rfl)) (SelL.arr (f := f32) (fun _ => rfl) rfl trivial)
 ·refine yW<|yd rfl (b false) (TOp.eqb (TOp.callB (CallAs.func ent54 rfl rfl) (Bors.cons (Bor.ptr (bP (bP (Bors.cons (Bor.own (f := f32) (fun _ => rfl) rfl rfl) bN)))) bN) rfl rfl (K2j_ok a0 a1 a2 r1 hf1)) hc2)<|yl rfl (b true) y0<|zN ?_
  refine yT<|zQ<|yl rfl (agg zMx) (LOp.build (qs := []) zer27 zok27 und27 plc27 rfl trivial rfl)<|ys (agg zMx) zMx [oF 0 a2, ⟨1, some zMx⟩, o0] siz27<|ya rfl (b false)<|zN ?_
  cases oI h
theorem K35_ok1 (a0 : Int) (a1 : Int) (a2 : List F) (q0 : Int) (q1 : Int) (q2 : Bool) (q3 : List F) (q4 : List F) (h : K35 a0 a1 a2 = some (Sum.inr (q0, q1, q2, q3, q4))) : Ev Tryz.prog 61 [agg (oXc a0 a1 0 0 a2.length)] [oF 0 a2] (tup [agg (oXc q0 q1 1 0 q4.length), b q2]) [oF 0 q3, oF 0 q4] := by
 refine Ev.start Tryz.func61 rfl rfl 2 (τ := [(0, agg (oXc a0 a1 0 0 a2.length))]) rfl (Γ' := [oF 0 a2, o0, o0]) rfl (n := 16) rfl (g := 1) rfl (by decide) ?_
 unfold K35 at h
 refine zQ<|yd rfl (ptr (oXc a0 a1 0 0 a2.length)) (TOp.box_s rfl rfl rfl)<|ye rfl (optr 1 1 0) [oF 0 a2, ⟨1, some zMx⟩, o0] (TOp.alloc_o (g := o0) 1 rfl zer27 zok27 rfl)<|ya rfl (b false)<|zN ?_
 refine yS<|yS ?_
 obtain ⟨r1, hf1, h⟩ := oS h
 rcases oB h with ⟨hc2, h⟩ | ⟨hc2, h⟩
 ·refine yW<|yd rfl (b true) (TOp.eqb (TOp.callB (CallAs.func ent54 rfl rfl) (Bors.cons (Bor.ptr (bP (bP (Bors.cons (Bor.own (f := f32) (fun _ => rfl) rfl rfl) bN)))) bN) rfl rfl (K2j_ok a0 a1 a2 r1 hf1)) hc2)<|yl rfl (b false) y1<|zN ?_
  refine yF<|RunC.skip<|zQ<|yl rfl (agg (oXc a0 a1 0 0 a2.length)) (yL agg27 siz27)<|ys (agg (oXc a0 a1 0 0 a2.length)) (oXc a0 a1 0 0 a2.length) [oF 0 a2, ⟨1, some (oXc a0 a1 0 0 a2.length)⟩, o0] siz27<|ya rfl (b true)<|zN ?_
  cases oI h
 ·refine yW<|yd rfl (b false) (TOp.eqb (TOp.callB (CallAs.func ent54 rfl rfl) (Bors.cons (Bor.ptr (bP (bP (Bors.cons (Bor.own (f := f32) (fun _ => rfl) rfl rfl) bN)))) bN) rfl rfl (K2j_ok a0 a1 a2 r1 hf1)) hc2)<|yl rfl (b true) y0<|zN ?_
  refine yT<|zQ<|yl rfl (agg zMx) (LOp.build (qs := []) zer27 zok27 und27 plc27 rfl trivial rfl)<|ys (agg zMx) zMx [oF 0 a2, ⟨1, some zMx⟩, o0] siz27<|ya rfl (b false)<|zN ?_
  refine RunC.nil_cell (l' := [i64 0, i64 0, oref 2 1 0 0]) (Γ' := [oF 0 a2, ⟨1, some [i64 0, i64 0, oref 2 1 0 0]⟩, ⟨1, some (([] : List F).map f32)⟩]) 1 2 2 rfl rfl rfl rfl rfl<|RunC.ret ?_
  have hq := oI h
  have hq := Sum.inr.inj hq
  obtain ⟨hq0, hq⟩ := Prod.mk.inj hq
  obtain ⟨hq1, hq⟩ := Prod.mk.inj hq
  obtain ⟨hq2, hq⟩ := Prod.mk.inj hq
  obtain ⟨hq3, hq⟩ := Prod.mk.inj hq
  subst q0
  subst q1
  subst q2
  subst q3
  subst q4
  exact yB (tup [agg [i64 0, i64 0, oref 2 1 0 (([] : List F).length)], b false]) [(0, 0), (2, 1)] (Res.eq (Res.two rfl (RV.cell agg27 siz27 rfl rfl rfl rfl) (RV.tmp rfl)) (by first | rfl | (rw [(show ([] : List F).length = 0 from rfl)] <;> rfl))) (SelL.arr (f := f32) (fun _ => rfl) rfl (sA rfl trivial))
def K36 (a0 : Int) (a1 : Int) (a2 : List F) (a3 : Int) (a4 : Int) (a5 : List F) : Option (Int × Int × Bool × (List F)) :=
 obind (K33 a0 a1 a2 a3 a4 a5) fun (r1 : Bool) =>
 bsel r1 (
  obind3 (K34 a0 a1 a2 a3 a4 a5) fun (r2 : Int) (r3 : Int) (r4 : List F) =>
  obind (K35 r2 r3 r4) (fun z => osum z (fun y => obind4 (some y) fun (r5 : Int) (r6 : Int) (r7 : Bool) (r8 : List F) =>
   need (decide (r8.length = r4.length)) <|
   some (r5, r6, r7, r8)) (fun y => obind5 (some y) fun (r9 : Int) (r10 : Int) (r11 : Bool) (r12 : List F) (r13 : List F) =>
   need (decide (r12.length = r4.length)) <|
   some (r9, r10, r11, r13)))) (
  some (0, 0, false, ([] : List F)))
theorem K36_ok (a0 : Int) (a1 : Int) (a2 : List F) (a3 : Int) (a4 : Int) (a5 : List F) (q0 : Int) (q1 : Int) (q2 : Bool) (q3 : List F) (h : K36 a0 a1 a2 a3 a4 a5 = some (q0, q1, q2, q3)) : Ev Tryz.prog 20 [agg (mXc a0 a1 a2), agg (mXc a3 a4 a5)] [] (tup [agg (oXc q0 q1 0 0 q3.length), b q2]) [oF 0 q3] := by
 refine yE Tryz.func20 3 27 0 [(0, agg (mXc a0 a1 a2)), (1, agg (mXc a3 a4 a5))] [o0, o0, o0] rfl ?_
 unfold K36 at h
 refine zQ<|yd rfl (ptr (mXc a0 a1 a2)) (TOp.box_s rfl rfl rfl)<|yd rfl (ptr (mXc a3 a4 a5)) (TOp.box_s rfl rfl rfl)<|ye rfl (optr 0 1 0) [⟨1, some zMx⟩, o0, o0] (TOp.alloc_o (g := o0) 0 rfl zer27 zok27 rfl)<|ya rfl (b false)<|zN ?_
 refine yS<|yS ?_
 obtain ⟨r1, hf1, h⟩ := oS h
 rcases oB h with ⟨hc2, h⟩ | ⟨hc2, h⟩
 ·refine yW<|yd rfl (b true) (TOp.eqb (TOp.callB (CallAs.func ent60 rfl rfl) (Bors.cons (Bor.ptr (bP (bP (bS bN)))) (Bors.cons (Bor.ptr (bP (bP (bS bN)))) bN)) rfl rfl (K33_ok a0 a1 a2 a3 a4 a5 r1 hf1)) hc2)<|yl rfl (b false) y1<|zN ?_
  refine yF<|RunC.skip<|yS ?_
  obtain ⟨r2, r3, r4, hf3, h⟩ := obind3_some h
  obtain ⟨z1, hf4, h⟩ := oS h
  rcases z1 with z1 | z1
  ·replace h := (osum_inl _ _ _).symm.trans h
   obtain ⟨r5, r6, r7, r8, hz2, h⟩ := obind4_some h
   cases hz2
   obtain ⟨hn5, h⟩ := need_some h
   refine yW<|ye rfl (agg (oXc r2 r3 1 1 r4.length)) [⟨1, some zMx⟩, oF 1 r4, o0] (TOp.callBN (ls := [(r4.map f32)]) [1] (CallAs.func ent62 rfl rfl) (Bors.cons (Bor.ptr (bP (bP (bS bN)))) (Bors.cons (Bor.ptr (bP (bP (bS bN)))) bN)) rfl (K34_ok a0 a1 a2 a3 a4 a5 r2 r3 r4 hf3) (and_all (lts0_map (f := f32) (fun _ => rfl) _) rfl) (and_all (noss_map (f := f32) (fun _ => rfl) _) rfl) rfl (by decide) (ns_of ⟨⟨_, rfl⟩, trivial⟩))<|ROps.callO (A := [agg (oXc r2 r3 1 1 r4.length)]) (args := [agg (oXc r2 r3 0 0 r4.length)]) (Γc := [oF 0 r4]) (Γc' := [oF 0 r8]) (r' := tup [agg (oXc r5 r6 1 1 r4.length), b r7]) (Γ' := [⟨1, some zMx⟩, oF 1 r8, o0]) [(1, 1)] [] rfl (CallAs.func ent61 rfl rfl) rfl rfl (SelOk.of (ndB_ok rfl) (sA rfl trivial)) (live_of ⟨⟨_, _, rfl⟩, trivial⟩) (by simp [ren, rens, sigma, rens_f32, rens_f64, rens_i64, rens_ik, rens_str, rens_cp]) rfl (K35_ok0 r2 r3 r4 r5 r6 r7 r8 hf4) rfl (news_of trivial) (ndB_ok rfl) (by simp [ren, rens, sigma, of_decide_eq_true hn5]) (by simp [backOb, sigma, ren, rens, rens_f32, rens_f64, rens_i64, rens_ik, rens_str, rens_cp] <;> omega)<|yl rfl (agg (oXc r5 r6 1 1 r4.length)) y3<|yl rfl (b r7) y3<|ys (agg (oXc r5 r6 1 1 r4.length)) (oXc r5 r6 1 1 r4.length) [⟨1, some (oXc r5 r6 1 1 r4.length)⟩, oF 1 r8, o0] siz27<|ya rfl (b r7)<|zN ?_
   refine RunC.ret ?_
   have hq := oI h
   obtain ⟨hq0, hq⟩ := Prod.mk.inj hq
   obtain ⟨hq1, hq⟩ := Prod.mk.inj hq
   obtain ⟨hq2, hq⟩ := Prod.mk.inj hq
   subst q0
   subst q1
   subst q2
   subst q3
   exact yB (tup [agg (oXc r5 r6 1 1 r8.length), b r7]) [(1, 1)] (Res.eq (Res.two rfl (RV.cell agg27 siz27 rfl rfl rfl rfl) (RV.tmp rfl)) (by first | rfl | (rw [(show r8.length = r4.length from (of_decide_eq_true hn5))] <;> rfl))) (sA rfl trivial)
  ·replace h := (osum_inr _ _ _).symm.trans h
   obtain ⟨r9, r10, r11, r12, r13, hz3, h⟩ := obind5_some h
   cases hz3
   obtain ⟨hn6, h⟩ := need_some h
   refine yW<|ye rfl (agg (oXc r2 r3 1 1 r4.length)) [⟨1, some zMx⟩, oF 1 r4, o0] (TOp.callBN (ls := [(r4.map f32)]) [1] (CallAs.func ent62 rfl rfl) (Bors.cons (Bor.ptr (bP (bP (bS bN)))) (Bors.cons (Bor.ptr (bP (bP (bS bN)))) bN)) rfl (K34_ok a0 a1 a2 a3 a4 a5 r2 r3 r4 hf3) (and_all (lts0_map (f := f32) (fun _ => rfl) _) rfl) (and_all (noss_map (f := f32) (fun _ => rfl) _) rfl) rfl (by decide) (ns_of ⟨⟨_, rfl⟩, trivial⟩))<|ROps.callO (A := [agg (oXc r2 r3 1 1 r4.length)]) (args := [agg (oXc r2 r3 0 0 r4.length)]) (Γc := [oF 0 r4]) (Γc' := [oF 0 r12, oF 0 r13]) (r' := tup [agg (oXc r9 r10 2 1 r13.length), b r11]) (Γ' := [⟨1, some zMx⟩, oF 1 r12, oF 1 r13]) [(1, 1)] [(2, 1)] rfl (CallAs.func ent61 rfl rfl) rfl rfl (SelOk.of (ndB_ok rfl) (sA rfl trivial)) (live_of ⟨⟨_, _, rfl⟩, trivial⟩) (by simp [ren, rens, sigma, rens_f32, rens_f64, rens_i64, rens_ik, rens_str, rens_cp]) rfl (K35_ok1 r2 r3 r4 r9 r10 r11 r12 r13 hf4) rfl (news_of ⟨⟨_, rfl, rfl⟩, trivial⟩) (show List.Nodup [1, 2] from by decide) (by simp [ren, rens, sigma, of_decide_eq_true hn6]) (by simp [backOb, sigma, ren, rens, rens_f32, rens_f64, rens_i64, rens_ik, rens_str, rens_cp] <;> omega)<|yl rfl (agg (oXc r9 r10 2 1 r13.length)) y3<|yl rfl (b r11) y3<|ys (agg (oXc r9 r10 2 1 r13.length)) (oXc r9 r10 2 1 r13.length) [⟨1, some (oXc r9 r10 2 1 r13.length)⟩, oF 1 r12, oF 1 r13] siz27<|ya rfl (b r11)<|zN ?_
   refine RunC.ret ?_
   have hq := oI h
   obtain ⟨hq0, hq⟩ := Prod.mk.inj hq
   obtain ⟨hq1, hq⟩ := Prod.mk.inj hq
   obtain ⟨hq2, hq⟩ := Prod.mk.inj hq
   subst q0
   subst q1
   subst q2
   subst q3
   exact yB (tup [agg (oXc r9 r10 2 1 r13.length), b r11]) [(2, 1)] (Res.two rfl (RV.cell agg27 siz27 rfl rfl rfl rfl) (RV.tmp rfl)) (sA rfl trivial)
 ·refine yW<|yd rfl (b false) (TOp.eqb (TOp.callB (CallAs.func ent60 rfl rfl) (Bors.cons (Bor.ptr (bP (bP (bS bN)))) (Bors.cons (Bor.ptr (bP (bP (bS bN)))) bN)) rfl rfl (K33_ok a0 a1 a2 a3 a4 a5 r1 hf1)) hc2)<|yl rfl (b true) y0<|zN ?_
  refine yT<|zQ<|yl rfl (agg zMx) (LOp.build (qs := []) zer27 zok27 und27 plc27 rfl trivial rfl)<|ys (agg zMx) zMx [⟨1, some zMx⟩, o0, o0] siz27<|ya rfl (b false)<|zN ?_
  refine RunC.nil_cell (l' := [i64 0, i64 0, oref 1 1 0 0]) (Γ' := [⟨1, some [i64 0, i64 0, oref 1 1 0 0]⟩, ⟨1, some (([] : List F).map f32)⟩, o0]) 0 2 1 rfl rfl rfl rfl rfl<|RunC.ret ?_
  have hq := oI h
  obtain ⟨hq0, hq⟩ := Prod.mk.inj hq
  obtain ⟨hq1, hq⟩ := Prod.mk.inj hq
  obtain ⟨hq2, hq⟩ := Prod.mk.inj hq
  subst q0
  subst q1
  subst q2
  subst q3
  exact yB (tup [agg [i64 0, i64 0, oref 1 1 0 (([] : List F).length)], b false]) [(1, 1)] (Res.eq (Res.two rfl (RV.cell agg27 siz27 rfl rfl rfl rfl) (RV.tmp rfl)) (by first | rfl | (rw [(show ([] : List F).length = 0 from rfl)] <;> rfl))) (sA rfl trivial)
def K37 (a0 : Int) (a1 : Int) (a2 : List F) (a3 : Int) (a4 : Int) (a5 : List F) (a6 : F) : Option (Bool) :=
 bsel (!decide (a0 = a3)) (
  some true) (
  bsel (!decide (a1 = a4)) (
   some true) (
   obind (K2a a2 a5 a6) fun (r1 : Bool) =>
   some r1))
theorem K37_ok (a0 : Int) (a1 : Int) (a2 : List F) (a3 : Int) (a4 : Int) (a5 : List F) (a6 : F) (q0 : Bool) (h : K37 a0 a1 a2 a3 a4 a5 a6 = some q0) : Ev Tryz.prog 21 [agg (mXc a0 a1 a2), agg (mXc a3 a4 a5), f64 a6] [] (b q0) [] := by
 refine yE Tryz.func21 0 55 0 [(0, agg (mXc a0 a1 a2)), (1, agg (mXc a3 a4 a5)), (2, f64 a6)] [] rfl ?_
 unfold K37 at h
 refine zQ<|yd rfl (ptr (mXc a0 a1 a2)) (TOp.box_s rfl rfl rfl)<|yd rfl (ptr (mXc a3 a4 a5)) (TOp.box_s rfl rfl rfl)<|ya rfl (b false)<|zN ?_
 refine yS ?_
 rcases oB h with ⟨hc1, h⟩ | ⟨hc1, h⟩
 ·refine yW<|yl rfl (ptr (mXc a0 a1 a2)) (LOp.fap und27 rfl siz2 rfl rfl rfl)<|yl rfl (i64 a0) (y2 agg2)<|yl rfl (ptr (mXc a3 a4 a5)) (LOp.fap und27 rfl siz2 rfl rfl rfl)<|yl rfl (i64 a3) (y2 agg2)<|yl rfl (b true) (LOp.eqb (LOp.neq rfl rfl rfl) hc1)<|ym rfl (b true)<|yR rfl<|yR rfl<|yR rfl<|yR rfl<|yR rfl<|yl rfl (b true) yq<|ym rfl (b true)<|yR rfl<|yR rfl<|yR rfl<|yR rfl<|yR rfl<|yR rfl<|yl rfl (b true) yq<|ya rfl (b true)<|zN ?_
  refine RunC.ret ?_
  have hq := oI h
  subst q0
  exact bR rfl
 ·rcases oB h with ⟨hc2, h⟩ | ⟨hc2, h⟩
  ·refine yW<|yl rfl (ptr (mXc a0 a1 a2)) (LOp.fap und27 rfl siz2 rfl rfl rfl)<|yl rfl (i64 a0) (y2 agg2)<|yl rfl (ptr (mXc a3 a4 a5)) (LOp.fap und27 rfl siz2 rfl rfl rfl)<|yl rfl (i64 a3) (y2 agg2)<|yl rfl (b false) (LOp.eqb (LOp.neq rfl rfl rfl) hc1)<|ym rfl (b false)<|yl rfl (ptr [i64 a1, (sFc a2)]) (LOp.fap und27 rfl siz2 rfl rfl rfl)<|yl rfl (i64 a1) (y2 agg2)<|yl rfl (ptr [i64 a4, (sFc a5)]) (LOp.fap und27 rfl siz2 rfl rfl rfl)<|yl rfl (i64 a4) (y2 agg2)<|yl rfl (b true) (LOp.eqb (LOp.neq rfl rfl rfl) hc2)<|yl rfl (b true) yp<|ym rfl (b true)<|yR rfl<|yR rfl<|yR rfl<|yR rfl<|yR rfl<|yR rfl<|yl rfl (b true) yq<|ya rfl (b true)<|zN ?_
   refine RunC.ret ?_
   have hq := oI h
   subst q0
   exact bR rfl
  ·obtain ⟨r1, hf3, h⟩ := oS h
   refine yW<|yl rfl (ptr (mXc a0 a1 a2)) (LOp.fap und27 rfl siz2 rfl rfl rfl)<|yl rfl (i64 a0) (y2 agg2)<|yl rfl (ptr (mXc a3 a4 a5)) (LOp.fap und27 rfl siz2 rfl rfl rfl)<|yl rfl (i64 a3) (y2 agg2)<|yl rfl (b false) (LOp.eqb (LOp.neq rfl rfl rfl) hc1)<|ym rfl (b false)<|yl rfl (ptr [i64 a1, (sFc a2)]) (LOp.fap und27 rfl siz2 rfl rfl rfl)<|yl rfl (i64 a1) (y2 agg2)<|yl rfl (ptr [i64 a4, (sFc a5)]) (LOp.fap und27 rfl siz2 rfl rfl rfl)<|yl rfl (i64 a4) (y2 agg2)<|yl rfl (b false) (LOp.eqb (LOp.neq rfl rfl rfl) hc2)<|yl rfl (b false) yp<|ym rfl (b false)<|yl rfl (ptr [(sFc a2)]) (LOp.fap und27 rfl siz25 rfl rfl rfl)<|yl rfl (sFc a2) (y2 agg25)<|yl rfl (ptr [(sFc a5)]) (LOp.fap und27 rfl siz25 rfl rfl rfl)<|yl rfl (sFc a5) (y2 agg25)<|ym rfl (f64 a6)<|yd rfl (b r1) (yc ent11 rfl rfl (bS (bS bN0)) (K2a_ok a2 a5 a6 r1 hf3))<|yl rfl (b r1) yp<|ya rfl (b r1)<|zN ?_
   refine RunC.ret ?_
   have hq := oI h
   subst q0
   exact bR rfl
def K38_k2  : Option (Bool) :=
 some false
def K38_b5 (r13 : List F) (v18 : Int) : Option (LR (Int) (Unit) (Bool)) :=
 bsel (decide (v18 < (r13.length : Int))) (
  obind (at? r13 v18) fun (e19 : F) =>
  bsel (flt .f32 e19 (some 0)) (
   some (LR.ret false)) (
   obind (at? r13 v18) fun (e20 : F) =>
   bsel (flt .f32 (some 981668463) e20) (
    some (LR.ret false)) (
    olet (IntKind.i64.wrap (v18 + 1)) fun (x21 : Int) =>
    some (LR.next x21)))) (
  some (LR.out ()))
def K38_s5 (r13 : List F) : (Int) → Option (LR (Int) (Unit) (Bool)) := fun s => K38_b5 r13 s
def K38_k7  : Option (Bool) :=
 some false
def K38_k11  : Option (Bool) :=
 some false
def K38_k15  : Option (Bool) :=
 some false
def K38_k17 (w69 : Bool) : Option (Bool) :=
 some w69
def K38_k13 (r22 : Int) (r23 : Int) (r26 : List F) (r27 : List Int) (r48 : Int) (r49 : Int) (r51 : List F) : Option (Bool) :=
 obind4 (K2v r48 r49 r51 r27) fun (r52 : Int) (r53 : Int) (r54 : Bool) (r55 : List F) =>
 obind4 (K2y r22 r23 r26 r27) fun (r56 : Int) (r57 : Int) (r58 : Bool) (r59 : List F) =>
 obind4 (K32 r22 r23 r26 r27) fun (r60 : Int) (r61 : Int) (r62 : Bool) (r63 : List F) =>
 obind4 (K36 r56 r57 r59 r60 r61 r63) fun (r64 : Int) (r65 : Int) (r66 : Bool) (r67 : List F) =>
 bsel r54 (
  bsel r58 (
   bsel r62 (
    bsel r66 (
     obind (K37 r64 r65 r67 r52 r53 r55 (some 4562254508917369340)) fun (r68 : Bool) =>
     K38_k17 (!r68)) (
     K38_k15)) (
    K38_k15)) (
   K38_k15)) (
  K38_k15)
def K38_k9 (r4 : Int) (r5 : Int) (r6 : List F) (r22 : Int) (r23 : Int) (r26 : List F) (r27 : List Int) (r28 : List Int) : Option (Bool) :=
 obind4 (K2u r4 r5 r6) fun (r40 : Int) (r41 : Int) (r42 : Bool) (r43 : List F) =>
 bsel r42 (
  obind4 (K2v r40 r41 r43 r28) fun (r44 : Int) (r45 : Int) (r46 : Bool) (r47 : List F) =>
  obind4 (K2u r44 r45 r47) fun (r48 : Int) (r49 : Int) (r50 : Bool) (r51 : List F) =>
  bsel r46 (
   bsel r50 (
    K38_k13 r22 r23 r26 r27 r48 r49 r51) (
    K38_k11)) (
   K38_k11)) (
  some true)
def K38_k5 (x3 : Int) (r4 : Int) (r5 : Int) (r6 : List F) : Option (Bool) :=
 obind7 (K2c r4 r5 r6 (some 0)) fun (r22 : Int) (r23 : Int) (r24 : Int) (r25 : Bool) (r26 : List F) (r27 : List Int) (r28 : List Int) =>
 obind7 (K2c r4 r5 r6 (some 1148846080)) fun (r29 : Int) (r30 : Int) (r31 : Int) (r32 : Bool) (r33 : List F) (r34 : List Int) (r35 : List Int) =>
 bsel r25 (
  bsel r32 (
   bsel (!decide (r24 = x3)) (
    K38_k7) (
    bsel (!decide (r31 = 0)) (
     K38_k7) (
     obind (K2f r28) fun (r36 : Bool) =>
     bsel r36 (
      obind (K2f r35) fun (r37 : Bool) =>
      bsel r37 (
       obind (K2n r22 r23 r26 r27) fun (r38 : Bool) =>
       bsel r38 (
        bsel (!decide ((r28.length : Int) = x3)) (
         K38_k7) (
         obind (K2s r29 r30 r33 r4 r5 r6) fun (r39 : Bool) =>
         bsel r39 (
          bsel (!decide (r22 = x3)) (
           K38_k7) (
           K38_k9 r4 r5 r6 r22 r23 r26 r27 r28)) (
          K38_k7))) (
        K38_k7)) (
       K38_k7)) (
      K38_k7)))) (
   K38_k7)) (
  K38_k7)
def K38_k4 (x3 : Int) (r4 : Int) (r5 : Int) (r6 : List F) (r7 : List F) (r12 : List F) (r13 : List F) : Option (Bool) :=
 obind2 (K23 r4 r5 r6 r12 r7) fun (r15 : Bool) (r16 : List F) =>
 bsel r15 (
  need (mkok 4 x3) <|
  obind (K2a r16 (List.replicate x3.toNat (some 0)) (some 4562254508917369340)) fun (r17 : Bool) =>
  bsel r17 (
   some false) (
   obind (loopM (K38_s5 r13) 0) fun z => osum z (fun e => K38_k5 x3 r4 r5 r6) (fun r => some r))) (
  some false)
def K38 (a0 : List Int) (a1 : List Int) : Option (Bool) :=
 obind (K00 a0 a1) fun (r1 : Bool) =>
 bsel r1 (
  some true) (
  obind (K01 a1 0 5) fun (r2 : Int) =>
  olet (IntKind.i64.wrap (1 + r2)) fun (x3 : Int) =>
  obind3 (K06 a0 x3) fun (r4 : Int) (r5 : Int) (r6 : List F) =>
  obind (K07 a1 x3) fun (r7 : List F) =>
  obind (K01 a1 1 5) fun (r8 : Int) =>
  obind2 (K1w r4 r5 r6) fun (r9 : F) (r10 : Bool) =>
  obind3 (K28 r4 r5 r6 r7 r8) fun (r11 : Bool) (r12 : List F) (r13 : List F) =>
  bsel r10 (
   bsel r11 (
    olet (fwiden r9) fun (x14 : F) =>
    bsel (flt .f64 x14 (some 4607173411600762667)) (
     K38_k2) (
     bsel (!decide ((r13.length : Int) = r8)) (
      K38_k2) (
      bsel (!decide ((r12.length : Int) = x3)) (
       K38_k2) (
       K38_k4 x3 r4 r5 r6 r7 r12 r13)))) (
    K38_k2)) (
   K38_k2))
theorem K38_ok (a0 : List Int) (a1 : List Int) (q0 : Bool) (h : K38 a0 a1 = some q0) : Ev Tryz.prog 3 [sl a0.length (a0.map (ik .u8)), sl a1.length (a1.map (ik .u8))] [] (b q0) [] := by
 refine yE Tryz.func3 4 499 0 [(0, sl a0.length (a0.map (ik .u8))), (1, sl a1.length (a1.map (ik .u8)))] [o0, o0, o0, o0] rfl ?_
 unfold K38 at h
 refine zQ<|ya rfl (b false)<|zN ?_
 refine yS<|yS ?_
 obtain ⟨r1, hf1, h⟩ := oS h
 rcases oB h with ⟨hc2, h⟩ | ⟨hc2, h⟩
 ·refine yW<|ym rfl (sl a0.length (a0.map (ik .u8)))<|ym rfl (sl a1.length (a1.map (ik .u8)))<|yd rfl (b true) (TOp.eqb (yc ent4 rfl rfl (bS (bS bN)) (K00_ok a0 a1 r1 hf1)) hc2)<|zN ?_
  refine yT<|zQ<|ya rfl (b true)<|zN ?_
  refine RunC.ret ?_
  have hq := oI h
  subst q0
  exact bR rfl
 ·refine yW<|ym rfl (sl a0.length (a0.map (ik .u8)))<|ym rfl (sl a1.length (a1.map (ik .u8)))<|yd rfl (b false) (TOp.eqb (yc ent4 rfl rfl (bS (bS bN)) (K00_ok a0 a1 r1 hf1)) hc2)<|zN ?_
  refine yF<|RunC.skip<|yS ?_
  obtain ⟨r2, hf3, h⟩ := oS h
  obtain ⟨x3, hx4, h⟩ := oL h
  refine yW<|ym rfl (sl a1.length (a1.map (ik .u8)))<|yd rfl (i64 r2) (yc ent5 rfl rfl (bS (bP bN0)) (K01_ok a1 0 5 r2 hf3))<|yl rfl (i64 x3) (LOp.eqr (LOp.add rfl rfl rfl) (congrArg (ik .i64) hx4))<|ya rfl (i64 x3)<|zN ?_
  refine yS ?_
  obtain ⟨r4, r5, r6, hf5, h⟩ := obind3_some h
  refine yW<|ym rfl (sl a0.length (a0.map (ik .u8)))<|ym rfl (i64 x3)<|yd rfl (agg (mXc r4 r5 r6)) (TOp.callS (CallAs.func ent6 rfl rfl) (ALes.cons aR (ALes.cons aR ALes.nil)) (lts_cons (lt_sl (fun _ => rfl)) (lts_cons rfl lts_nil)) (lt_agg (lts_cons rfl (lts_cons rfl (lts_cons (lt_sl (fun _ => rfl)) lts_nil)))) (K06_ok a0 x3 r4 r5 r6 hf5) (Bor.agg (bP (bP (Bors.cons (Bor.own (f := f32) (fun _ => rfl) rfl rfl) bN)))))<|ye rfl (optr 0 1 0) [⟨1, some zMx⟩, o0, o0, o0] (TOp.alloc_o (g := o0) 0 rfl zer27 zok27 rfl)<|ys (agg (mXc r4 r5 r6)) (mXc r4 r5 r6) [⟨1, some (mXc r4 r5 r6)⟩, o0, o0, o0] siz27<|zN ?_
  refine yS ?_
  obtain ⟨r7, hf6, h⟩ := oS h
  refine yW<|ym rfl (sl a1.length (a1.map (ik .u8)))<|ym rfl (i64 x3)<|yd rfl (sFc r7) (TOp.callS (CallAs.func ent7 rfl rfl) (ALes.cons aR (ALes.cons aR ALes.nil)) (lts_cons (lt_sl (fun _ => rfl)) (lts_cons rfl lts_nil)) (lt_sl (fun _ => rfl)) (K07_ok a1 x3 r7 hf6) (Bor.own (f := f32) (fun _ => rfl) rfl rfl))<|ya rfl (sFc r7)<|zN ?_
  refine yS ?_
  obtain ⟨r8, hf7, h⟩ := oS h
  refine yW<|ym rfl (sl a1.length (a1.map (ik .u8)))<|yd rfl (i64 r8) (yc ent5 rfl rfl (bS (bP bN0)) (K01_ok a1 1 5 r8 hf7))<|ya rfl (i64 r8)<|zN ?_
  refine yS ?_
  obtain ⟨r9, r10, hf8, h⟩ := obind2_some h
  refine yW<|yd rfl (agg (mXc r4 r5 r6)) (yA agg27 siz27)<|yd rfl (tup [f32 r9, b r10]) (TOp.callB (CallAs.func ent8 rfl rfl) (Bors.cons (Bor.agg (bP (bP (bS bN)))) bN) rfl rfl (K1w_ok r4 r5 r6 r9 r10 hf8))<|ym rfl (tup [f32 r9, b r10])<|yl rfl (f32 r9) y3<|yl rfl (b r10) y3<|ya rfl (f32 r9)<|ya rfl (b r10)<|zN ?_
  refine yS ?_
  obtain ⟨r11, r12, r13, hf9, h⟩ := obind3_some h
  refine yW<|yd rfl (agg (mXc r4 r5 r6)) (yA agg27 siz27)<|ym rfl (sFc r7)<|ym rfl (i64 r8)<|yd rfl (tup [(sFc r12), (sFc r13), b r11]) (TOp.callS (CallAs.func ent9 rfl rfl) (ALes.cons aR (ALes.cons aR (ALes.cons aR ALes.nil))) (lts_cons (lt_agg (lts_cons rfl (lts_cons rfl (lts_cons (lt_sl (fun _ => rfl)) lts_nil)))) (lts_cons (lt_sl (fun _ => rfl)) (lts_cons rfl lts_nil))) (lt_tup (lts_cons (lt_sl (fun _ => rfl)) (lts_cons (lt_sl (fun _ => rfl)) (lts_cons rfl lts_nil)))) (K28_ok r4 r5 r6 r7 r8 r11 r12 r13 hf9) (Bor.tup (Bors.cons (Bor.own (f := f32) (fun _ => rfl) rfl rfl) (Bors.cons (Bor.own (f := f32) (fun _ => rfl) rfl rfl) bN0))))<|ym rfl (tup [(sFc r12), (sFc r13), b r11])<|yl rfl (sFc r12) y3<|yl rfl (sFc r13) y3<|yl rfl (b r11) y3<|ya rfl (sFc r12)<|ya rfl (sFc r13)<|ya rfl (b r11)<|zN ?_
  refine yS<|yS<|RunC.cutN (fun τ Γ => ( Le 499 τ Γ [(5, i64 x3), (6, optr 0 1 0), (7, (sFc r7)), (11, (sFc r12)), (12, (sFc r13)), (88, b true)] [⟨1, some (mXc r4 r5 r6)⟩, o0, o0, o0] ∧ K38_k2 = some q0) ∨ ( Le 499 τ Γ [(5, i64 x3), (6, optr 0 1 0), (7, (sFc r7)), (11, (sFc r12)), (12, (sFc r13)), (88, b false)] [⟨1, some (mXc r4 r5 r6)⟩, o0, o0, o0] ∧ K38_k4 x3 r4 r5 r6 r7 r12 r13 = some q0)) ?_ ?_
  ·rcases oB h with ⟨hc10, h⟩ | ⟨hc10, h⟩
   ·rcases oB h with ⟨hc11, h⟩ | ⟨hc11, h⟩
    ·obtain ⟨x14, hx12, h⟩ := oL h
     rcases oB h with ⟨hc13, h⟩ | ⟨hc13, h⟩
     ·refine yW<|yl rfl (b true) (yv hc10)<|yl rfl (b false) y1<|ym rfl (b false)<|yl rfl (b true) (yv hc11)<|yl rfl (b false) y1<|yl rfl (b false) yp<|ym rfl (b false)<|ym rfl (f32 r9)<|yd rfl (f64 x14) (TOp.eqr (TOp.widen (src := 30) (dst := 35) ⟨_, pun30⟩ pun35 rfl (OpF.tmp rfl)) (congrArg (f .f64) hx12))<|yl rfl (b true) (LOp.eqb (LOp.flt rfl (OpF.tmp rfl) (OpF.const rfl (by kernel_rfl) (by kernel_rfl))) hc13)<|yl rfl (b true) yp<|ym rfl (b true)<|yR rfl<|yR rfl<|yR rfl<|yR rfl<|yl rfl (b true) yq<|ym rfl (b true)<|yR rfl<|yR rfl<|yR rfl<|yR rfl<|yl rfl (b true) yq<|zN ?_
      exact .inl ⟨(Le.of ⟨aR, aR, aR, aR, aR, aR, trivial⟩ ⟨⟨rfl, .inr rfl⟩, ⟨rfl, .inr rfl⟩, ⟨rfl, .inr rfl⟩, ⟨rfl, .inr rfl⟩, trivial⟩), h⟩
     ·rcases oB h with ⟨hc14, h⟩ | ⟨hc14, h⟩
      ·refine yW<|yl rfl (b true) (yv hc10)<|yl rfl (b false) y1<|ym rfl (b false)<|yl rfl (b true) (yv hc11)<|yl rfl (b false) y1<|yl rfl (b false) yp<|ym rfl (b false)<|ym rfl (f32 r9)<|yd rfl (f64 x14) (TOp.eqr (TOp.widen (src := 30) (dst := 35) ⟨_, pun30⟩ pun35 rfl (OpF.tmp rfl)) (congrArg (f .f64) hx12))<|yl rfl (b false) (LOp.eqb (LOp.flt rfl (OpF.tmp rfl) (OpF.const rfl (by kernel_rfl) (by kernel_rfl))) hc13)<|yl rfl (b false) yp<|ym rfl (b false)<|ym rfl (sFc r13)<|yl rfl (i64 (r13.length : Int)) (LOp.len_sl und25 rfl rfl)<|ym rfl (i64 r8)<|yl rfl (b true) (LOp.eqb (LOp.neq rfl rfl rfl) hc14)<|yl rfl (b true) yp<|ym rfl (b true)<|yR rfl<|yR rfl<|yR rfl<|yR rfl<|yl rfl (b true) yq<|zN ?_
       exact .inl ⟨(Le.of ⟨aR, aR, aR, aR, aR, aR, trivial⟩ ⟨⟨rfl, .inr rfl⟩, ⟨rfl, .inr rfl⟩, ⟨rfl, .inr rfl⟩, ⟨rfl, .inr rfl⟩, trivial⟩), h⟩
      ·rcases oB h with ⟨hc15, h⟩ | ⟨hc15, h⟩
       ·refine yW<|yl rfl (b true) (yv hc10)<|yl rfl (b false) y1<|ym rfl (b false)<|yl rfl (b true) (yv hc11)<|yl rfl (b false) y1<|yl rfl (b false) yp<|ym rfl (b false)<|ym rfl (f32 r9)<|yd rfl (f64 x14) (TOp.eqr (TOp.widen (src := 30) (dst := 35) ⟨_, pun30⟩ pun35 rfl (OpF.tmp rfl)) (congrArg (f .f64) hx12))<|yl rfl (b false) (LOp.eqb (LOp.flt rfl (OpF.tmp rfl) (OpF.const rfl (by kernel_rfl) (by kernel_rfl))) hc13)<|yl rfl (b false) yp<|ym rfl (b false)<|ym rfl (sFc r13)<|yl rfl (i64 (r13.length : Int)) (LOp.len_sl und25 rfl rfl)<|ym rfl (i64 r8)<|yl rfl (b false) (LOp.eqb (LOp.neq rfl rfl rfl) hc14)<|yl rfl (b false) yp<|ym rfl (b false)<|ym rfl (sFc r12)<|yl rfl (i64 (r12.length : Int)) (LOp.len_sl und25 rfl rfl)<|ym rfl (i64 x3)<|yl rfl (b true) (LOp.eqb (LOp.neq rfl rfl rfl) hc15)<|yl rfl (b true) yp<|zN ?_
        exact .inl ⟨(Le.of ⟨aR, aR, aR, aR, aR, aR, trivial⟩ ⟨⟨rfl, .inr rfl⟩, ⟨rfl, .inr rfl⟩, ⟨rfl, .inr rfl⟩, ⟨rfl, .inr rfl⟩, trivial⟩), h⟩
       ·refine yW<|yl rfl (b true) (yv hc10)<|yl rfl (b false) y1<|ym rfl (b false)<|yl rfl (b true) (yv hc11)<|yl rfl (b false) y1<|yl rfl (b false) yp<|ym rfl (b false)<|ym rfl (f32 r9)<|yd rfl (f64 x14) (TOp.eqr (TOp.widen (src := 30) (dst := 35) ⟨_, pun30⟩ pun35 rfl (OpF.tmp rfl)) (congrArg (f .f64) hx12))<|yl rfl (b false) (LOp.eqb (LOp.flt rfl (OpF.tmp rfl) (OpF.const rfl (by kernel_rfl) (by kernel_rfl))) hc13)<|yl rfl (b false) yp<|ym rfl (b false)<|ym rfl (sFc r13)<|yl rfl (i64 (r13.length : Int)) (LOp.len_sl und25 rfl rfl)<|ym rfl (i64 r8)<|yl rfl (b false) (LOp.eqb (LOp.neq rfl rfl rfl) hc14)<|yl rfl (b false) yp<|ym rfl (b false)<|ym rfl (sFc r12)<|yl rfl (i64 (r12.length : Int)) (LOp.len_sl und25 rfl rfl)<|ym rfl (i64 x3)<|yl rfl (b false) (LOp.eqb (LOp.neq rfl rfl rfl) hc15)<|yl rfl (b false) yp<|zN ?_
        exact .inr (⟨(Le.of ⟨aR, aR, aR, aR, aR, aR, trivial⟩ ⟨⟨rfl, .inr rfl⟩, ⟨rfl, .inr rfl⟩, ⟨rfl, .inr rfl⟩, ⟨rfl, .inr rfl⟩, trivial⟩), h⟩)
    ·refine yW<|yl rfl (b true) (yv hc10)<|yl rfl (b false) y1<|ym rfl (b false)<|yl rfl (b false) (yv hc11)<|yl rfl (b true) y0<|yl rfl (b true) yp<|ym rfl (b true)<|yR rfl<|yR rfl<|yR rfl<|yl rfl (b true) yq<|ym rfl (b true)<|yR rfl<|yR rfl<|yR rfl<|yR rfl<|yl rfl (b true) yq<|ym rfl (b true)<|yR rfl<|yR rfl<|yR rfl<|yR rfl<|yl rfl (b true) yq<|zN ?_
     exact .inl ⟨(Le.of ⟨aR, aR, aR, aR, aR, aR, trivial⟩ ⟨⟨rfl, .inr rfl⟩, ⟨rfl, .inr rfl⟩, ⟨rfl, .inr rfl⟩, ⟨rfl, .inr rfl⟩, trivial⟩), h⟩
   ·refine yW<|yl rfl (b false) (yv hc10)<|yl rfl (b true) y0<|ym rfl (b true)<|yR rfl<|yR rfl<|yl rfl (b true) yq<|ym rfl (b true)<|yR rfl<|yR rfl<|yR rfl<|yl rfl (b true) yq<|ym rfl (b true)<|yR rfl<|yR rfl<|yR rfl<|yR rfl<|yl rfl (b true) yq<|ym rfl (b true)<|yR rfl<|yR rfl<|yR rfl<|yR rfl<|yl rfl (b true) yq<|zN ?_
    exact .inl ⟨(Le.of ⟨aR, aR, aR, aR, aR, aR, trivial⟩ ⟨⟨rfl, .inr rfl⟩, ⟨rfl, .inr rfl⟩, ⟨rfl, .inr rfl⟩, ⟨rfl, .inr rfl⟩, trivial⟩), h⟩
  ·rintro τ18 Γ18 (⟨hw18, h⟩ | ⟨hw18, h⟩)
   ·refine RunC.le (τ' := [(5, i64 x3), (6, optr 0 1 0), (7, (sFc r7)), (11, (sFc r12)), (12, (sFc r13)), (88, b true)]) (Γ' := [⟨1, some (mXc r4 r5 r6)⟩, o0, o0, o0]) hw18 ?_
    unfold K38_k2 at h
    refine yT<|zQ<|ya rfl (b false)<|zN ?_
    refine RunC.ret ?_
    have hq := oI h
    subst q0
    exact bR rfl
   ·refine RunC.le (τ' := [(5, i64 x3), (6, optr 0 1 0), (7, (sFc r7)), (11, (sFc r12)), (12, (sFc r13)), (88, b false)]) (Γ' := [⟨1, some (mXc r4 r5 r6)⟩, o0, o0, o0]) hw18 ?_
    unfold K38_k4 at h
    refine yF<|RunC.skip<|yS ?_
    obtain ⟨r15, r16, hf16, h⟩ := obind2_some h
    refine yW<|yd rfl (agg (mXc r4 r5 r6)) (yA agg27 siz27)<|ym rfl (sFc r12)<|ym rfl (sFc r7)<|yd rfl (tup [(sFc r16), b r15]) (TOp.callS (CallAs.func ent10 rfl rfl) (ALes.cons aR (ALes.cons aR (ALes.cons aR ALes.nil))) (lts_cons (lt_agg (lts_cons rfl (lts_cons rfl (lts_cons (lt_sl (fun _ => rfl)) lts_nil)))) (lts_cons (lt_sl (fun _ => rfl)) (lts_cons (lt_sl (fun _ => rfl)) lts_nil))) (lt_tup (lts_cons (lt_sl (fun _ => rfl)) (lts_cons rfl lts_nil))) (K23_ok r4 r5 r6 r12 r7 r15 r16 hf16) (Bor.tup (Bors.cons (Bor.own (f := f32) (fun _ => rfl) rfl rfl) bN0)))<|ym rfl (tup [(sFc r16), b r15])<|yl rfl (sFc r16) y3<|yl rfl (b r15) y3<|ya rfl (sFc r16)<|ya rfl (b r15)<|zN ?_
    refine yS<|yS ?_
    rcases oB h with ⟨hc17, h⟩ | ⟨hc17, h⟩
    ·obtain ⟨hm18, h⟩ := need_some h
     obtain ⟨r17, hf19, h⟩ := oS h
     rcases oB h with ⟨hc20, h⟩ | ⟨hc20, h⟩
     ·refine yW<|yl rfl (b true) (yv hc17)<|yl rfl (b false) y1<|ym rfl (b false)<|ym rfl (sFc r16)<|ym rfl (i64 x3)<|ye rfl (oref 1 1 0 x3.toNat) [⟨1, some (mXc r4 r5 r6)⟩, ⟨1, some ((List.replicate x3.toNat (some 0)).map f32)⟩, o0, o0] (TOp.mkS (g := o0) (t := 25) (e := 30) (by_ := 4) (f := f32) (zv := some 0) 1 rfl und25 tin30 rfl siz30 zer30 rfl zel30 rfl rfl rfl hm18)<|yd rfl (b true) (TOp.eqb (yc ent11 rfl rfl (bS (Bors.cons (Bor.own (f := f32) (fun _ => rfl) rfl List.length_replicate) (Bors.cons (Bor.le (ALe.fl (by kernel_rfl) (by kernel_rfl)) (Bor.pure rfl)) bN))) (K2a_ok r16 (List.replicate x3.toNat (some 0)) (some 4562254508917369340) r17 hf19)) hc20)<|yl rfl (b true) yp<|zN ?_
      refine RunC.wl (τ' := [(5, i64 x3), (6, optr 0 1 0), (12, (sFc r13)), (103, b true)]) (Γ' := [⟨1, some (mXc r4 r5 r6)⟩, ⟨1, none⟩, o0, o0]) ⟨aR, aR, aR, aR, trivial⟩ ⟨⟨rfl, .inr rfl⟩, ⟨rfl, .inl rfl⟩, ⟨rfl, .inr rfl⟩, ⟨rfl, .inr rfl⟩, trivial⟩<|yT<|zQ<|ya rfl (b false)<|zN ?_
      refine RunC.ret ?_
      have hq := oI h
      subst q0
      exact bR rfl
     ·refine yW<|yl rfl (b true) (yv hc17)<|yl rfl (b false) y1<|ym rfl (b false)<|ym rfl (sFc r16)<|ym rfl (i64 x3)<|ye rfl (oref 1 1 0 x3.toNat) [⟨1, some (mXc r4 r5 r6)⟩, ⟨1, some ((List.replicate x3.toNat (some 0)).map f32)⟩, o0, o0] (TOp.mkS (g := o0) (t := 25) (e := 30) (by_ := 4) (f := f32) (zv := some 0) 1 rfl und25 tin30 rfl siz30 zer30 rfl zel30 rfl rfl rfl hm18)<|yd rfl (b false) (TOp.eqb (yc ent11 rfl rfl (bS (Bors.cons (Bor.own (f := f32) (fun _ => rfl) rfl List.length_replicate) (Bors.cons (Bor.le (ALe.fl (by kernel_rfl) (by kernel_rfl)) (Bor.pure rfl)) bN))) (K2a_ok r16 (List.replicate x3.toNat (some 0)) (some 4562254508917369340) r17 hf19)) hc20)<|yl rfl (b false) yp<|zN ?_
      refine RunC.wl (τ' := [(5, i64 x3), (6, optr 0 1 0), (12, (sFc r13)), (103, b false)]) (Γ' := [⟨1, some (mXc r4 r5 r6)⟩, ⟨1, none⟩, o0, o0]) ⟨aR, aR, aR, aR, trivial⟩ ⟨⟨rfl, .inr rfl⟩, ⟨rfl, .inl rfl⟩, ⟨rfl, .inr rfl⟩, ⟨rfl, .inr rfl⟩, trivial⟩<|yF<|RunC.skip<|yS<|zQ<|ym rfl (sFc r13)<|yl rfl (i64 (r13.length : Int)) (LOp.len_sl und25 rfl rfl)<|ym rfl (i64 0)<|zN ?_
      obtain ⟨z19, hz_19, h⟩ := oS h
      refine RunC.cutN (fun τ Γ => Le 499 τ Γ [(5, i64 x3), (6, optr 0 1 0)] [⟨1, some (mXc r4 r5 r6)⟩, ⟨1, none⟩, o0, o0] ∧ z19 = .inl ()) ?_ ?_
      ·refine RunC.block (RunC.loop (RunL.loopM (x := z19) (K38_s5 r13) (fun (s : Int) τ Γ => Le 499 τ Γ [(5, i64 x3), (6, optr 0 1 0), (12, (sFc r13)), (105, i64 (r13.length : Int)), (106, i64 s)] [⟨1, some (mXc r4 r5 r6)⟩, ⟨1, none⟩, o0, o0]) ?_ _ _ _ hz_19 (Le.of ⟨aR, aR, aR, aR, aR, trivial⟩ ⟨⟨rfl, .inr rfl⟩, ⟨rfl, .inl rfl⟩, ⟨rfl, .inr rfl⟩, ⟨rfl, .inr rfl⟩, trivial⟩)))
       rintro v18 τ19 Γ19 y19_ hw19 h19_ ho19 hr19
       refine RunC.le (τ' := [(5, i64 x3), (6, optr 0 1 0), (12, (sFc r13)), (105, i64 (r13.length : Int)), (106, i64 v18)]) (Γ' := [⟨1, some (mXc r4 r5 r6)⟩, ⟨1, none⟩, o0, o0]) hw19 ?_
       replace h19_ : K38_b5 r13 v18 = some y19_ := h19_
       unfold K38_b5 at h19_
       refine yS ?_
       rcases oB h19_ with ⟨hc21, h19_⟩ | ⟨hc21, h19_⟩
       ·refine yW<|yl rfl (b true) (LOp.eqb (LOp.lss rfl rfl rfl) hc21)<|zN ?_
        refine yS<|yT<|RunC.skip<|yS<|RunC.block<|zQ<|ym rfl (i64 v18)<|ya rfl (i64 v18)<|zN ?_
        refine yS ?_
        obtain ⟨e19, he22, h19_⟩ := oS h19_
        rcases oB h19_ with ⟨hc23, h19_⟩ | ⟨hc23, h19_⟩
        ·refine yW<|ym rfl (sFc r13)<|ym rfl (i64 v18)<|yl rfl (ptr [f32 e19]) (LOp.le (LOp.ix (f := f32) und25 siz30 rfl rfl rfl rfl he22) ALe.ptr)<|yl rfl (f32 e19) (y2 agg30)<|yl rfl (b true) (LOp.eqb (LOp.flt rfl (OpF.tmp rfl) (OpF.const rfl (by kernel_rfl) (by kernel_rfl))) hc23)<|ym rfl (b true)<|yR rfl<|yR rfl<|yR rfl<|yR rfl<|yR rfl<|yl rfl (b true) yq<|zN ?_
         refine yT<|zQ<|ya rfl (b false)<|zN ?_
         refine RunC.ret ?_
         cases oI h19_
         have hx20_ := hr19 _ rfl
         subst hx20_
         have hq := oI h
         subst q0
         exact bR rfl
        ·obtain ⟨e20, he24, h19_⟩ := oS h19_
         rcases oB h19_ with ⟨hc25, h19_⟩ | ⟨hc25, h19_⟩
         ·refine yW<|ym rfl (sFc r13)<|ym rfl (i64 v18)<|yl rfl (ptr [f32 e19]) (LOp.le (LOp.ix (f := f32) und25 siz30 rfl rfl rfl rfl he22) ALe.ptr)<|yl rfl (f32 e19) (y2 agg30)<|yl rfl (b false) (LOp.eqb (LOp.flt rfl (OpF.tmp rfl) (OpF.const rfl (by kernel_rfl) (by kernel_rfl))) hc23)<|ym rfl (b false)<|ym rfl (sFc r13)<|ym rfl (i64 v18)<|yl rfl (ptr [f32 e20]) (LOp.le (LOp.ix (f := f32) und25 siz30 rfl rfl rfl rfl he24) ALe.ptr)<|yl rfl (f32 e20) (y2 agg30)<|yl rfl (b true) (LOp.eqb (LOp.fgt rfl (OpF.tmp rfl) (OpF.const rfl (by kernel_rfl) (by kernel_rfl))) hc25)<|yl rfl (b true) yp<|zN ?_
          refine yT<|zQ<|ya rfl (b false)<|zN ?_
          refine RunC.ret ?_
          cases oI h19_
          have hx21_ := hr19 _ rfl
          subst hx21_
          have hq := oI h
          subst q0
          exact bR rfl
         ·refine yW<|ym rfl (sFc r13)<|ym rfl (i64 v18)<|yl rfl (ptr [f32 e19]) (LOp.le (LOp.ix (f := f32) und25 siz30 rfl rfl rfl rfl he22) ALe.ptr)<|yl rfl (f32 e19) (y2 agg30)<|yl rfl (b false) (LOp.eqb (LOp.flt rfl (OpF.tmp rfl) (OpF.const rfl (by kernel_rfl) (by kernel_rfl))) hc23)<|ym rfl (b false)<|ym rfl (sFc r13)<|ym rfl (i64 v18)<|yl rfl (ptr [f32 e20]) (LOp.le (LOp.ix (f := f32) und25 siz30 rfl rfl rfl rfl he24) ALe.ptr)<|yl rfl (f32 e20) (y2 agg30)<|yl rfl (b false) (LOp.eqb (LOp.fgt rfl (OpF.tmp rfl) (OpF.const rfl (by kernel_rfl) (by kernel_rfl))) hc25)<|yl rfl (b false) yp<|zN ?_
          refine yF<|RunC.skip ?_
          obtain ⟨x21, hx26, h19_⟩ := oL h19_
          refine yW<|yl rfl (i64 x21) (LOp.eqr (LOp.add rfl rfl rfl) (congrArg (ik .i64) hx26))<|ym rfl (i64 x21)<|zN ?_
          cases oI h19_
          exact ⟨_, rfl, (Le.of ⟨aR, aR, aR, aR, aR, trivial⟩ ⟨⟨rfl, .inr rfl⟩, ⟨rfl, .inl rfl⟩, ⟨rfl, .inr rfl⟩, ⟨rfl, .inr rfl⟩, trivial⟩)⟩
       ·refine yW<|yl rfl (b false) (LOp.eqb (LOp.lss rfl rfl rfl) hc21)<|zN ?_
        refine yS<|yF<|RunC.exit ?_
        cases oI h19_
        have hx := ho19 _ rfl
        exact ⟨(Le.of ⟨aR, aR, trivial⟩ ⟨⟨rfl, .inr rfl⟩, ⟨rfl, .inl rfl⟩, ⟨rfl, .inr rfl⟩, ⟨rfl, .inr rfl⟩, trivial⟩), hx⟩
      ·rintro τ22 Γ22 ⟨hw22, rfl⟩
       refine RunC.le hw22 ?_
       replace h : K38_k5 x3 r4 r5 r6 = some q0 := h
       unfold K38_k5 at h
       refine yS ?_
       obtain ⟨r22, r23, r24, r25, r26, r27, r28, hf27, h⟩ := obind7_some h
       refine yW<|yd rfl (agg (mXc r4 r5 r6)) (yA agg27 siz27)<|yd rfl (tup [agg [i64 r22, i64 r23, (sFc r26), sl r27.length (r27.map i64)], sl r28.length (r28.map i64), i64 r24, b r25]) (TOp.callS (CallAs.func ent12 rfl rfl) (ALes.cons aR (ALes.cons (ALe.fl (by kernel_rfl) (by kernel_rfl)) ALes.nil)) (lts_cons (lt_agg (lts_cons rfl (lts_cons rfl (lts_cons (lt_sl (fun _ => rfl)) lts_nil)))) (lts_cons rfl lts_nil)) (lt_tup (lts_cons (lt_agg (lts_cons rfl (lts_cons rfl (lts_cons (lt_sl (fun _ => rfl)) (lts_cons (lt_sl (fun _ => rfl)) lts_nil))))) (lts_cons (lt_sl (fun _ => rfl)) (lts_cons rfl (lts_cons rfl lts_nil))))) (K2c_ok r4 r5 r6 (some 0) r22 r23 r24 r25 r26 r27 r28 hf27) (Bor.tup (Bors.cons (Bor.agg (bP (bP (Bors.cons (Bor.own (f := f32) (fun _ => rfl) rfl rfl) (Bors.cons (Bor.own (f := i64) (fun _ => rfl) rfl rfl) bN))))) (Bors.cons (Bor.own (f := i64) (fun _ => rfl) rfl rfl) (bP bN0)))))<|ym rfl (tup [agg [i64 r22, i64 r23, (sFc r26), sl r27.length (r27.map i64)], sl r28.length (r28.map i64), i64 r24, b r25])<|yl rfl (agg [i64 r22, i64 r23, (sFc r26), sl r27.length (r27.map i64)]) y3<|yl rfl (sl r28.length (r28.map i64)) y3<|yl rfl (i64 r24) y3<|yl rfl (b r25) y3<|ye rfl (optr 1 2 0) ([⟨1, some (mXc r4 r5 r6)⟩, ⟨2, some [i64 0, i64 0, nilsl, nilsl]⟩, o0, o0]) (TOp.alloc_o (g := ⟨1, none⟩) 1 rfl zer41 zok41 rfl)<|ys (agg [i64 r22, i64 r23, (sFc r26), sl r27.length (r27.map i64)]) [i64 r22, i64 r23, (sFc r26), sl r27.length (r27.map i64)] ([⟨1, some (mXc r4 r5 r6)⟩, ⟨2, some [i64 r22, i64 r23, (sFc r26), sl r27.length (r27.map i64)]⟩, o0, o0]) siz41<|ya rfl (sl r28.length (r28.map i64))<|ya rfl (i64 r24)<|ya rfl (b r25)<|zN ?_
       refine yS ?_
       obtain ⟨r29, r30, r31, r32, r33, r34, r35, hf28, h⟩ := obind7_some h
       refine yW<|yd rfl (agg (mXc r4 r5 r6)) (yA agg27 siz27)<|yd rfl (tup [agg [i64 r29, i64 r30, (sFc r33), sl r34.length (r34.map i64)], sl r35.length (r35.map i64), i64 r31, b r32]) (TOp.callS (CallAs.func ent12 rfl rfl) (ALes.cons aR (ALes.cons (ALe.fl (by kernel_rfl) (by kernel_rfl)) ALes.nil)) (lts_cons (lt_agg (lts_cons rfl (lts_cons rfl (lts_cons (lt_sl (fun _ => rfl)) lts_nil)))) (lts_cons rfl lts_nil)) (lt_tup (lts_cons (lt_agg (lts_cons rfl (lts_cons rfl (lts_cons (lt_sl (fun _ => rfl)) (lts_cons (lt_sl (fun _ => rfl)) lts_nil))))) (lts_cons (lt_sl (fun _ => rfl)) (lts_cons rfl (lts_cons rfl lts_nil))))) (K2c_ok r4 r5 r6 (some 1148846080) r29 r30 r31 r32 r33 r34 r35 hf28) (Bor.tup (Bors.cons (Bor.agg (bP (bP (Bors.cons (Bor.own (f := f32) (fun _ => rfl) rfl rfl) (Bors.cons (Bor.own (f := i64) (fun _ => rfl) rfl rfl) bN))))) (Bors.cons (Bor.own (f := i64) (fun _ => rfl) rfl rfl) (bP bN0)))))<|ym rfl (tup [agg [i64 r29, i64 r30, (sFc r33), sl r34.length (r34.map i64)], sl r35.length (r35.map i64), i64 r31, b r32])<|yl rfl (agg [i64 r29, i64 r30, (sFc r33), sl r34.length (r34.map i64)]) y3<|yl rfl (sl r35.length (r35.map i64)) y3<|yl rfl (i64 r31) y3<|yl rfl (b r32) y3<|ye rfl (optr 2 1 0) ([⟨1, some (mXc r4 r5 r6)⟩, ⟨2, some [i64 r22, i64 r23, (sFc r26), sl r27.length (r27.map i64)]⟩, ⟨1, some [i64 0, i64 0, nilsl, nilsl]⟩, o0]) (TOp.alloc_o (g := o0) 2 rfl zer41 zok41 rfl)<|ys (agg [i64 r29, i64 r30, (sFc r33), sl r34.length (r34.map i64)]) [i64 r29, i64 r30, (sFc r33), sl r34.length (r34.map i64)] ([⟨1, some (mXc r4 r5 r6)⟩, ⟨2, some [i64 r22, i64 r23, (sFc r26), sl r27.length (r27.map i64)]⟩, ⟨1, some [i64 r29, i64 r30, (sFc r33), sl r34.length (r34.map i64)]⟩, o0]) siz41<|ya rfl (sl r35.length (r35.map i64))<|ya rfl (i64 r31)<|ya rfl (b r32)<|zN ?_
       refine yS<|yS<|RunC.cutN (fun τ Γ => ( Le 499 τ Γ [(6, optr 0 1 0), (17, optr 1 2 0), (18, sl r28.length (r28.map i64)), (185, b true)] [⟨1, some (mXc r4 r5 r6)⟩, ⟨2, some [i64 r22, i64 r23, (sFc r26), sl r27.length (r27.map i64)]⟩, ⟨1, none⟩, o0] ∧ K38_k7 = some q0) ∨ ( Le 499 τ Γ [(6, optr 0 1 0), (17, optr 1 2 0), (18, sl r28.length (r28.map i64)), (185, b false)] [⟨1, some (mXc r4 r5 r6)⟩, ⟨2, some [i64 r22, i64 r23, (sFc r26), sl r27.length (r27.map i64)]⟩, ⟨1, none⟩, o0] ∧ K38_k9 r4 r5 r6 r22 r23 r26 r27 r28 = some q0)) ?_ ?_
       ·rcases oB h with ⟨hc29, h⟩ | ⟨hc29, h⟩
        ·rcases oB h with ⟨hc30, h⟩ | ⟨hc30, h⟩
         ·rcases oB h with ⟨hc31, h⟩ | ⟨hc31, h⟩
          ·refine yW<|yl rfl (b true) (yv hc29)<|yl rfl (b false) y1<|ym rfl (b false)<|yl rfl (b true) (yv hc30)<|yl rfl (b false) y1<|yl rfl (b false) yp<|ym rfl (b false)<|ym rfl (i64 r24)<|ym rfl (i64 x3)<|yl rfl (b true) (LOp.eqb (LOp.neq rfl rfl rfl) hc31)<|yl rfl (b true) yp<|ym rfl (b true)<|yR rfl<|yR rfl<|yl rfl (b true) yq<|ym rfl (b true)<|yR rfl<|yR rfl<|yR rfl<|yl rfl (b true) yq<|ym rfl (b true)<|yR rfl<|yR rfl<|yR rfl<|yl rfl (b true) yq<|ym rfl (b true)<|yR rfl<|yR rfl<|yR rfl<|yl rfl (b true) yq<|ym rfl (b true)<|yR rfl<|yR rfl<|yR rfl<|yR rfl<|yl rfl (b true) yq<|ym rfl (b true)<|yR rfl<|yR rfl<|yR rfl<|yR rfl<|yR rfl<|yl rfl (b true) yq<|ym rfl (b true)<|yR rfl<|yR rfl<|yR rfl<|yR rfl<|yR rfl<|yl rfl (b true) yq<|zN ?_
           exact .inl ⟨(Le.of ⟨aR, aR, aR, aR, trivial⟩ ⟨⟨rfl, .inr rfl⟩, ⟨rfl, .inr rfl⟩, ⟨rfl, .inl rfl⟩, ⟨rfl, .inr rfl⟩, trivial⟩), h⟩
          ·rcases oB h with ⟨hc32, h⟩ | ⟨hc32, h⟩
           ·refine yW<|yl rfl (b true) (yv hc29)<|yl rfl (b false) y1<|ym rfl (b false)<|yl rfl (b true) (yv hc30)<|yl rfl (b false) y1<|yl rfl (b false) yp<|ym rfl (b false)<|ym rfl (i64 r24)<|ym rfl (i64 x3)<|yl rfl (b false) (LOp.eqb (LOp.neq rfl rfl rfl) hc31)<|yl rfl (b false) yp<|ym rfl (b false)<|ym rfl (i64 r31)<|yl rfl (b true) (LOp.eqb (LOp.neq rfl rfl rfl) hc32)<|yl rfl (b true) yp<|ym rfl (b true)<|yR rfl<|yR rfl<|yR rfl<|yl rfl (b true) yq<|ym rfl (b true)<|yR rfl<|yR rfl<|yR rfl<|yl rfl (b true) yq<|ym rfl (b true)<|yR rfl<|yR rfl<|yR rfl<|yl rfl (b true) yq<|ym rfl (b true)<|yR rfl<|yR rfl<|yR rfl<|yR rfl<|yl rfl (b true) yq<|ym rfl (b true)<|yR rfl<|yR rfl<|yR rfl<|yR rfl<|yR rfl<|yl rfl (b true) yq<|ym rfl (b true)<|yR rfl<|yR rfl<|yR rfl<|yR rfl<|yR rfl<|yl rfl (b true) yq<|zN ?_
            exact .inl ⟨(Le.of ⟨aR, aR, aR, aR, trivial⟩ ⟨⟨rfl, .inr rfl⟩, ⟨rfl, .inr rfl⟩, ⟨rfl, .inl rfl⟩, ⟨rfl, .inr rfl⟩, trivial⟩), h⟩
           ·obtain ⟨r36, hf33, h⟩ := oS h
            rcases oB h with ⟨hc34, h⟩ | ⟨hc34, h⟩
            ·obtain ⟨r37, hf35, h⟩ := oS h
             rcases oB h with ⟨hc36, h⟩ | ⟨hc36, h⟩
             ·obtain ⟨r38, hf37, h⟩ := oS h
              rcases oB h with ⟨hc38, h⟩ | ⟨hc38, h⟩
              ·rcases oB h with ⟨hc39, h⟩ | ⟨hc39, h⟩
               ·refine yW<|yl rfl (b true) (yv hc29)<|yl rfl (b false) y1<|ym rfl (b false)<|yl rfl (b true) (yv hc30)<|yl rfl (b false) y1<|yl rfl (b false) yp<|ym rfl (b false)<|ym rfl (i64 r24)<|ym rfl (i64 x3)<|yl rfl (b false) (LOp.eqb (LOp.neq rfl rfl rfl) hc31)<|yl rfl (b false) yp<|ym rfl (b false)<|ym rfl (i64 r31)<|yl rfl (b false) (LOp.eqb (LOp.neq rfl rfl rfl) hc32)<|yl rfl (b false) yp<|ym rfl (b false)<|ym rfl (sl r28.length (r28.map i64))<|yd rfl (b true) (TOp.eqb (yc ent13 rfl rfl (bS bN) (K2f_ok r28 r36 hf33)) hc34)<|yl rfl (b false) y1<|yl rfl (b false) yp<|ym rfl (b false)<|ym rfl (sl r35.length (r35.map i64))<|yd rfl (b true) (TOp.eqb (yc ent13 rfl rfl (bS bN) (K2f_ok r35 r37 hf35)) hc36)<|yl rfl (b false) y1<|yl rfl (b false) yp<|ym rfl (b false)<|yd rfl (agg [i64 r22, i64 r23, (sFc r26), sl r27.length (r27.map i64)]) (yA agg41 siz41)<|yd rfl (b true) (TOp.eqb (TOp.callB (CallAs.func ent14 rfl rfl) (Bors.cons (Bor.agg (bP (bP (bS (bS bN))))) bN) rfl rfl (K2n_ok r22 r23 r26 r27 r38 hf37)) hc38)<|yl rfl (b false) y1<|yl rfl (b false) yp<|ym rfl (b false)<|ym rfl (sl r28.length (r28.map i64))<|yl rfl (i64 (r28.length : Int)) (LOp.len_sl und39 rfl rfl)<|ym rfl (i64 x3)<|yl rfl (b true) (LOp.eqb (LOp.neq rfl rfl rfl) hc39)<|yl rfl (b true) yp<|ym rfl (b true)<|yR rfl<|yR rfl<|yR rfl<|yR rfl<|yR rfl<|yl rfl (b true) yq<|ym rfl (b true)<|yR rfl<|yR rfl<|yR rfl<|yR rfl<|yR rfl<|yl rfl (b true) yq<|zN ?_
                exact .inl ⟨(Le.of ⟨aR, aR, aR, aR, trivial⟩ ⟨⟨rfl, .inr rfl⟩, ⟨rfl, .inr rfl⟩, ⟨rfl, .inl rfl⟩, ⟨rfl, .inr rfl⟩, trivial⟩), h⟩
               ·obtain ⟨r39, hf40, h⟩ := oS h
                rcases oB h with ⟨hc41, h⟩ | ⟨hc41, h⟩
                ·rcases oB h with ⟨hc42, h⟩ | ⟨hc42, h⟩
                 ·refine yW<|yl rfl (b true) (yv hc29)<|yl rfl (b false) y1<|ym rfl (b false)<|yl rfl (b true) (yv hc30)<|yl rfl (b false) y1<|yl rfl (b false) yp<|ym rfl (b false)<|ym rfl (i64 r24)<|ym rfl (i64 x3)<|yl rfl (b false) (LOp.eqb (LOp.neq rfl rfl rfl) hc31)<|yl rfl (b false) yp<|ym rfl (b false)<|ym rfl (i64 r31)<|yl rfl (b false) (LOp.eqb (LOp.neq rfl rfl rfl) hc32)<|yl rfl (b false) yp<|ym rfl (b false)<|ym rfl (sl r28.length (r28.map i64))<|yd rfl (b true) (TOp.eqb (yc ent13 rfl rfl (bS bN) (K2f_ok r28 r36 hf33)) hc34)<|yl rfl (b false) y1<|yl rfl (b false) yp<|ym rfl (b false)<|ym rfl (sl r35.length (r35.map i64))<|yd rfl (b true) (TOp.eqb (yc ent13 rfl rfl (bS bN) (K2f_ok r35 r37 hf35)) hc36)<|yl rfl (b false) y1<|yl rfl (b false) yp<|ym rfl (b false)<|yd rfl (agg [i64 r22, i64 r23, (sFc r26), sl r27.length (r27.map i64)]) (yA agg41 siz41)<|yd rfl (b true) (TOp.eqb (TOp.callB (CallAs.func ent14 rfl rfl) (Bors.cons (Bor.agg (bP (bP (bS (bS bN))))) bN) rfl rfl (K2n_ok r22 r23 r26 r27 r38 hf37)) hc38)<|yl rfl (b false) y1<|yl rfl (b false) yp<|ym rfl (b false)<|ym rfl (sl r28.length (r28.map i64))<|yl rfl (i64 (r28.length : Int)) (LOp.len_sl und39 rfl rfl)<|ym rfl (i64 x3)<|yl rfl (b false) (LOp.eqb (LOp.neq rfl rfl rfl) hc39)<|yl rfl (b false) yp<|ym rfl (b false)<|yl rfl (optr 2 1 0) (LOp.fao und41 rfl siz27 rfl rfl rfl)<|yd rfl (agg (mXc r29 r30 r33)) (yA agg27 siz27)<|yd rfl (agg (mXc r4 r5 r6)) (yA agg27 siz27)<|yd rfl (b true) (TOp.eqb (TOp.callB (CallAs.func ent15 rfl rfl) (Bors.cons (Bor.agg (bP (bP (bS bN)))) (Bors.cons (Bor.agg (bP (bP (bS bN)))) bN)) rfl rfl (K2s_ok r29 r30 r33 r4 r5 r6 r39 hf40)) hc41)<|yl rfl (b false) y1<|yl rfl (b false) yp<|ym rfl (b false)<|yl rfl (optr 1 2 0) (LOp.fao und41 rfl siz27 rfl rfl rfl)<|yl rfl (optr 1 2 0) (LOp.fao und27 rfl siz2 rfl rfl rfl)<|yd rfl (i64 r22) (TOp.load1_o rfl rfl agg2 rfl rfl)<|ym rfl (i64 x3)<|yl rfl (b true) (LOp.eqb (LOp.neq rfl rfl rfl) hc42)<|yl rfl (b true) yp<|zN ?_
                  exact .inl ⟨(Le.of ⟨aR, aR, aR, aR, trivial⟩ ⟨⟨rfl, .inr rfl⟩, ⟨rfl, .inr rfl⟩, ⟨rfl, .inl rfl⟩, ⟨rfl, .inr rfl⟩, trivial⟩), h⟩
                 ·refine yW<|yl rfl (b true) (yv hc29)<|yl rfl (b false) y1<|ym rfl (b false)<|yl rfl (b true) (yv hc30)<|yl rfl (b false) y1<|yl rfl (b false) yp<|ym rfl (b false)<|ym rfl (i64 r24)<|ym rfl (i64 x3)<|yl rfl (b false) (LOp.eqb (LOp.neq rfl rfl rfl) hc31)<|yl rfl (b false) yp<|ym rfl (b false)<|ym rfl (i64 r31)<|yl rfl (b false) (LOp.eqb (LOp.neq rfl rfl rfl) hc32)<|yl rfl (b false) yp<|ym rfl (b false)<|ym rfl (sl r28.length (r28.map i64))<|yd rfl (b true) (TOp.eqb (yc ent13 rfl rfl (bS bN) (K2f_ok r28 r36 hf33)) hc34)<|yl rfl (b false) y1<|yl rfl (b false) yp<|ym rfl (b false)<|ym rfl (sl r35.length (r35.map i64))<|yd rfl (b true) (TOp.eqb (yc ent13 rfl rfl (bS bN) (K2f_ok r35 r37 hf35)) hc36)<|yl rfl (b false) y1<|yl rfl (b false) yp<|ym rfl (b false)<|yd rfl (agg [i64 r22, i64 r23, (sFc r26), sl r27.length (r27.map i64)]) (yA agg41 siz41)<|yd rfl (b true) (TOp.eqb (TOp.callB (CallAs.func ent14 rfl rfl) (Bors.cons (Bor.agg (bP (bP (bS (bS bN))))) bN) rfl rfl (K2n_ok r22 r23 r26 r27 r38 hf37)) hc38)<|yl rfl (b false) y1<|yl rfl (b false) yp<|ym rfl (b false)<|ym rfl (sl r28.length (r28.map i64))<|yl rfl (i64 (r28.length : Int)) (LOp.len_sl und39 rfl rfl)<|ym rfl (i64 x3)<|yl rfl (b false) (LOp.eqb (LOp.neq rfl rfl rfl) hc39)<|yl rfl (b false) yp<|ym rfl (b false)<|yl rfl (optr 2 1 0) (LOp.fao und41 rfl siz27 rfl rfl rfl)<|yd rfl (agg (mXc r29 r30 r33)) (yA agg27 siz27)<|yd rfl (agg (mXc r4 r5 r6)) (yA agg27 siz27)<|yd rfl (b true) (TOp.eqb (TOp.callB (CallAs.func ent15 rfl rfl) (Bors.cons (Bor.agg (bP (bP (bS bN)))) (Bors.cons (Bor.agg (bP (bP (bS bN)))) bN)) rfl rfl (K2s_ok r29 r30 r33 r4 r5 r6 r39 hf40)) hc41)<|yl rfl (b false) y1<|yl rfl (b false) yp<|ym rfl (b false)<|yl rfl (optr 1 2 0) (LOp.fao und41 rfl siz27 rfl rfl rfl)<|yl rfl (optr 1 2 0) (LOp.fao und27 rfl siz2 rfl rfl rfl)<|yd rfl (i64 r22) (TOp.load1_o rfl rfl agg2 rfl rfl)<|ym rfl (i64 x3)<|yl rfl (b false) (LOp.eqb (LOp.neq rfl rfl rfl) hc42)<|yl rfl (b false) yp<|zN ?_
                  exact .inr (⟨(Le.of ⟨aR, aR, aR, aR, trivial⟩ ⟨⟨rfl, .inr rfl⟩, ⟨rfl, .inr rfl⟩, ⟨rfl, .inl rfl⟩, ⟨rfl, .inr rfl⟩, trivial⟩), h⟩)
                ·refine yW<|yl rfl (b true) (yv hc29)<|yl rfl (b false) y1<|ym rfl (b false)<|yl rfl (b true) (yv hc30)<|yl rfl (b false) y1<|yl rfl (b false) yp<|ym rfl (b false)<|ym rfl (i64 r24)<|ym rfl (i64 x3)<|yl rfl (b false) (LOp.eqb (LOp.neq rfl rfl rfl) hc31)<|yl rfl (b false) yp<|ym rfl (b false)<|ym rfl (i64 r31)<|yl rfl (b false) (LOp.eqb (LOp.neq rfl rfl rfl) hc32)<|yl rfl (b false) yp<|ym rfl (b false)<|ym rfl (sl r28.length (r28.map i64))<|yd rfl (b true) (TOp.eqb (yc ent13 rfl rfl (bS bN) (K2f_ok r28 r36 hf33)) hc34)<|yl rfl (b false) y1<|yl rfl (b false) yp<|ym rfl (b false)<|ym rfl (sl r35.length (r35.map i64))<|yd rfl (b true) (TOp.eqb (yc ent13 rfl rfl (bS bN) (K2f_ok r35 r37 hf35)) hc36)<|yl rfl (b false) y1<|yl rfl (b false) yp<|ym rfl (b false)<|yd rfl (agg [i64 r22, i64 r23, (sFc r26), sl r27.length (r27.map i64)]) (yA agg41 siz41)<|yd rfl (b true) (TOp.eqb (TOp.callB (CallAs.func ent14 rfl rfl) (Bors.cons (Bor.agg (bP (bP (bS (bS bN))))) bN) rfl rfl (K2n_ok r22 r23 r26 r27 r38 hf37)) hc38)<|yl rfl (b false) y1<|yl rfl (b false) yp<|ym rfl (b false)<|ym rfl (sl r28.length (r28.map i64))<|yl rfl (i64 (r28.length : Int)) (LOp.len_sl und39 rfl rfl)<|ym rfl (i64 x3)<|yl rfl (b false) (LOp.eqb (LOp.neq rfl rfl rfl) hc39)<|yl rfl (b false) yp<|ym rfl (b false)<|yl rfl (optr 2 1 0) (LOp.fao und41 rfl siz27 rfl rfl rfl)<|yd rfl (agg (mXc r29 r30 r33)) (yA agg27 siz27)<|yd rfl (agg (mXc r4 r5 r6)) (yA agg27 siz27)<|yd rfl (b false) (TOp.eqb (TOp.callB (CallAs.func ent15 rfl rfl) (Bors.cons (Bor.agg (bP (bP (bS bN)))) (Bors.cons (Bor.agg (bP (bP (bS bN)))) bN)) rfl rfl (K2s_ok r29 r30 r33 r4 r5 r6 r39 hf40)) hc41)<|yl rfl (b true) y0<|yl rfl (b true) yp<|ym rfl (b true)<|yR rfl<|yR rfl<|yR rfl<|yR rfl<|yR rfl<|yl rfl (b true) yq<|zN ?_
                 exact .inl ⟨(Le.of ⟨aR, aR, aR, aR, trivial⟩ ⟨⟨rfl, .inr rfl⟩, ⟨rfl, .inr rfl⟩, ⟨rfl, .inl rfl⟩, ⟨rfl, .inr rfl⟩, trivial⟩), h⟩
              ·refine yW<|yl rfl (b true) (yv hc29)<|yl rfl (b false) y1<|ym rfl (b false)<|yl rfl (b true) (yv hc30)<|yl rfl (b false) y1<|yl rfl (b false) yp<|ym rfl (b false)<|ym rfl (i64 r24)<|ym rfl (i64 x3)<|yl rfl (b false) (LOp.eqb (LOp.neq rfl rfl rfl) hc31)<|yl rfl (b false) yp<|ym rfl (b false)<|ym rfl (i64 r31)<|yl rfl (b false) (LOp.eqb (LOp.neq rfl rfl rfl) hc32)<|yl rfl (b false) yp<|ym rfl (b false)<|ym rfl (sl r28.length (r28.map i64))<|yd rfl (b true) (TOp.eqb (yc ent13 rfl rfl (bS bN) (K2f_ok r28 r36 hf33)) hc34)<|yl rfl (b false) y1<|yl rfl (b false) yp<|ym rfl (b false)<|ym rfl (sl r35.length (r35.map i64))<|yd rfl (b true) (TOp.eqb (yc ent13 rfl rfl (bS bN) (K2f_ok r35 r37 hf35)) hc36)<|yl rfl (b false) y1<|yl rfl (b false) yp<|ym rfl (b false)<|yd rfl (agg [i64 r22, i64 r23, (sFc r26), sl r27.length (r27.map i64)]) (yA agg41 siz41)<|yd rfl (b false) (TOp.eqb (TOp.callB (CallAs.func ent14 rfl rfl) (Bors.cons (Bor.agg (bP (bP (bS (bS bN))))) bN) rfl rfl (K2n_ok r22 r23 r26 r27 r38 hf37)) hc38)<|yl rfl (b true) y0<|yl rfl (b true) yp<|ym rfl (b true)<|yR rfl<|yR rfl<|yR rfl<|yR rfl<|yl rfl (b true) yq<|ym rfl (b true)<|yR rfl<|yR rfl<|yR rfl<|yR rfl<|yR rfl<|yl rfl (b true) yq<|ym rfl (b true)<|yR rfl<|yR rfl<|yR rfl<|yR rfl<|yR rfl<|yl rfl (b true) yq<|zN ?_
               exact .inl ⟨(Le.of ⟨aR, aR, aR, aR, trivial⟩ ⟨⟨rfl, .inr rfl⟩, ⟨rfl, .inr rfl⟩, ⟨rfl, .inl rfl⟩, ⟨rfl, .inr rfl⟩, trivial⟩), h⟩
             ·refine yW<|yl rfl (b true) (yv hc29)<|yl rfl (b false) y1<|ym rfl (b false)<|yl rfl (b true) (yv hc30)<|yl rfl (b false) y1<|yl rfl (b false) yp<|ym rfl (b false)<|ym rfl (i64 r24)<|ym rfl (i64 x3)<|yl rfl (b false) (LOp.eqb (LOp.neq rfl rfl rfl) hc31)<|yl rfl (b false) yp<|ym rfl (b false)<|ym rfl (i64 r31)<|yl rfl (b false) (LOp.eqb (LOp.neq rfl rfl rfl) hc32)<|yl rfl (b false) yp<|ym rfl (b false)<|ym rfl (sl r28.length (r28.map i64))<|yd rfl (b true) (TOp.eqb (yc ent13 rfl rfl (bS bN) (K2f_ok r28 r36 hf33)) hc34)<|yl rfl (b false) y1<|yl rfl (b false) yp<|ym rfl (b false)<|ym rfl (sl r35.length (r35.map i64))<|yd rfl (b false) (TOp.eqb (yc ent13 rfl rfl (bS bN) (K2f_ok r35 r37 hf35)) hc36)<|yl rfl (b true) y0<|yl rfl (b true) yp<|ym rfl (b true)<|yR rfl<|yR rfl<|yR rfl<|yl rfl (b true) yq<|ym rfl (b true)<|yR rfl<|yR rfl<|yR rfl<|yR rfl<|yl rfl (b true) yq<|ym rfl (b true)<|yR rfl<|yR rfl<|yR rfl<|yR rfl<|yR rfl<|yl rfl (b true) yq<|ym rfl (b true)<|yR rfl<|yR rfl<|yR rfl<|yR rfl<|yR rfl<|yl rfl (b true) yq<|zN ?_
              exact .inl ⟨(Le.of ⟨aR, aR, aR, aR, trivial⟩ ⟨⟨rfl, .inr rfl⟩, ⟨rfl, .inr rfl⟩, ⟨rfl, .inl rfl⟩, ⟨rfl, .inr rfl⟩, trivial⟩), h⟩
            ·refine yW<|yl rfl (b true) (yv hc29)<|yl rfl (b false) y1<|ym rfl (b false)<|yl rfl (b true) (yv hc30)<|yl rfl (b false) y1<|yl rfl (b false) yp<|ym rfl (b false)<|ym rfl (i64 r24)<|ym rfl (i64 x3)<|yl rfl (b false) (LOp.eqb (LOp.neq rfl rfl rfl) hc31)<|yl rfl (b false) yp<|ym rfl (b false)<|ym rfl (i64 r31)<|yl rfl (b false) (LOp.eqb (LOp.neq rfl rfl rfl) hc32)<|yl rfl (b false) yp<|ym rfl (b false)<|ym rfl (sl r28.length (r28.map i64))<|yd rfl (b false) (TOp.eqb (yc ent13 rfl rfl (bS bN) (K2f_ok r28 r36 hf33)) hc34)<|yl rfl (b true) y0<|yl rfl (b true) yp<|ym rfl (b true)<|yR rfl<|yR rfl<|yR rfl<|yl rfl (b true) yq<|ym rfl (b true)<|yR rfl<|yR rfl<|yR rfl<|yl rfl (b true) yq<|ym rfl (b true)<|yR rfl<|yR rfl<|yR rfl<|yR rfl<|yl rfl (b true) yq<|ym rfl (b true)<|yR rfl<|yR rfl<|yR rfl<|yR rfl<|yR rfl<|yl rfl (b true) yq<|ym rfl (b true)<|yR rfl<|yR rfl<|yR rfl<|yR rfl<|yR rfl<|yl rfl (b true) yq<|zN ?_
             exact .inl ⟨(Le.of ⟨aR, aR, aR, aR, trivial⟩ ⟨⟨rfl, .inr rfl⟩, ⟨rfl, .inr rfl⟩, ⟨rfl, .inl rfl⟩, ⟨rfl, .inr rfl⟩, trivial⟩), h⟩
         ·refine yW<|yl rfl (b true) (yv hc29)<|yl rfl (b false) y1<|ym rfl (b false)<|yl rfl (b false) (yv hc30)<|yl rfl (b true) y0<|yl rfl (b true) yp<|ym rfl (b true)<|yR rfl<|yR rfl<|yR rfl<|yl rfl (b true) yq<|ym rfl (b true)<|yR rfl<|yR rfl<|yl rfl (b true) yq<|ym rfl (b true)<|yR rfl<|yR rfl<|yR rfl<|yl rfl (b true) yq<|ym rfl (b true)<|yR rfl<|yR rfl<|yR rfl<|yl rfl (b true) yq<|ym rfl (b true)<|yR rfl<|yR rfl<|yR rfl<|yl rfl (b true) yq<|ym rfl (b true)<|yR rfl<|yR rfl<|yR rfl<|yR rfl<|yl rfl (b true) yq<|ym rfl (b true)<|yR rfl<|yR rfl<|yR rfl<|yR rfl<|yR rfl<|yl rfl (b true) yq<|ym rfl (b true)<|yR rfl<|yR rfl<|yR rfl<|yR rfl<|yR rfl<|yl rfl (b true) yq<|zN ?_
          exact .inl ⟨(Le.of ⟨aR, aR, aR, aR, trivial⟩ ⟨⟨rfl, .inr rfl⟩, ⟨rfl, .inr rfl⟩, ⟨rfl, .inl rfl⟩, ⟨rfl, .inr rfl⟩, trivial⟩), h⟩
        ·refine yW<|yl rfl (b false) (yv hc29)<|yl rfl (b true) y0<|ym rfl (b true)<|yR rfl<|yR rfl<|yl rfl (b true) yq<|ym rfl (b true)<|yR rfl<|yR rfl<|yR rfl<|yl rfl (b true) yq<|ym rfl (b true)<|yR rfl<|yR rfl<|yl rfl (b true) yq<|ym rfl (b true)<|yR rfl<|yR rfl<|yR rfl<|yl rfl (b true) yq<|ym rfl (b true)<|yR rfl<|yR rfl<|yR rfl<|yl rfl (b true) yq<|ym rfl (b true)<|yR rfl<|yR rfl<|yR rfl<|yl rfl (b true) yq<|ym rfl (b true)<|yR rfl<|yR rfl<|yR rfl<|yR rfl<|yl rfl (b true) yq<|ym rfl (b true)<|yR rfl<|yR rfl<|yR rfl<|yR rfl<|yR rfl<|yl rfl (b true) yq<|ym rfl (b true)<|yR rfl<|yR rfl<|yR rfl<|yR rfl<|yR rfl<|yl rfl (b true) yq<|zN ?_
         exact .inl ⟨(Le.of ⟨aR, aR, aR, aR, trivial⟩ ⟨⟨rfl, .inr rfl⟩, ⟨rfl, .inr rfl⟩, ⟨rfl, .inl rfl⟩, ⟨rfl, .inr rfl⟩, trivial⟩), h⟩
       ·rintro τ23 Γ23 (⟨hw23, h⟩ | ⟨hw23, h⟩)
        ·refine RunC.le (τ' := [(6, optr 0 1 0), (17, optr 1 2 0), (18, sl r28.length (r28.map i64)), (185, b true)]) (Γ' := [⟨1, some (mXc r4 r5 r6)⟩, ⟨2, some [i64 r22, i64 r23, (sFc r26), sl r27.length (r27.map i64)]⟩, ⟨1, none⟩, o0]) hw23 ?_
         unfold K38_k7 at h
         refine yT<|zQ<|ya rfl (b false)<|zN ?_
         refine RunC.ret ?_
         have hq := oI h
         subst q0
         exact bR rfl
        ·refine RunC.le (τ' := [(6, optr 0 1 0), (17, optr 1 2 0), (18, sl r28.length (r28.map i64)), (185, b false)]) (Γ' := [⟨1, some (mXc r4 r5 r6)⟩, ⟨2, some [i64 r22, i64 r23, (sFc r26), sl r27.length (r27.map i64)]⟩, ⟨1, none⟩, o0]) hw23 ?_
         unfold K38_k9 at h
         refine yF<|RunC.skip<|yS ?_
         obtain ⟨r40, r41, r42, r43, hf43, h⟩ := obind4_some h
         refine yW<|yd rfl (agg (mXc r4 r5 r6)) (yA agg27 siz27)<|yd rfl (tup [agg (mXc r40 r41 r43), b r42]) (TOp.callS (CallAs.func ent16 rfl rfl) (ALes.cons aR ALes.nil) (lts_cons (lt_agg (lts_cons rfl (lts_cons rfl (lts_cons (lt_sl (fun _ => rfl)) lts_nil)))) lts_nil) (lt_tup (lts_cons (lt_agg (lts_cons rfl (lts_cons rfl (lts_cons (lt_sl (fun _ => rfl)) lts_nil)))) (lts_cons rfl lts_nil))) (K2u_ok r4 r5 r6 r40 r41 r42 r43 hf43) (Bor.tup (Bors.cons (Bor.agg (bP (bP (Bors.cons (Bor.own (f := f32) (fun _ => rfl) rfl rfl) bN)))) bN0)))<|ym rfl (tup [agg (mXc r40 r41 r43), b r42])<|yl rfl (agg (mXc r40 r41 r43)) y3<|yl rfl (b r42) y3<|ye rfl (optr 2 2 0) ([⟨1, some (mXc r4 r5 r6)⟩, ⟨2, some [i64 r22, i64 r23, (sFc r26), sl r27.length (r27.map i64)]⟩, ⟨2, some zMx⟩, o0]) (TOp.alloc_o (g := ⟨1, none⟩) 2 rfl zer27 zok27 rfl)<|ys (agg (mXc r40 r41 r43)) (mXc r40 r41 r43) ([⟨1, some (mXc r4 r5 r6)⟩, ⟨2, some [i64 r22, i64 r23, (sFc r26), sl r27.length (r27.map i64)]⟩, ⟨2, some (mXc r40 r41 r43)⟩, o0]) siz27<|ya rfl (b r42)<|zN ?_
         refine RunC.wl (τ' := [(17, optr 1 2 0), (18, sl r28.length (r28.map i64)), (25, optr 2 2 0), (26, b r42)]) (Γ' := [⟨1, none⟩, ⟨2, some [i64 r22, i64 r23, (sFc r26), sl r27.length (r27.map i64)]⟩, ⟨2, some (mXc r40 r41 r43)⟩, o0]) ⟨aR, aR, aR, aR, trivial⟩ ⟨⟨rfl, .inl rfl⟩, ⟨rfl, .inr rfl⟩, ⟨rfl, .inr rfl⟩, ⟨rfl, .inr rfl⟩, trivial⟩<|yS<|yS ?_
         rcases oB h with ⟨hc44, h⟩ | ⟨hc44, h⟩
         ·refine yW<|yl rfl (b true) (yv hc44)<|yl rfl (b false) y1<|zN ?_
          refine yF<|RunC.skip<|yS ?_
          obtain ⟨r44, r45, r46, r47, hf45, h⟩ := obind4_some h
          refine yW<|yd rfl (agg (mXc r40 r41 r43)) (yA agg27 siz27)<|ym rfl (sl r28.length (r28.map i64))<|yd rfl (tup [agg (mXc r44 r45 r47), b r46]) (TOp.callS (CallAs.func ent17 rfl rfl) (ALes.cons aR (ALes.cons aR ALes.nil)) (lts_cons (lt_agg (lts_cons rfl (lts_cons rfl (lts_cons (lt_sl (fun _ => rfl)) lts_nil)))) (lts_cons (lt_sl (fun _ => rfl)) lts_nil)) (lt_tup (lts_cons (lt_agg (lts_cons rfl (lts_cons rfl (lts_cons (lt_sl (fun _ => rfl)) lts_nil)))) (lts_cons rfl lts_nil))) (K2v_ok r40 r41 r43 r28 r44 r45 r46 r47 hf45) (Bor.tup (Bors.cons (Bor.agg (bP (bP (Bors.cons (Bor.own (f := f32) (fun _ => rfl) rfl rfl) bN)))) bN0)))<|ym rfl (tup [agg (mXc r44 r45 r47), b r46])<|yl rfl (agg (mXc r44 r45 r47)) y3<|yl rfl (b r46) y3<|ye rfl (optr 0 2 0) ([⟨2, some zMx⟩, ⟨2, some [i64 r22, i64 r23, (sFc r26), sl r27.length (r27.map i64)]⟩, ⟨2, some (mXc r40 r41 r43)⟩, o0]) (TOp.alloc_o (g := ⟨1, none⟩) 0 rfl zer27 zok27 rfl)<|ys (agg (mXc r44 r45 r47)) (mXc r44 r45 r47) ([⟨2, some (mXc r44 r45 r47)⟩, ⟨2, some [i64 r22, i64 r23, (sFc r26), sl r27.length (r27.map i64)]⟩, ⟨2, some (mXc r40 r41 r43)⟩, o0]) siz27<|ya rfl (b r46)<|zN ?_
          refine RunC.wl (τ' := [(17, optr 1 2 0), (27, optr 0 2 0), (28, b r46)]) (Γ' := [⟨2, some (mXc r44 r45 r47)⟩, ⟨2, some [i64 r22, i64 r23, (sFc r26), sl r27.length (r27.map i64)]⟩, ⟨2, none⟩, o0]) ⟨aR, aR, aR, trivial⟩ ⟨⟨rfl, .inr rfl⟩, ⟨rfl, .inr rfl⟩, ⟨rfl, .inl rfl⟩, ⟨rfl, .inr rfl⟩, trivial⟩<|yS ?_
          obtain ⟨r48, r49, r50, r51, hf46, h⟩ := obind4_some h
          refine yW<|yd rfl (agg (mXc r44 r45 r47)) (yA agg27 siz27)<|yd rfl (tup [agg (mXc r48 r49 r51), b r50]) (TOp.callS (CallAs.func ent16 rfl rfl) (ALes.cons aR ALes.nil) (lts_cons (lt_agg (lts_cons rfl (lts_cons rfl (lts_cons (lt_sl (fun _ => rfl)) lts_nil)))) lts_nil) (lt_tup (lts_cons (lt_agg (lts_cons rfl (lts_cons rfl (lts_cons (lt_sl (fun _ => rfl)) lts_nil)))) (lts_cons rfl lts_nil))) (K2u_ok r44 r45 r47 r48 r49 r50 r51 hf46) (Bor.tup (Bors.cons (Bor.agg (bP (bP (Bors.cons (Bor.own (f := f32) (fun _ => rfl) rfl rfl) bN)))) bN0)))<|ym rfl (tup [agg (mXc r48 r49 r51), b r50])<|yl rfl (agg (mXc r48 r49 r51)) y3<|yl rfl (b r50) y3<|ye rfl (optr 2 3 0) ([⟨2, some (mXc r44 r45 r47)⟩, ⟨2, some [i64 r22, i64 r23, (sFc r26), sl r27.length (r27.map i64)]⟩, ⟨3, some zMx⟩, o0]) (TOp.alloc_o (g := ⟨2, none⟩) 2 rfl zer27 zok27 rfl)<|ys (agg (mXc r48 r49 r51)) (mXc r48 r49 r51) ([⟨2, some (mXc r44 r45 r47)⟩, ⟨2, some [i64 r22, i64 r23, (sFc r26), sl r27.length (r27.map i64)]⟩, ⟨3, some (mXc r48 r49 r51)⟩, o0]) siz27<|ya rfl (b r50)<|zN ?_
          refine RunC.wl (τ' := [(17, optr 1 2 0), (28, b r46), (29, optr 2 3 0), (30, b r50)]) (Γ' := [⟨2, none⟩, ⟨2, some [i64 r22, i64 r23, (sFc r26), sl r27.length (r27.map i64)]⟩, ⟨3, some (mXc r48 r49 r51)⟩, o0]) ⟨aR, aR, aR, aR, trivial⟩ ⟨⟨rfl, .inl rfl⟩, ⟨rfl, .inr rfl⟩, ⟨rfl, .inr rfl⟩, ⟨rfl, .inr rfl⟩, trivial⟩<|yS<|yS<|RunC.cutN (fun τ Γ => ( Le 499 τ Γ [(17, optr 1 2 0), (29, optr 2 3 0), (209, b true)] [⟨2, none⟩, ⟨2, some [i64 r22, i64 r23, (sFc r26), sl r27.length (r27.map i64)]⟩, ⟨3, some (mXc r48 r49 r51)⟩, o0] ∧ K38_k11 = some q0) ∨ ( Le 499 τ Γ [(17, optr 1 2 0), (29, optr 2 3 0), (209, b false)] [⟨2, none⟩, ⟨2, some [i64 r22, i64 r23, (sFc r26), sl r27.length (r27.map i64)]⟩, ⟨3, some (mXc r48 r49 r51)⟩, o0] ∧ K38_k13 r22 r23 r26 r27 r48 r49 r51 = some q0)) ?_ ?_
          ·rcases oB h with ⟨hc47, h⟩ | ⟨hc47, h⟩
           ·rcases oB h with ⟨hc48, h⟩ | ⟨hc48, h⟩
            ·refine yW<|yl rfl (b true) (yv hc47)<|yl rfl (b false) y1<|ym rfl (b false)<|yl rfl (b true) (yv hc48)<|yl rfl (b false) y1<|yl rfl (b false) yp<|zN ?_
             exact .inr (⟨(Le.of ⟨aR, aR, aR, trivial⟩ ⟨⟨rfl, .inl rfl⟩, ⟨rfl, .inr rfl⟩, ⟨rfl, .inr rfl⟩, ⟨rfl, .inr rfl⟩, trivial⟩), h⟩)
            ·refine yW<|yl rfl (b true) (yv hc47)<|yl rfl (b false) y1<|ym rfl (b false)<|yl rfl (b false) (yv hc48)<|yl rfl (b true) y0<|yl rfl (b true) yp<|zN ?_
             exact .inl ⟨(Le.of ⟨aR, aR, aR, trivial⟩ ⟨⟨rfl, .inl rfl⟩, ⟨rfl, .inr rfl⟩, ⟨rfl, .inr rfl⟩, ⟨rfl, .inr rfl⟩, trivial⟩), h⟩
           ·refine yW<|yl rfl (b false) (yv hc47)<|yl rfl (b true) y0<|ym rfl (b true)<|yR rfl<|yR rfl<|yl rfl (b true) yq<|zN ?_
            exact .inl ⟨(Le.of ⟨aR, aR, aR, trivial⟩ ⟨⟨rfl, .inl rfl⟩, ⟨rfl, .inr rfl⟩, ⟨rfl, .inr rfl⟩, ⟨rfl, .inr rfl⟩, trivial⟩), h⟩
          ·rintro τ24 Γ24 (⟨hw24, h⟩ | ⟨hw24, h⟩)
           ·refine RunC.le (τ' := [(17, optr 1 2 0), (29, optr 2 3 0), (209, b true)]) (Γ' := [⟨2, none⟩, ⟨2, some [i64 r22, i64 r23, (sFc r26), sl r27.length (r27.map i64)]⟩, ⟨3, some (mXc r48 r49 r51)⟩, o0]) hw24 ?_
            unfold K38_k11 at h
            refine yT<|zQ<|ya rfl (b false)<|zN ?_
            refine RunC.ret ?_
            have hq := oI h
            subst q0
            exact bR rfl
           ·refine RunC.le (τ' := [(17, optr 1 2 0), (29, optr 2 3 0), (209, b false)]) (Γ' := [⟨2, none⟩, ⟨2, some [i64 r22, i64 r23, (sFc r26), sl r27.length (r27.map i64)]⟩, ⟨3, some (mXc r48 r49 r51)⟩, o0]) hw24 ?_
            unfold K38_k13 at h
            refine yF<|RunC.skip<|yS ?_
            obtain ⟨r52, r53, r54, r55, hf49, h⟩ := obind4_some h
            refine yW<|yd rfl (agg (mXc r48 r49 r51)) (yA agg27 siz27)<|yl rfl (optr 1 2 3) (LOp.fao und41 rfl siz39 rfl rfl rfl)<|yd rfl (sl r27.length (r27.map i64)) (TOp.load1_o rfl rfl agg39 rfl rfl)<|yd rfl (tup [agg (mXc r52 r53 r55), b r54]) (TOp.callS (CallAs.func ent17 rfl rfl) (ALes.cons aR (ALes.cons aR ALes.nil)) (lts_cons (lt_agg (lts_cons rfl (lts_cons rfl (lts_cons (lt_sl (fun _ => rfl)) lts_nil)))) (lts_cons (lt_sl (fun _ => rfl)) lts_nil)) (lt_tup (lts_cons (lt_agg (lts_cons rfl (lts_cons rfl (lts_cons (lt_sl (fun _ => rfl)) lts_nil)))) (lts_cons rfl lts_nil))) (K2v_ok r48 r49 r51 r27 r52 r53 r54 r55 hf49) (Bor.tup (Bors.cons (Bor.agg (bP (bP (Bors.cons (Bor.own (f := f32) (fun _ => rfl) rfl rfl) bN)))) bN0)))<|ym rfl (tup [agg (mXc r52 r53 r55), b r54])<|yl rfl (agg (mXc r52 r53 r55)) y3<|yl rfl (b r54) y3<|ye rfl (optr 0 3 0) ([⟨3, some zMx⟩, ⟨2, some [i64 r22, i64 r23, (sFc r26), sl r27.length (r27.map i64)]⟩, ⟨3, some (mXc r48 r49 r51)⟩, o0]) (TOp.alloc_o (g := ⟨2, none⟩) 0 rfl zer27 zok27 rfl)<|ys (agg (mXc r52 r53 r55)) (mXc r52 r53 r55) ([⟨3, some (mXc r52 r53 r55)⟩, ⟨2, some [i64 r22, i64 r23, (sFc r26), sl r27.length (r27.map i64)]⟩, ⟨3, some (mXc r48 r49 r51)⟩, o0]) siz27<|ya rfl (b r54)<|zN ?_
            refine RunC.wl (τ' := [(17, optr 1 2 0), (31, optr 0 3 0), (32, b r54)]) (Γ' := [⟨3, some (mXc r52 r53 r55)⟩, ⟨2, some [i64 r22, i64 r23, (sFc r26), sl r27.length (r27.map i64)]⟩, ⟨3, none⟩, o0]) ⟨aR, aR, aR, trivial⟩ ⟨⟨rfl, .inr rfl⟩, ⟨rfl, .inr rfl⟩, ⟨rfl, .inl rfl⟩, ⟨rfl, .inr rfl⟩, trivial⟩<|yS ?_
            obtain ⟨r56, r57, r58, r59, hf50, h⟩ := obind4_some h
            refine yW<|yd rfl (agg [i64 r22, i64 r23, (sFc r26), sl r27.length (r27.map i64)]) (yA agg41 siz41)<|yd rfl (tup [agg (mXc r56 r57 r59), b r58]) (TOp.callS (CallAs.func ent18 rfl rfl) (ALes.cons aR ALes.nil) (lts_cons (lt_agg (lts_cons rfl (lts_cons rfl (lts_cons (lt_sl (fun _ => rfl)) (lts_cons (lt_sl (fun _ => rfl)) lts_nil))))) lts_nil) (lt_tup (lts_cons (lt_agg (lts_cons rfl (lts_cons rfl (lts_cons (lt_sl (fun _ => rfl)) lts_nil)))) (lts_cons rfl lts_nil))) (K2y_ok r22 r23 r26 r27 r56 r57 r58 r59 hf50) (Bor.tup (Bors.cons (Bor.agg (bP (bP (Bors.cons (Bor.own (f := f32) (fun _ => rfl) rfl rfl) bN)))) bN0)))<|ym rfl (tup [agg (mXc r56 r57 r59), b r58])<|yl rfl (agg (mXc r56 r57 r59)) y3<|yl rfl (b r58) y3<|ye rfl (optr 2 4 0) ([⟨3, some (mXc r52 r53 r55)⟩, ⟨2, some [i64 r22, i64 r23, (sFc r26), sl r27.length (r27.map i64)]⟩, ⟨4, some zMx⟩, o0]) (TOp.alloc_o (g := ⟨3, none⟩) 2 rfl zer27 zok27 rfl)<|ys (agg (mXc r56 r57 r59)) (mXc r56 r57 r59) ([⟨3, some (mXc r52 r53 r55)⟩, ⟨2, some [i64 r22, i64 r23, (sFc r26), sl r27.length (r27.map i64)]⟩, ⟨4, some (mXc r56 r57 r59)⟩, o0]) siz27<|ya rfl (b r58)<|zN ?_
            refine yS ?_
            obtain ⟨r60, r61, r62, r63, hf51, h⟩ := obind4_some h
            refine yW<|yd rfl (agg [i64 r22, i64 r23, (sFc r26), sl r27.length (r27.map i64)]) (yA agg41 siz41)<|yd rfl (tup [agg (mXc r60 r61 r63), b r62]) (TOp.callS (CallAs.func ent19 rfl rfl) (ALes.cons aR ALes.nil) (lts_cons (lt_agg (lts_cons rfl (lts_cons rfl (lts_cons (lt_sl (fun _ => rfl)) (lts_cons (lt_sl (fun _ => rfl)) lts_nil))))) lts_nil) (lt_tup (lts_cons (lt_agg (lts_cons rfl (lts_cons rfl (lts_cons (lt_sl (fun _ => rfl)) lts_nil)))) (lts_cons rfl lts_nil))) (K32_ok r22 r23 r26 r27 r60 r61 r62 r63 hf51) (Bor.tup (Bors.cons (Bor.agg (bP (bP (Bors.cons (Bor.own (f := f32) (fun _ => rfl) rfl rfl) bN)))) bN0)))<|ym rfl (tup [agg (mXc r60 r61 r63), b r62])<|yl rfl (agg (mXc r60 r61 r63)) y3<|yl rfl (b r62) y3<|ye rfl (optr 3 1 0) ([⟨3, some (mXc r52 r53 r55)⟩, ⟨2, some [i64 r22, i64 r23, (sFc r26), sl r27.length (r27.map i64)]⟩, ⟨4, some (mXc r56 r57 r59)⟩, ⟨1, some zMx⟩]) (TOp.alloc_o (g := o0) 3 rfl zer27 zok27 rfl)<|ys (agg (mXc r60 r61 r63)) (mXc r60 r61 r63) ([⟨3, some (mXc r52 r53 r55)⟩, ⟨2, some [i64 r22, i64 r23, (sFc r26), sl r27.length (r27.map i64)]⟩, ⟨4, some (mXc r56 r57 r59)⟩, ⟨1, some (mXc r60 r61 r63)⟩]) siz27<|ya rfl (b r62)<|zN ?_
            refine RunC.wl (τ' := [(31, optr 0 3 0), (32, b r54), (33, optr 2 4 0), (34, b r58), (35, optr 3 1 0), (36, b r62)]) (Γ' := [⟨3, some (mXc r52 r53 r55)⟩, ⟨2, none⟩, ⟨4, some (mXc r56 r57 r59)⟩, ⟨1, some (mXc r60 r61 r63)⟩]) ⟨aR, aR, aR, aR, aR, aR, trivial⟩ ⟨⟨rfl, .inr rfl⟩, ⟨rfl, .inl rfl⟩, ⟨rfl, .inr rfl⟩, ⟨rfl, .inr rfl⟩, trivial⟩<|yS ?_
            obtain ⟨r64, r65, r66, r67, hf52, h⟩ := obind4_some h
            refine yW<|yd rfl (agg (mXc r56 r57 r59)) (yA agg27 siz27)<|yd rfl (agg (mXc r60 r61 r63)) (yA agg27 siz27)<|yd rfl (tup [agg (mXc r64 r65 r67), b r66]) (TOp.callS (CallAs.func ent20 rfl rfl) (ALes.cons aR (ALes.cons aR ALes.nil)) (lts_cons (lt_agg (lts_cons rfl (lts_cons rfl (lts_cons (lt_sl (fun _ => rfl)) lts_nil)))) (lts_cons (lt_agg (lts_cons rfl (lts_cons rfl (lts_cons (lt_sl (fun _ => rfl)) lts_nil)))) lts_nil)) (lt_tup (lts_cons (lt_agg (lts_cons rfl (lts_cons rfl (lts_cons (lt_sl (fun _ => rfl)) lts_nil)))) (lts_cons rfl lts_nil))) (K36_ok r56 r57 r59 r60 r61 r63 r64 r65 r66 r67 hf52) (Bor.tup (Bors.cons (Bor.agg (bP (bP (Bors.cons (Bor.own (f := f32) (fun _ => rfl) rfl rfl) bN)))) bN0)))<|ym rfl (tup [agg (mXc r64 r65 r67), b r66])<|yl rfl (agg (mXc r64 r65 r67)) y3<|yl rfl (b r66) y3<|ye rfl (optr 1 3 0) [⟨3, some (mXc r52 r53 r55)⟩, ⟨3, some zMx⟩, ⟨4, some (mXc r56 r57 r59)⟩, ⟨1, some (mXc r60 r61 r63)⟩] (TOp.alloc_o (g := ⟨2, none⟩) 1 rfl zer27 zok27 rfl)<|ys (agg (mXc r64 r65 r67)) (mXc r64 r65 r67) [⟨3, some (mXc r52 r53 r55)⟩, ⟨3, some (mXc r64 r65 r67)⟩, ⟨4, some (mXc r56 r57 r59)⟩, ⟨1, some (mXc r60 r61 r63)⟩] siz27<|ya rfl (b r66)<|zN ?_
            refine RunC.wl (τ' := [(31, optr 0 3 0), (32, b r54), (34, b r58), (36, b r62), (37, optr 1 3 0), (38, b r66)]) (Γ' := [⟨3, some (mXc r52 r53 r55)⟩, ⟨3, some (mXc r64 r65 r67)⟩, ⟨4, none⟩, ⟨1, none⟩]) ⟨aR, aR, aR, aR, aR, aR, trivial⟩ ⟨⟨rfl, .inr rfl⟩, ⟨rfl, .inr rfl⟩, ⟨rfl, .inl rfl⟩, ⟨rfl, .inl rfl⟩, trivial⟩<|yS<|RunC.cutN (fun τ Γ => ( Le 499 τ Γ [(4, b false)] [⟨3, none⟩, ⟨3, none⟩, ⟨4, none⟩, ⟨1, none⟩] ∧ K38_k15 = some q0) ∨ (∃ (w69 : Bool), Le 499 τ Γ [(4, b w69)] [⟨3, none⟩, ⟨3, none⟩, ⟨4, none⟩, ⟨1, none⟩] ∧ K38_k17 w69 = some q0)) ?_ ?_
            ·rcases oB h with ⟨hc53, h⟩ | ⟨hc53, h⟩
             ·rcases oB h with ⟨hc54, h⟩ | ⟨hc54, h⟩
              ·rcases oB h with ⟨hc55, h⟩ | ⟨hc55, h⟩
               ·rcases oB h with ⟨hc56, h⟩ | ⟨hc56, h⟩
                ·obtain ⟨r68, hf57, h⟩ := oS h
                 refine yW<|yl rfl (b true) (yv hc53)<|ym rfl (b true)<|yl rfl (b true) (yv hc54)<|yl rfl (b true) yq<|ym rfl (b true)<|yl rfl (b true) (yv hc55)<|yl rfl (b true) yq<|ym rfl (b true)<|yl rfl (b true) (yv hc56)<|yl rfl (b true) yq<|ym rfl (b true)<|yd rfl (agg (mXc r64 r65 r67)) (yA agg27 siz27)<|yd rfl (agg (mXc r52 r53 r55)) (yA agg27 siz27)<|yd rfl (b r68) (TOp.callB (CallAs.func ent21 rfl rfl) (Bors.cons (Bor.agg (bP (bP (bS bN)))) (Bors.cons (Bor.agg (bP (bP (bS bN)))) (Bors.cons (Bor.le (ALe.fl (by kernel_rfl) (by kernel_rfl)) (Bor.pure rfl)) bN))) rfl rfl (K37_ok r64 r65 r67 r52 r53 r55 (some 4562254508917369340) r68 hf57))<|yl rfl (b (!r68)) (LOp.not rfl rfl)<|yl rfl (b (!r68)) yq<|ya rfl (b (!r68))<|zN ?_
                 exact .inr (⟨(!r68), (Le.of ⟨aR, trivial⟩ ⟨⟨rfl, .inl rfl⟩, ⟨rfl, .inl rfl⟩, ⟨rfl, .inl rfl⟩, ⟨rfl, .inl rfl⟩, trivial⟩), h⟩)
                ·refine yW<|yl rfl (b true) (yv hc53)<|ym rfl (b true)<|yl rfl (b true) (yv hc54)<|yl rfl (b true) yq<|ym rfl (b true)<|yl rfl (b true) (yv hc55)<|yl rfl (b true) yq<|ym rfl (b true)<|yl rfl (b false) (yv hc56)<|yl rfl (b false) yq<|ym rfl (b false)<|yR rfl<|yR rfl<|yR rfl<|yR rfl<|yl rfl (b false) yp<|ya rfl (b false)<|zN ?_
                 exact .inl ⟨(Le.of ⟨aR, trivial⟩ ⟨⟨rfl, .inl rfl⟩, ⟨rfl, .inl rfl⟩, ⟨rfl, .inl rfl⟩, ⟨rfl, .inl rfl⟩, trivial⟩), h⟩
               ·refine yW<|yl rfl (b true) (yv hc53)<|ym rfl (b true)<|yl rfl (b true) (yv hc54)<|yl rfl (b true) yq<|ym rfl (b true)<|yl rfl (b false) (yv hc55)<|yl rfl (b false) yq<|ym rfl (b false)<|yR rfl<|yl rfl (b false) yp<|ym rfl (b false)<|yR rfl<|yR rfl<|yR rfl<|yR rfl<|yl rfl (b false) yp<|ya rfl (b false)<|zN ?_
                exact .inl ⟨(Le.of ⟨aR, trivial⟩ ⟨⟨rfl, .inl rfl⟩, ⟨rfl, .inl rfl⟩, ⟨rfl, .inl rfl⟩, ⟨rfl, .inl rfl⟩, trivial⟩), h⟩
              ·refine yW<|yl rfl (b true) (yv hc53)<|ym rfl (b true)<|yl rfl (b false) (yv hc54)<|yl rfl (b false) yq<|ym rfl (b false)<|yR rfl<|yl rfl (b false) yp<|ym rfl (b false)<|yR rfl<|yl rfl (b false) yp<|ym rfl (b false)<|yR rfl<|yR rfl<|yR rfl<|yR rfl<|yl rfl (b false) yp<|ya rfl (b false)<|zN ?_
               exact .inl ⟨(Le.of ⟨aR, trivial⟩ ⟨⟨rfl, .inl rfl⟩, ⟨rfl, .inl rfl⟩, ⟨rfl, .inl rfl⟩, ⟨rfl, .inl rfl⟩, trivial⟩), h⟩
             ·refine yW<|yl rfl (b false) (yv hc53)<|ym rfl (b false)<|yR rfl<|yl rfl (b false) yp<|ym rfl (b false)<|yR rfl<|yl rfl (b false) yp<|ym rfl (b false)<|yR rfl<|yl rfl (b false) yp<|ym rfl (b false)<|yR rfl<|yR rfl<|yR rfl<|yR rfl<|yl rfl (b false) yp<|ya rfl (b false)<|zN ?_
              exact .inl ⟨(Le.of ⟨aR, trivial⟩ ⟨⟨rfl, .inl rfl⟩, ⟨rfl, .inl rfl⟩, ⟨rfl, .inl rfl⟩, ⟨rfl, .inl rfl⟩, trivial⟩), h⟩
            ·rintro τ25 Γ25 (⟨hw25, h⟩ | ⟨w69, hw25, h⟩)
             ·refine RunC.le (τ' := [(4, b false)]) (Γ' := [⟨3, none⟩, ⟨3, none⟩, ⟨4, none⟩, ⟨1, none⟩]) hw25 ?_
              unfold K38_k15 at h
              refine RunC.ret ?_
              have hq := oI h
              subst q0
              exact bR rfl
             ·refine RunC.le (τ' := [(4, b w69)]) (Γ' := [⟨3, none⟩, ⟨3, none⟩, ⟨4, none⟩, ⟨1, none⟩]) hw25 ?_
              unfold K38_k17 at h
              refine RunC.ret ?_
              have hq := oI h
              subst q0
              exact bR rfl
         ·refine yW<|yl rfl (b false) (yv hc44)<|yl rfl (b true) y0<|zN ?_
          refine yT<|zQ<|ya rfl (b true)<|zN ?_
          refine RunC.ret ?_
          have hq := oI h
          subst q0
          exact bR rfl
    ·refine yW<|yl rfl (b false) (yv hc17)<|yl rfl (b true) y0<|ym rfl (b true)<|yR rfl<|yR rfl<|yR rfl<|yR rfl<|yl rfl (b true) yq<|zN ?_
     refine yT<|zQ<|ya rfl (b false)<|zN ?_
     refine RunC.ret ?_
     have hq := oI h
     subst q0
     exact bR rfl
end
end Go.Proofs.YtcifbefhglffhaaGreat
