/- Generated. -/
import Derived.Test.YtcifbefhglffhaaGreatG0
namespace Go.Proofs.YtcifbefhglffhaaGreat
open Go Go.AM Go.AM.AV
set_option maxRecDepth 20000
set_option maxHeartbeats 4000000
set_option linter.unusedVariables false
set_option linter.unusedSimpArgs false
noncomputable section
def K1o (a0 : Int) (a1 : Int) (a2 : List F) : Option ((Int × Int × Bool × (List F)) ⊕ (Int × Int × Bool × (List F) × (List F))) :=
 obind (K0k a0 a1 a2) fun (r1 : Bool) =>
 bsel r1 (
  some (Sum.inl (a0, a1, true, a2))) (
  some (Sum.inr (0, 0, false, a2, ([] : List F))))
theorem K1o_ok0 (a0 : Int) (a1 : Int) (a2 : List F) (q0 : Int) (q1 : Int) (q2 : Bool) (q3 : List F) (h : K1o a0 a1 a2 = some (Sum.inl (q0, q1, q2, q3))) : Ev Tryz.prog 69 [agg (oXc a0 a1 0 0 a2.length)] [oF 0 a2] (tup [agg (oXc q0 q1 0 0 q3.length), b q2]) [oF 0 q3] := by
 refine Ev.start Tryz.func69 rfl rfl 2 (τ := [(0, agg (oXc a0 a1 0 0 a2.length))]) rfl (Γ' := [oF 0 a2, o0, o0]) rfl (n := 18) rfl (g := 1) rfl (by decide) ?_
 unfold K1o at h
 refine zQ<|yd rfl (ptr (oXc a0 a1 0 0 a2.length)) (TOp.box_s rfl rfl rfl)<|ye rfl (optr 1 1 0) [oF 0 a2, ⟨1, some zMx⟩, o0] (TOp.alloc_o (g := o0) 1 rfl zer27 zok27 rfl)<|ya rfl (b false)<|zN ?_
 refine yS<|yS ?_
 obtain ⟨r1, hf1, h⟩ := oS h
 rcases oB h with ⟨hc2, h⟩ | ⟨hc2, h⟩
 ·refine yW<|yl rfl (agg (oXc a0 a1 0 0 a2.length)) (yL agg27 siz27)<|yd rfl (b true) (TOp.eqb (TOp.callB (CallAs.func ent35 rfl rfl) (Bors.cons (Bor.agg (bP (bP (Bors.cons (Bor.own (f := f32) (fun _ => rfl) rfl rfl) bN)))) bN) rfl rfl (K0k_ok a0 a1 a2 r1 hf1)) hc2)<|yl rfl (b false) y1<|zN ?_
  refine yF<|RunC.skip<|zQ<|yl rfl (agg (oXc a0 a1 0 0 a2.length)) (yL agg27 siz27)<|ys (agg (oXc a0 a1 0 0 a2.length)) (oXc a0 a1 0 0 a2.length) [oF 0 a2, ⟨1, some (oXc a0 a1 0 0 a2.length)⟩, o0] siz27<|ya rfl (b true)<|zN ?_
  refine RunC.ret ?_
  have hq := oI h
  have hq := Sum.inl.inj hq
  obtain ⟨hq0, hq⟩ := Prod.mk.inj hq
  obtain ⟨hq1, hq⟩ := Prod.mk.inj hq
  obtain ⟨hq2, hq⟩ := Prod.mk.inj hq
  subst q0
  subst q1
  subst q2
  subst q3
  exact yB (tup [agg (oXc a0 a1 0 0 a2.length), b true]) [(0, 0)] (Res.two rfl (RV.cell agg27 siz27 rfl rfl rfl rfl) (RV.tmp rfl)) (SelL.arr (f := f32) (fun _ => rfl) rfl trivial)
 ·refine yW<|yl rfl (agg (oXc a0 a1 0 0 a2.length)) (yL agg27 siz27)<|yd rfl (b false) (TOp.eqb (TOp.callB (CallAs.func ent35 rfl rfl) (Bors.cons (Bor.agg (bP (bP (Bors.cons (Bor.own (f := f32) (fun _ => rfl) rfl rfl) bN)))) bN) rfl rfl (K0k_ok a0 a1 a2 r1 hf1)) hc2)<|yl rfl (b true) y0<|zN ?_
  refine yT<|zQ<|yl rfl (agg zMx) (LOp.build (qs := []) zer27 zok27 und27 plc27 rfl trivial rfl)<|ys (agg zMx) zMx [oF 0 a2, ⟨1, some zMx⟩, o0] siz27<|ya rfl (b false)<|zN ?_
  cases oI h
theorem K1o_ok1 (a0 : Int) (a1 : Int) (a2 : List F) (q0 : Int) (q1 : Int) (q2 : Bool) (q3 : List F) (q4 : List F) (h : K1o a0 a1 a2 = some (Sum.inr (q0, q1, q2, q3, q4))) : Ev Tryz.prog 69 [agg (oXc a0 a1 0 0 a2.length)] [oF 0 a2] (tup [agg (oXc q0 q1 1 0 q4.length), b q2]) [oF 0 q3, oF 0 q4] := by
 refine Ev.start Tryz.func69 rfl rfl 2 (τ := [(0, agg (oXc a0 a1 0 0 a2.length))]) rfl (Γ' := [oF 0 a2, o0, o0]) rfl (n := 18) rfl (g := 1) rfl (by decide) ?_
 unfold K1o at h
 refine zQ<|yd rfl (ptr (oXc a0 a1 0 0 a2.length)) (TOp.box_s rfl rfl rfl)<|ye rfl (optr 1 1 0) [oF 0 a2, ⟨1, some zMx⟩, o0] (TOp.alloc_o (g := o0) 1 rfl zer27 zok27 rfl)<|ya rfl (b false)<|zN ?_
 refine yS<|yS ?_
 obtain ⟨r1, hf1, h⟩ := oS h
 rcases oB h with ⟨hc2, h⟩ | ⟨hc2, h⟩
 ·refine yW<|yl rfl (agg (oXc a0 a1 0 0 a2.length)) (yL agg27 siz27)<|yd rfl (b true) (TOp.eqb (TOp.callB (CallAs.func ent35 rfl rfl) (Bors.cons (Bor.agg (bP (bP (Bors.cons (Bor.own (f := f32) (fun _ => rfl) rfl rfl) bN)))) bN) rfl rfl (K0k_ok a0 a1 a2 r1 hf1)) hc2)<|yl rfl (b false) y1<|zN ?_
  refine yF<|RunC.skip<|zQ<|yl rfl (agg (oXc a0 a1 0 0 a2.length)) (yL agg27 siz27)<|ys (agg (oXc a0 a1 0 0 a2.length)) (oXc a0 a1 0 0 a2.length) [oF 0 a2, ⟨1, some (oXc a0 a1 0 0 a2.length)⟩, o0] siz27<|ya rfl (b true)<|zN ?_
  cases oI h
 ·refine yW<|yl rfl (agg (oXc a0 a1 0 0 a2.length)) (yL agg27 siz27)<|yd rfl (b false) (TOp.eqb (TOp.callB (CallAs.func ent35 rfl rfl) (Bors.cons (Bor.agg (bP (bP (Bors.cons (Bor.own (f := f32) (fun _ => rfl) rfl rfl) bN)))) bN) rfl rfl (K0k_ok a0 a1 a2 r1 hf1)) hc2)<|yl rfl (b true) y0<|zN ?_
  refine yT<|zQ<|yl rfl (agg zMx) (LOp.build (qs := []) zer27 zok27 und27 plc27 rfl trivial rfl)<|ys (agg zMx) zMx [oF 0 a2, ⟨1, some zMx⟩, o0] siz27<|ya rfl (b false)<|zN ?_
  refine RunC.nil_cell (l' := [i64 0, i64 0, oref 2 1 0 0]) (Γ' := [oF 0 a2, ⟨1, some [i64 0, i64 0, oref 2 1 0 0]⟩, ⟨1, some (([] : List F).map f32)⟩]) 1 2 2 rfl rfl rfl rfl rfl<|RunC.ret ?_
  have hq := oI h
  have hq := Sum.inr.inj hq
  obtain ⟨hq0, hq⟩ := Prod.mk.inj hq
  obtain ⟨hq1, hq⟩ := Prod.mk.inj hq
  obtain ⟨hq2, hq⟩ := Prod.mk.inj hq
  obtain ⟨hq3, hq⟩ := Prod.mk.inj hq
  subst q0
  subst q1
  subst q2
  subst q3
  subst q4
  exact yB (tup [agg [i64 0, i64 0, oref 2 1 0 (([] : List F).length)], b false]) [(0, 0), (2, 1)] (Res.eq (Res.two rfl (RV.cell agg27 siz27 rfl rfl rfl rfl) (RV.tmp rfl)) (by first | rfl | (rw [(show ([] : List F).length = 0 from rfl)] <;> rfl))) (SelL.arr (f := f32) (fun _ => rfl) rfl (sA rfl trivial))
def K1p_b1 (a0 : Int) (a1 : Int) (a2 : List F) (a3 : List Int) (r2 : Int) (r3 : Int) (r4 : List F) (L5 : List F) (v7 : Int) : Option (LR ((List F) × Int) ((List F)) (Int × Int × Bool × (List F))) :=
 bsel (decide (v7 < a0)) (
  obind3 (K1i a0) fun (r13 : Int) (r14 : Int) (r15 : List F) =>
  obind (K1j r13 r14 r15 v7) fun (r16 : List F) =>
  obind (K1m a0 a1 a2 a3 r16) fun (r17 : List F) =>
  obind (K1n r2 r3 v7 r17 L5) fun (r18 : List F) =>
  need (decide (r18.length = r4.length)) <|
  olet (IntKind.i64.wrap (v7 + 1)) fun (x19 : Int) =>
  some (LR.next (r18, x19))) (
  some (LR.out L5))
def K1p_s1 (a0 : Int) (a1 : Int) (a2 : List F) (a3 : List Int) (r2 : Int) (r3 : Int) (r4 : List F) : ((List F) × Int) → Option (LR ((List F) × Int) ((List F)) (Int × Int × Bool × (List F))) := fun s => K1p_b1 a0 a1 a2 a3 r2 r3 r4 s.1 s.2
def K1p_k1 (r2 : Int) (r3 : Int) (r4 : List F) (L20 : List F) : Option (Int × Int × Bool × (List F)) :=
 obind (K1o r2 r3 L20) (fun z => osum z (fun y => obind4 (some y) fun (r22 : Int) (r23 : Int) (r24 : Bool) (r25 : List F) =>
  need (decide (r25.length = r4.length)) <|
  some (r22, r23, r24, r25)) (fun y => obind5 (some y) fun (r26 : Int) (r27 : Int) (r28 : Bool) (r29 : List F) (r30 : List F) =>
  need (decide (r29.length = r4.length)) <|
  some (r26, r27, r28, r30)))
def K1p (a0 : Int) (a1 : Int) (a2 : List F) (a3 : List Int) : Option (Int × Int × Bool × (List F)) :=
 obind (K1e a0 a1 a2 a3) fun (r1 : Bool) =>
 bsel r1 (
  obind3 (K1f a0 a0) fun (r2 : Int) (r3 : Int) (r4 : List F) =>
  obind (loopM (K1p_s1 a0 a1 a2 a3 r2 r3 r4) (r4, 0)) fun z => osum z (fun e => K1p_k1 r2 r3 r4 e) (fun r => some r)) (
  some (0, 0, false, ([] : List F)))
theorem K1p_ok (a0 : Int) (a1 : Int) (a2 : List F) (a3 : List Int) (q0 : Int) (q1 : Int) (q2 : Bool) (q3 : List F) (h : K1p a0 a1 a2 a3 = some (q0, q1, q2, q3)) : Ev Tryz.prog 26 [agg [i64 a0, i64 a1, (sFc a2), sl a3.length (a3.map i64)]] [] (tup [agg (oXc q0 q1 0 0 q3.length), b q2]) [oF 0 q3] := by
 refine yE Tryz.func26 4 71 0 ([(0, agg [i64 a0, i64 a1, (sFc a2), sl a3.length (a3.map i64)])]) [o0, o0, o0, o0] rfl ?_
 unfold K1p at h
 refine zQ<|yd rfl (ptr [i64 a0, i64 a1, (sFc a2), sl a3.length (a3.map i64)]) (TOp.box_s rfl rfl rfl)<|ye rfl (optr 0 1 0) [⟨1, some zMx⟩, o0, o0, o0] (TOp.alloc_o (g := o0) 0 rfl zer27 zok27 rfl)<|ya rfl (b false)<|zN ?_
 refine yS<|yS ?_
 obtain ⟨r1, hf1, h⟩ := oS h
 rcases oB h with ⟨hc2, h⟩ | ⟨hc2, h⟩
 ·refine yW<|yl rfl (agg [i64 a0, i64 a1, (sFc a2), sl a3.length (a3.map i64)]) (yL agg41 siz41)<|yd rfl (b true) (TOp.eqb (TOp.callB (CallAs.func ent56 rfl rfl) (Bors.cons (Bor.agg (bP (bP (bS (bS bN))))) bN) rfl rfl (K1e_ok a0 a1 a2 a3 r1 hf1)) hc2)<|yl rfl (b false) y1<|zN ?_
  refine yF<|RunC.skip<|zQ<|yl rfl (ptr [i64 a0, i64 a1, (sFc a2), sl a3.length (a3.map i64)]) (LOp.fap und41 rfl siz27 rfl rfl rfl)<|yl rfl (ptr [i64 a0, i64 a1, (sFc a2), sl a3.length (a3.map i64)]) (LOp.fap und27 rfl siz2 rfl rfl rfl)<|yl rfl (i64 a0) (y2 agg2)<|ya rfl (i64 a0)<|zN ?_
  refine yS ?_
  obtain ⟨r2, r3, r4, hf3, h⟩ := obind3_some h
  refine yW<|ym rfl (i64 a0)<|ym rfl (i64 a0)<|ye rfl (agg (oXc r2 r3 1 1 r4.length)) [⟨1, some zMx⟩, oF 1 r4, o0, o0] (TOp.callBN (ls := [(r4.map f32)]) [1] (CallAs.func ent64 rfl rfl) (bP bN0) rfl (K1f_ok a0 a0 r2 r3 r4 hf3) (and_all (lts0_map (f := f32) (fun _ => rfl) _) rfl) (and_all (noss_map (f := f32) (fun _ => rfl) _) rfl) rfl (by decide) (ns_of ⟨⟨_, rfl⟩, trivial⟩))<|ye rfl (optr 2 1 0) [⟨1, some zMx⟩, oF 1 r4, ⟨1, some zMx⟩, o0] (TOp.alloc_o (g := o0) 2 rfl zer27 zok27 rfl)<|ys (agg (oXc r2 r3 1 1 r4.length)) (oXc r2 r3 1 1 r4.length) [⟨1, some zMx⟩, oF 1 r4, ⟨1, some (oXc r2 r3 1 1 r4.length)⟩, o0] siz27<|zN ?_
  refine yS<|zQ<|ym rfl (i64 a0)<|ym rfl (i64 0)<|zN ?_
  obtain ⟨z2, hz_2, h⟩ := oS h
  refine RunC.cutN (fun τ Γ => ∃ (L20 : List F), L20.length = r4.length ∧ WeakLe τ [(2, optr 0 1 0), (5, optr 2 1 0)] ∧ DeadLe Γ [⟨1, some zMx⟩, oF 1 L20, ⟨1, some (oXc r2 r3 1 1 r4.length)⟩, o0] ∧ z2 = .inl L20) ?_ ?_
  ·refine RunC.block (RunC.loop (RunL.loopM (x := z2) (K1p_s1 a0 a1 a2 a3 r2 r3 r4) (fun (s : (List F) × Int) τ Γ => s.1.length = r4.length ∧ WeakLe τ [(1, ptr [i64 a0, i64 a1, (sFc a2), sl a3.length (a3.map i64)]), (2, optr 0 1 0), (4, i64 a0), (5, optr 2 1 0), (17, i64 a0), (18, i64 s.2)] ∧ DeadLe Γ [⟨1, some zMx⟩, ⟨1, some (s.1.map f32)⟩, ⟨1, some (oXc r2 r3 1 1 r4.length)⟩, o0]) ?_ _ _ _ hz_2 ⟨rfl, ⟨aR, aR, aR, aR, aR, aR, trivial⟩, ⟨⟨rfl, .inr rfl⟩, ⟨rfl, .inr rfl⟩, ⟨rfl, .inr rfl⟩, ⟨rfl, .inr rfl⟩, trivial⟩⟩))
   rintro ⟨L5, v7⟩ τ2 Γ2 y2_ ⟨hl6, hw2, hd2⟩ h2_ ho2 hr2
   refine RunC.wl (τ' := [(1, ptr [i64 a0, i64 a1, (sFc a2), sl a3.length (a3.map i64)]), (2, optr 0 1 0), (4, i64 a0), (5, optr 2 1 0), (17, i64 a0), (18, i64 v7)]) (Γ' := [⟨1, some zMx⟩, oF 1 L5, ⟨1, some (oXc r2 r3 1 1 r4.length)⟩, o0]) hw2 hd2 ?_
   replace hl6 : L5.length = r4.length := hl6
   replace h2_ : K1p_b1 a0 a1 a2 a3 r2 r3 r4 L5 v7 = some y2_ := h2_
   unfold K1p_b1 at h2_
   refine yS ?_
   rcases oB h2_ with ⟨hc4, h2_⟩ | ⟨hc4, h2_⟩
   ·refine yW<|yl rfl (b true) (LOp.eqb (LOp.lss rfl rfl rfl) hc4)<|zN ?_
    refine yS<|yT<|RunC.skip<|yS<|RunC.block<|zQ<|ym rfl (i64 v7)<|ya rfl (i64 v7)<|zN ?_
    obtain ⟨r13, r14, r15, hf8, h2_⟩ := obind3_some h2_
    obtain ⟨r16, hf9, h2_⟩ := oS h2_
    obtain ⟨r17, hf10, h2_⟩ := oS h2_
    obtain ⟨r18, hf11, h2_⟩ := oS h2_
    obtain ⟨hn12, h2_⟩ := need_some h2_
    refine RunC.region_draw (Γ' := [⟨1, some zMx⟩, oF 1 L5, ⟨1, some (oXc r2 r3 1 1 r4.length)⟩, o0]) 8 mixed 
     (TR.d (r := agg (oXc r2 r3 1 1 r4.length)) (fs := []) rfl rfl (yA agg27 siz27) <|
     (tm rfl (i64 v7) <|
     (tl rfl (agg [i64 a0, i64 a1, (sFc a2), sl a3.length (a3.map i64)]) (yL agg41 siz41) <|
     (tm rfl (i64 a0) <|
     (TR.d (r := agg (mXc r13 r14 r15)) (fs := []) rfl rfl (TOp.callS (CallAs.func ent67 rfl rfl) (ALes.cons aR ALes.nil) (lts_cons rfl lts_nil) (lt_agg (lts_cons rfl (lts_cons rfl (lts_cons (lt_sl (fun _ => rfl)) lts_nil)))) (K1i_ok a0 r13 r14 r15 hf8) (Bor.agg (bP (bP (Bors.cons (Bor.own (f := f32) (fun _ => rfl) rfl rfl) bN))))) <|
     (tm rfl (i64 v7) <|
     (TR.d (r := (sFc r16)) (fs := []) rfl rfl (TOp.callS (CallAs.func ent68 rfl rfl) (ALes.cons aR (ALes.cons aR ALes.nil)) (lts_cons (lt_agg (lts_cons rfl (lts_cons rfl (lts_cons (lt_sl (fun _ => rfl)) lts_nil)))) (lts_cons rfl lts_nil)) (lt_sl (fun _ => rfl)) (K1j_ok r13 r14 r15 v7 r16 hf9) (Bor.own (f := f32) (fun _ => rfl) rfl rfl)) <|
     (TR.d (r := (sFc r17)) (fs := []) rfl rfl (TOp.callS (CallAs.func ent66 rfl rfl) (ALes.cons aR (ALes.cons aR ALes.nil)) (lts_cons (lt_agg (lts_cons rfl (lts_cons rfl (lts_cons (lt_sl (fun _ => rfl)) (lts_cons (lt_sl (fun _ => rfl)) lts_nil))))) (lts_cons (lt_sl (fun _ => rfl)) lts_nil)) (lt_sl (fun _ => rfl)) (K1m_ok a0 a1 a2 a3 r16 r17 hf10) (Bor.own (f := f32) (fun _ => rfl) rfl rfl)) <|
     TR.nil)))))))) rfl (by kernel_rfl) rfl fills_nil rfl ?_
    iterate 8 refine ROps.dropS ?_
    refine ROps.drop0<|ROps.callO (A := [agg (oXc r2 r3 1 1 r4.length), i64 v7, (sFc r17)]) (args := [agg (oXc r2 r3 0 0 L5.length), i64 v7, (sFc r17)]) (Γc := [oF 0 L5]) (Γc' := [oF 0 r18]) (r' := tup []) (Γ' := [⟨1, some zMx⟩, oF 1 r18, ⟨1, some (oXc r2 r3 1 1 r4.length)⟩, o0]) [(1, 1)] [] rfl (CallAs.func ent65 rfl rfl) rfl rfl (SelOk.of (ndB_ok rfl) (sA rfl trivial)) (live_of ⟨⟨_, _, rfl⟩, trivial⟩) (by simp [ren, rens, sigma, rens_f32, rens_f64, rens_i64, rens_ik, rens_str, rens_cp, hl6]) (lts_cons rfl (lts_cons rfl (lts_cons (lt_slk (fun _ => rfl)) lts_nil))) (K1n_ok r2 r3 v7 r17 L5 r18 hf11) rfl (news_of trivial) (ndB_ok rfl) (by simp [ren, rens, sigma, of_decide_eq_true hn12]) (by simp [backOb, sigma, ren, rens, rens_f32, rens_f64, rens_i64, rens_ik, rens_str, rens_cp] <;> omega)<|zN ?_
    obtain ⟨x19, hx13, h2_⟩ := oL h2_
    refine yW<|yl rfl (i64 x19) (LOp.eqr (LOp.add rfl rfl rfl) (congrArg (ik .i64) hx13))<|ym rfl (i64 x19)<|zN ?_
    cases oI h2_
    exact ⟨_, rfl, (of_decide_eq_true hn12), ⟨aR, aR, aR, aR, aR, aR, trivial⟩, ⟨⟨rfl, .inr rfl⟩, ⟨rfl, .inr rfl⟩, ⟨rfl, .inr rfl⟩, ⟨rfl, .inr rfl⟩, trivial⟩⟩
   ·refine yW<|yl rfl (b false) (LOp.eqb (LOp.lss rfl rfl rfl) hc4)<|zN ?_
    refine yS<|yF<|RunC.exit ?_
    cases oI h2_
    have hx := ho2 _ rfl
    exact ⟨L5, hl6, ⟨aR, aR, trivial⟩, ⟨⟨rfl, .inr rfl⟩, ⟨rfl, .inr rfl⟩, ⟨rfl, .inr rfl⟩, ⟨rfl, .inr rfl⟩, trivial⟩, hx⟩
  ·rintro τ3 Γ3 ⟨L20, hl21, hw3, hd3, rfl⟩
   refine RunC.wl hw3 hd3 ?_
   replace h : K1p_k1 r2 r3 r4 L20 = some (q0, q1, q2, q3) := h
   unfold K1p_k1 at h
   refine yS ?_
   obtain ⟨z4, hf14, h⟩ := oS h
   rcases z4 with z4 | z4
   ·replace h := (osum_inl _ _ _).symm.trans h
    obtain ⟨r22, r23, r24, r25, hz5, h⟩ := obind4_some h
    cases hz5
    obtain ⟨hn15, h⟩ := need_some h
    refine yW<|yd rfl (agg (oXc r2 r3 1 1 r4.length)) (yA agg27 siz27)<|ROps.callO (A := [agg (oXc r2 r3 1 1 r4.length)]) (args := [agg (oXc r2 r3 0 0 L20.length)]) (Γc := [oF 0 L20]) (Γc' := [oF 0 r25]) (r' := tup [agg (oXc r22 r23 1 1 r4.length), b r24]) (Γ' := [⟨1, some zMx⟩, oF 1 r25, ⟨1, some (oXc r2 r3 1 1 r4.length)⟩, o0]) [(1, 1)] [] rfl (CallAs.func ent69 rfl rfl) rfl rfl (SelOk.of (ndB_ok rfl) (sA rfl trivial)) (live_of ⟨⟨_, _, rfl⟩, trivial⟩) (by simp [ren, rens, sigma, rens_f32, rens_f64, rens_i64, rens_ik, rens_str, rens_cp, hl21]) rfl (K1o_ok0 r2 r3 L20 r22 r23 r24 r25 hf14) rfl (news_of trivial) (ndB_ok rfl) (by simp [ren, rens, sigma, of_decide_eq_true hn15]) (by simp [backOb, sigma, ren, rens, rens_f32, rens_f64, rens_i64, rens_ik, rens_str, rens_cp] <;> omega)<|yl rfl (agg (oXc r22 r23 1 1 r4.length)) y3<|yl rfl (b r24) y3<|ys (agg (oXc r22 r23 1 1 r4.length)) (oXc r22 r23 1 1 r4.length) [⟨1, some (oXc r22 r23 1 1 r4.length)⟩, oF 1 r25, ⟨1, some (oXc r2 r3 1 1 r4.length)⟩, o0] siz27<|ya rfl (b r24)<|zN ?_
    refine RunC.ret ?_
    have hq := oI h
    obtain ⟨hq0, hq⟩ := Prod.mk.inj hq
    obtain ⟨hq1, hq⟩ := Prod.mk.inj hq
    obtain ⟨hq2, hq⟩ := Prod.mk.inj hq
    subst q0
    subst q1
    subst q2
    subst q3
    exact yB (tup [agg (oXc r22 r23 1 1 r25.length), b r24]) [(1, 1)] (Res.eq (Res.two rfl (RV.cell agg27 siz27 rfl rfl rfl rfl) (RV.tmp rfl)) (by first | rfl | (rw [(show r25.length = r4.length from (of_decide_eq_true hn15))] <;> rfl))) (sA rfl trivial)
   ·replace h := (osum_inr _ _ _).symm.trans h
    obtain ⟨r26, r27, r28, r29, r30, hz6, h⟩ := obind5_some h
    cases hz6
    obtain ⟨hn16, h⟩ := need_some h
    refine yW<|yd rfl (agg (oXc r2 r3 1 1 r4.length)) (yA agg27 siz27)<|ROps.callO (A := [agg (oXc r2 r3 1 1 r4.length)]) (args := [agg (oXc r2 r3 0 0 L20.length)]) (Γc := [oF 0 L20]) (Γc' := [oF 0 r29, oF 0 r30]) (r' := tup [agg (oXc r26 r27 3 1 r30.length), b r28]) (Γ' := [⟨1, some zMx⟩, oF 1 r29, ⟨1, some (oXc r2 r3 1 1 r4.length)⟩, oF 1 r30]) [(1, 1)] [(3, 1)] rfl (CallAs.func ent69 rfl rfl) rfl rfl (SelOk.of (ndB_ok rfl) (sA rfl trivial)) (live_of ⟨⟨_, _, rfl⟩, trivial⟩) (by simp [ren, rens, sigma, rens_f32, rens_f64, rens_i64, rens_ik, rens_str, rens_cp, hl21]) rfl (K1o_ok1 r2 r3 L20 r26 r27 r28 r29 r30 hf14) rfl (news_of ⟨⟨_, rfl, rfl⟩, trivial⟩) (show List.Nodup [1, 3] from by decide) (by simp [ren, rens, sigma, of_decide_eq_true hn16]) (by simp [backOb, sigma, ren, rens, rens_f32, rens_f64, rens_i64, rens_ik, rens_str, rens_cp] <;> omega)<|yl rfl (agg (oXc r26 r27 3 1 r30.length)) y3<|yl rfl (b r28) y3<|ys (agg (oXc r26 r27 3 1 r30.length)) (oXc r26 r27 3 1 r30.length) [⟨1, some (oXc r26 r27 3 1 r30.length)⟩, oF 1 r29, ⟨1, some (oXc r2 r3 1 1 r4.length)⟩, oF 1 r30] siz27<|ya rfl (b r28)<|zN ?_
    refine RunC.ret ?_
    have hq := oI h
    obtain ⟨hq0, hq⟩ := Prod.mk.inj hq
    obtain ⟨hq1, hq⟩ := Prod.mk.inj hq
    obtain ⟨hq2, hq⟩ := Prod.mk.inj hq
    subst q0
    subst q1
    subst q2
    subst q3
    exact yB (tup [agg (oXc r26 r27 3 1 r30.length), b r28]) [(3, 1)] (Res.two rfl (RV.cell agg27 siz27 rfl rfl rfl rfl) (RV.tmp rfl)) (sA rfl trivial)
 ·refine yW<|yl rfl (agg [i64 a0, i64 a1, (sFc a2), sl a3.length (a3.map i64)]) (yL agg41 siz41)<|yd rfl (b false) (TOp.eqb (TOp.callB (CallAs.func ent56 rfl rfl) (Bors.cons (Bor.agg (bP (bP (bS (bS bN))))) bN) rfl rfl (K1e_ok a0 a1 a2 a3 r1 hf1)) hc2)<|yl rfl (b true) y0<|zN ?_
  refine yT<|zQ<|yl rfl (agg zMx) (LOp.build (qs := []) zer27 zok27 und27 plc27 rfl trivial rfl)<|ys (agg zMx) zMx [⟨1, some zMx⟩, o0, o0, o0] siz27<|ya rfl (b false)<|zN ?_
  refine RunC.nil_cell (l' := [i64 0, i64 0, oref 1 1 0 0]) (Γ' := [⟨1, some [i64 0, i64 0, oref 1 1 0 0]⟩, ⟨1, some (([] : List F).map f32)⟩, o0, o0]) 0 2 1 rfl rfl rfl rfl rfl<|RunC.ret ?_
  have hq := oI h
  obtain ⟨hq0, hq⟩ := Prod.mk.inj hq
  obtain ⟨hq1, hq⟩ := Prod.mk.inj hq
  obtain ⟨hq2, hq⟩ := Prod.mk.inj hq
  subst q0
  subst q1
  subst q2
  subst q3
  exact yB (tup [agg [i64 0, i64 0, oref 1 1 0 (([] : List F).length)], b false]) [(1, 1)] (Res.eq (Res.two rfl (RV.cell agg27 siz27 rfl rfl rfl rfl) (RV.tmp rfl)) (by first | rfl | (rw [(show ([] : List F).length = 0 from rfl)] <;> rfl))) (sA rfl trivial)
def K1q (a0 : Int) (a1 : Int) (a2 : Int) (a3 : Int) (a4 : List F) : Option (F) :=
 obind (K0p a2 a3 a4 a1 a0) fun (r1 : F) =>
 some r1
theorem K1q_ok (a0 : Int) (a1 : Int) (a2 : Int) (a3 : Int) (a4 : List F) (q0 : F) (h : K1q a0 a1 a2 a3 a4 = some q0) : Ev Tryz.prog 96 [i64 a0, i64 a1, ptr (mXc a2 a3 a4)] [] (f32 q0) [] := by
 refine yE Tryz.func96 0 21 0 [(0, i64 a0), (1, i64 a1), (2, ptr (mXc a2 a3 a4))] [] rfl ?_
 unfold K1q at h
 refine zQ<|yl rfl (f32 (some 0)) (LOp.le (LOp.assign rfl rfl) (ALe.fl (by kernel_rfl) (by kernel_rfl)))<|zN ?_
 refine yS ?_
 obtain ⟨r1, hf1, h⟩ := oS h
 refine yW<|yl rfl (agg (mXc a2 a3 a4)) (yL agg27 siz27)<|ym rfl (i64 a1)<|ym rfl (i64 a0)<|yd rfl (f32 r1) (TOp.callB (CallAs.func ent46 rfl rfl) (Bors.cons (Bor.agg (bP (bP (bS bN)))) (bP bN0)) rfl rfl (K0p_ok a2 a3 a4 a1 a0 r1 hf1))<|ya rfl (f32 r1)<|zN ?_
 refine RunC.ret ?_
 have hq := oI h
 subst q0
 exact bR rfl
def K1r_b2 (a1 : Int) (a2 : Int) (a3 : Int) (a4 : List F) (r1 : Int) (r2 : Int) (r3 : List F) (v6 : Int) (L7 : List F) (v9 : Int) : Option (LR ((List F) × Int) ((List F)) (Int × Int × (List F))) :=
 bsel (decide (v9 < a1)) (
  obind (K1q v6 v9 a2 a3 a4) fun (r11 : F) =>
  obind (K0r r1 r2 v6 v9 r11 L7) fun (r12 : List F) =>
  need (decide (r12.length = r3.length)) <|
  olet (IntKind.i64.wrap (v9 + 1)) fun (x13 : Int) =>
  some (LR.next (r12, x13))) (
  some (LR.out L7))
def K1r_s2 (a1 : Int) (a2 : Int) (a3 : Int) (a4 : List F) (r1 : Int) (r2 : Int) (r3 : List F) (v6 : Int) : ((List F) × Int) → Option (LR ((List F) × Int) ((List F)) (Int × Int × (List F))) := fun s => K1r_b2 a1 a2 a3 a4 r1 r2 r3 v6 s.1 s.2
def K1r_k2 (v6 : Int) (L14 : List F) : Option (LR ((List F) × Int) ((List F)) (Int × Int × (List F))) :=
 olet (IntKind.i64.wrap (v6 + 1)) fun (x16 : Int) =>
 some (LR.next (L14, x16))
def K1r_b3 (a0 : Int) (a1 : Int) (a2 : Int) (a3 : Int) (a4 : List F) (r1 : Int) (r2 : Int) (r3 : List F) (L4 : List F) (v6 : Int) : Option (LR ((List F) × Int) ((List F)) (Int × Int × (List F))) :=
 bsel (decide (v6 < a0)) (
  obind (loopM (K1r_s2 a1 a2 a3 a4 r1 r2 r3 v6) (L4, 0)) fun z => osum z (fun e => K1r_k2 v6 e) (fun r => some (LR.ret r))) (
  some (LR.out L4))
def K1r_s3 (a0 : Int) (a1 : Int) (a2 : Int) (a3 : Int) (a4 : List F) (r1 : Int) (r2 : Int) (r3 : List F) : ((List F) × Int) → Option (LR ((List F) × Int) ((List F)) (Int × Int × (List F))) := fun s => K1r_b3 a0 a1 a2 a3 a4 r1 r2 r3 s.1 s.2
def K1r_k3 (r1 : Int) (r2 : Int) (L17 : List F) : Option (Int × Int × (List F)) :=
 some (r1, r2, L17)
def K1r (a0 : Int) (a1 : Int) (a2 : Int) (a3 : Int) (a4 : List F) : Option (Int × Int × (List F)) :=
 obind3 (K1f a0 a1) fun (r1 : Int) (r2 : Int) (r3 : List F) =>
 obind (loopM (K1r_s3 a0 a1 a2 a3 a4 r1 r2 r3) (r3, 0)) fun z => osum z (fun e => K1r_k3 r1 r2 e) (fun r => some r)
theorem K1r_ok (a0 : Int) (a1 : Int) (a2 : Int) (a3 : Int) (a4 : List F) (q0 : Int) (q1 : Int) (q2 : List F) (h : K1r a0 a1 a2 a3 a4 = some (q0, q1, q2)) : Ev Tryz.prog 57 [i64 a0, i64 a1, fn (.func 96) [] [ptr (mXc a2 a3 a4)]] [] (agg (oXc q0 q1 0 0 q2.length)) [oF 0 q2] := by
 refine yE Tryz.func57 3 65 0 ([(0, i64 a0), (1, i64 a1), (2, fn (.func 96) [] [ptr (mXc a2 a3 a4)])]) [o0, o0, o0] rfl ?_
 unfold K1r at h
 refine zQ<|ye rfl (optr 0 1 0) [⟨1, some zMx⟩, o0, o0] (TOp.alloc_o (g := o0) 0 rfl zer27 zok27 rfl)<|zN ?_
 refine yS ?_
 obtain ⟨r1, r2, r3, hf1, h⟩ := obind3_some h
 refine yW<|ym rfl (i64 a0)<|ym rfl (i64 a1)<|ye rfl (agg (oXc r1 r2 1 1 r3.length)) [⟨1, some zMx⟩, oF 1 r3, o0] (TOp.callBN (ls := [(r3.map f32)]) [1] (CallAs.func ent64 rfl rfl) (bP bN0) rfl (K1f_ok a0 a1 r1 r2 r3 hf1) (and_all (lts0_map (f := f32) (fun _ => rfl) _) rfl) (and_all (noss_map (f := f32) (fun _ => rfl) _) rfl) rfl (by decide) (ns_of ⟨⟨_, rfl⟩, trivial⟩))<|ye rfl (optr 2 1 0) [⟨1, some zMx⟩, oF 1 r3, ⟨1, some zMx⟩] (TOp.alloc_o (g := o0) 2 rfl zer27 zok27 rfl)<|ys (agg (oXc r1 r2 1 1 r3.length)) (oXc r1 r2 1 1 r3.length) [⟨1, some zMx⟩, oF 1 r3, ⟨1, some (oXc r1 r2 1 1 r3.length)⟩] siz27<|zN ?_
 refine yS<|zQ<|ym rfl (i64 a0)<|ym rfl (i64 0)<|zN ?_
 obtain ⟨z4, hz_4, h⟩ := oS h
 refine RunC.cutN (fun τ Γ => ∃ (L17 : List F), L17.length = r3.length ∧ WeakLe τ [(6, optr 0 1 0), (7, optr 2 1 0)] ∧ DeadLe Γ [⟨1, some zMx⟩, oF 1 L17, ⟨1, some (oXc r1 r2 1 1 r3.length)⟩] ∧ z4 = .inl L17) ?_ ?_
 ·refine RunC.block (RunC.loop (RunL.loopM (x := z4) (K1r_s3 a0 a1 a2 a3 a4 r1 r2 r3) (fun (s : (List F) × Int) τ Γ => s.1.length = r3.length ∧ WeakLe τ [(1, i64 a1), (2, fn (.func 96) [] [ptr (mXc a2 a3 a4)]), (6, optr 0 1 0), (7, optr 2 1 0), (13, i64 a0), (14, i64 s.2)] ∧ DeadLe Γ [⟨1, some zMx⟩, ⟨1, some (s.1.map f32)⟩, ⟨1, some (oXc r1 r2 1 1 r3.length)⟩]) ?_ _ _ _ hz_4 ⟨rfl, ⟨aR, aR, aR, aR, aR, aR, trivial⟩, ⟨⟨rfl, .inr rfl⟩, ⟨rfl, .inr rfl⟩, ⟨rfl, .inr rfl⟩, trivial⟩⟩))
  rintro ⟨L4, v6⟩ τ4 Γ4 y4_ ⟨hl5, hw4, hd4⟩ h4_ ho4 hr4
  refine RunC.wl (τ' := [(1, i64 a1), (2, fn (.func 96) [] [ptr (mXc a2 a3 a4)]), (6, optr 0 1 0), (7, optr 2 1 0), (13, i64 a0), (14, i64 v6)]) (Γ' := [⟨1, some zMx⟩, oF 1 L4, ⟨1, some (oXc r1 r2 1 1 r3.length)⟩]) hw4 hd4 ?_
  replace hl5 : L4.length = r3.length := hl5
  replace h4_ : K1r_b3 a0 a1 a2 a3 a4 r1 r2 r3 L4 v6 = some y4_ := h4_
  unfold K1r_b3 at h4_
  refine yS ?_
  rcases oB h4_ with ⟨hc2, h4_⟩ | ⟨hc2, h4_⟩
  ·refine yW<|yl rfl (b true) (LOp.eqb (LOp.lss rfl rfl rfl) hc2)<|zN ?_
   refine yS<|yT<|RunC.skip<|yS<|RunC.block<|zQ<|ym rfl (i64 v6)<|ya rfl (i64 v6)<|zN ?_
   refine zQ<|ym rfl (i64 a1)<|ym rfl (i64 0)<|zN ?_
   obtain ⟨z5, hz_5, h4_⟩ := oS h4_
   refine RunC.cutN (fun τ Γ => ∃ (L14 : List F), L14.length = r3.length ∧ WeakLe τ [(1, i64 a1), (2, fn (.func 96) [] [ptr (mXc a2 a3 a4)]), (6, optr 0 1 0), (7, optr 2 1 0), (13, i64 a0), (14, i64 v6)] ∧ DeadLe Γ [⟨1, some zMx⟩, oF 1 L14, ⟨1, some (oXc r1 r2 1 1 r3.length)⟩] ∧ z5 = .inl L14) ?_ ?_
   ·refine RunC.block (RunC.loop (RunL.loopM (x := z5) (K1r_s2 a1 a2 a3 a4 r1 r2 r3 v6) (fun (s : (List F) × Int) τ Γ => s.1.length = r3.length ∧ WeakLe τ [(1, i64 a1), (2, fn (.func 96) [] [ptr (mXc a2 a3 a4)]), (6, optr 0 1 0), (7, optr 2 1 0), (8, i64 v6), (13, i64 a0), (14, i64 v6), (17, i64 a1), (18, i64 s.2)] ∧ DeadLe Γ [⟨1, some zMx⟩, ⟨1, some (s.1.map f32)⟩, ⟨1, some (oXc r1 r2 1 1 r3.length)⟩]) ?_ _ _ _ hz_5 ⟨hl5, ⟨aR, aR, aR, aR, aR, aR, aR, aR, aR, trivial⟩, ⟨⟨rfl, .inr rfl⟩, ⟨rfl, .inr rfl⟩, ⟨rfl, .inr rfl⟩, trivial⟩⟩))
    rintro ⟨L7, v9⟩ τ5 Γ5 y5_ ⟨hl8, hw5, hd5⟩ h5_ ho5 hr5
    refine RunC.wl (τ' := [(1, i64 a1), (2, fn (.func 96) [] [ptr (mXc a2 a3 a4)]), (6, optr 0 1 0), (7, optr 2 1 0), (8, i64 v6), (13, i64 a0), (14, i64 v6), (17, i64 a1), (18, i64 v9)]) (Γ' := [⟨1, some zMx⟩, oF 1 L7, ⟨1, some (oXc r1 r2 1 1 r3.length)⟩]) hw5 hd5 ?_
    replace hl8 : L7.length = r3.length := hl8
    replace h5_ : K1r_b2 a1 a2 a3 a4 r1 r2 r3 v6 L7 v9 = some y5_ := h5_
    unfold K1r_b2 at h5_
    refine yS ?_
    rcases oB h5_ with ⟨hc3, h5_⟩ | ⟨hc3, h5_⟩
    ·refine yW<|yl rfl (b true) (LOp.eqb (LOp.lss rfl rfl rfl) hc3)<|zN ?_
     refine yS<|yT<|RunC.skip<|yS<|RunC.block<|zQ<|ym rfl (i64 v9)<|ya rfl (i64 v9)<|zN ?_
     obtain ⟨r11, hf5, h5_⟩ := oS h5_
     obtain ⟨r12, hf6, h5_⟩ := oS h5_
     obtain ⟨hn7, h5_⟩ := need_some h5_
     refine RunC.region_draw (Γ' := [⟨1, some zMx⟩, oF 1 L7, ⟨1, some (oXc r1 r2 1 1 r3.length)⟩]) 7 mixed 
      (TR.d (r := agg (oXc r1 r2 1 1 r3.length)) (fs := []) rfl rfl (yA agg27 siz27) <|
      (tm rfl (i64 v6) <|
      (tm rfl (i64 v9) <|
      (tm rfl (fn (.func 96) [] [ptr (mXc a2 a3 a4)]) <|
      (tm rfl (i64 v6) <|
      (tm rfl (i64 v9) <|
      (TR.d (r := f32 r11) (fs := []) rfl rfl (TOp.callB (CallAs.fn ent96 rfl rfl rfl rfl) (bP (bP (Bors.cons (Bor.ptr (bP (bP (bS bN)))) bN))) rfl rfl (K1q_ok v6 v9 a2 a3 a4 r11 hf5)) <|
      TR.nil))))))) rfl (by kernel_rfl) rfl fills_nil rfl ?_
     iterate 7 refine ROps.dropS ?_
     refine ROps.drop0<|ROps.callO (A := [agg (oXc r1 r2 1 1 r3.length), i64 v6, i64 v9, f32 r11]) (args := [agg (oXc r1 r2 0 0 L7.length), i64 v6, i64 v9, f32 r11]) (Γc := [oF 0 L7]) (Γc' := [oF 0 r12]) (r' := tup []) (Γ' := [⟨1, some zMx⟩, oF 1 r12, ⟨1, some (oXc r1 r2 1 1 r3.length)⟩]) [(1, 1)] [] rfl (CallAs.func ent81 rfl rfl) rfl rfl (SelOk.of (ndB_ok rfl) (sA rfl trivial)) (live_of ⟨⟨_, _, rfl⟩, trivial⟩) (by simp [ren, rens, sigma, rens_f32, rens_f64, rens_i64, rens_ik, rens_str, rens_cp, hl8]) rfl (K0r_ok r1 r2 v6 v9 r11 L7 r12 hf6) rfl (news_of trivial) (ndB_ok rfl) (by simp [ren, rens, sigma, of_decide_eq_true hn7]) (by simp [backOb, sigma, ren, rens, rens_f32, rens_f64, rens_i64, rens_ik, rens_str, rens_cp] <;> omega)<|zN ?_
     obtain ⟨x13, hx8, h5_⟩ := oL h5_
     refine yW<|yl rfl (i64 x13) (LOp.eqr (LOp.add rfl rfl rfl) (congrArg (ik .i64) hx8))<|ym rfl (i64 x13)<|zN ?_
     cases oI h5_
     exact ⟨_, rfl, (of_decide_eq_true hn7), ⟨aR, aR, aR, aR, aR, aR, aR, aR, aR, trivial⟩, ⟨⟨rfl, .inr rfl⟩, ⟨rfl, .inr rfl⟩, ⟨rfl, .inr rfl⟩, trivial⟩⟩
    ·refine yW<|yl rfl (b false) (LOp.eqb (LOp.lss rfl rfl rfl) hc3)<|zN ?_
     refine yS<|yF<|RunC.exit ?_
     cases oI h5_
     have hx := ho5 _ rfl
     exact ⟨L7, hl8, ⟨aR, aR, aR, aR, aR, aR, trivial⟩, ⟨⟨rfl, .inr rfl⟩, ⟨rfl, .inr rfl⟩, ⟨rfl, .inr rfl⟩, trivial⟩, hx⟩
   ·rintro τ6 Γ6 ⟨L14, hl15, hw6, hd6, rfl⟩
    refine RunC.wl hw6 hd6 ?_
    replace h4_ : K1r_k2 v6 L14 = some y4_ := h4_
    unfold K1r_k2 at h4_
    obtain ⟨x16, hx9, h4_⟩ := oL h4_
    refine yW<|yl rfl (i64 x16) (LOp.eqr (LOp.add rfl rfl rfl) (congrArg (ik .i64) hx9))<|ym rfl (i64 x16)<|zN ?_
    cases oI h4_
    exact ⟨_, rfl, hl15, ⟨aR, aR, aR, aR, aR, aR, trivial⟩, ⟨⟨rfl, .inr rfl⟩, ⟨rfl, .inr rfl⟩, ⟨rfl, .inr rfl⟩, trivial⟩⟩
  ·refine yW<|yl rfl (b false) (LOp.eqb (LOp.lss rfl rfl rfl) hc2)<|zN ?_
   refine yS<|yF<|RunC.exit ?_
   cases oI h4_
   have hx := ho4 _ rfl
   exact ⟨L4, hl5, ⟨aR, aR, trivial⟩, ⟨⟨rfl, .inr rfl⟩, ⟨rfl, .inr rfl⟩, ⟨rfl, .inr rfl⟩, trivial⟩, hx⟩
 ·rintro τ7 Γ7 ⟨L17, hl18, hw7, hd7, rfl⟩
  refine RunC.wl hw7 hd7 ?_
  replace h : K1r_k3 r1 r2 L17 = some (q0, q1, q2) := h
  unfold K1r_k3 at h
  refine zQ<|yd rfl (agg (oXc r1 r2 1 1 r3.length)) (yA agg27 siz27)<|ys (agg (oXc r1 r2 1 1 r3.length)) (oXc r1 r2 1 1 r3.length) [⟨1, some (oXc r1 r2 1 1 r3.length)⟩, oF 1 L17, ⟨1, some (oXc r1 r2 1 1 r3.length)⟩] siz27<|zN ?_
  refine RunC.ret ?_
  have hq := oI h
  obtain ⟨hq0, hq⟩ := Prod.mk.inj hq
  obtain ⟨hq1, hq⟩ := Prod.mk.inj hq
  subst q0
  subst q1
  subst q2
  exact yB (agg (oXc r1 r2 1 1 L17.length)) [(1, 1)] (Res.eq (Res.one rfl (RV.cell agg27 siz27 rfl rfl rfl rfl)) (by first | rfl | (rw [(show L17.length = r3.length from hl18)] <;> rfl))) (sA rfl trivial)
def K1s (a0 : Int) (a1 : Int) (a2 : List F) : Option (Int × Int × (List F)) :=
 obind3 (K1r a1 a0 a0 a1 a2) fun (r1 : Int) (r2 : Int) (r3 : List F) =>
 some (r1, r2, r3)
theorem K1s_ok (a0 : Int) (a1 : Int) (a2 : List F) (q0 : Int) (q1 : Int) (q2 : List F) (h : K1s a0 a1 a2 = some (q0, q1, q2)) : Ev Tryz.prog 70 [agg (mXc a0 a1 a2)] [] (agg (oXc q0 q1 0 0 q2.length)) [oF 0 q2] := by
 refine yE Tryz.func70 2 19 0 [(0, agg (mXc a0 a1 a2))] [o0, o0] rfl ?_
 unfold K1s at h
 refine zQ<|yd rfl (ptr (mXc a0 a1 a2)) (TOp.box_s rfl rfl rfl)<|ye rfl (optr 0 1 0) [⟨1, some zMx⟩, o0] (TOp.alloc_o (g := o0) 0 rfl zer27 zok27 rfl)<|zN ?_
 refine yS ?_
 obtain ⟨r1, r2, r3, hf1, h⟩ := obind3_some h
 refine yW<|yl rfl (ptr [i64 a1, (sFc a2)]) (LOp.fap und27 rfl siz2 rfl rfl rfl)<|yl rfl (i64 a1) (y2 agg2)<|yl rfl (ptr (mXc a0 a1 a2)) (LOp.fap und27 rfl siz2 rfl rfl rfl)<|yl rfl (i64 a0) (y2 agg2)<|yl rfl (fn (.func 96) [] [ptr (mXc a0 a1 a2)]) (LOp.makeFunc rfl rfl)<|ye rfl (agg (oXc r1 r2 1 1 r3.length)) [⟨1, some zMx⟩, oF 1 r3] (TOp.callBN (ls := [(r3.map f32)]) [1] (CallAs.func ent57 rfl rfl) (bP (bP (Bors.cons (Bor.fn bN (Bors.cons (Bor.ptr (bP (bP (bS bN)))) bN)) bN))) rfl (K1r_ok a1 a0 a0 a1 a2 r1 r2 r3 hf1) (and_all (lts0_map (f := f32) (fun _ => rfl) _) rfl) (and_all (noss_map (f := f32) (fun _ => rfl) _) rfl) rfl (by decide) (ns_of ⟨⟨_, rfl⟩, trivial⟩))<|ys (agg (oXc r1 r2 1 1 r3.length)) (oXc r1 r2 1 1 r3.length) [⟨1, some (oXc r1 r2 1 1 r3.length)⟩, oF 1 r3] siz27<|zN ?_
 refine RunC.ret ?_
 have hq := oI h
 obtain ⟨hq0, hq⟩ := Prod.mk.inj hq
 obtain ⟨hq1, hq⟩ := Prod.mk.inj hq
 subst q0
 subst q1
 subst q2
 exact yB (agg (oXc r1 r2 1 1 r3.length)) [(1, 1)] (Res.one rfl (RV.cell agg27 siz27 rfl rfl rfl rfl)) (sA rfl trivial)
def K1t_b2 (a0 : Int) (a1 : Int) (a2 : List F) (v2 : Int) (y3 : F) (v4 : Int) : Option (LR (F × Int) (F) (F)) :=
 bsel (decide (v4 < a1)) (
  obind (K0p a0 a1 a2 v2 v4) fun (r5 : F) =>
  obind (K0q r5) fun (r6 : F) =>
  olet (fop .add .f32 y3 r6) fun (x7 : F) =>
  olet (IntKind.i64.wrap (v4 + 1)) fun (x8 : Int) =>
  some (LR.next (x7, x8))) (
  some (LR.out y3))
def K1t_s2 (a0 : Int) (a1 : Int) (a2 : List F) (v2 : Int) : (F × Int) → Option (LR (F × Int) (F) (F)) := fun s => K1t_b2 a0 a1 a2 v2 s.1 s.2
def K1t_k2 (y1 : F) (v2 : Int) (y9 : F) : Option (LR (F × Int) (F) (F)) :=
 obind (fmaxN .f32 y1 y9) fun (y10 : F) =>
 olet (IntKind.i64.wrap (v2 + 1)) fun (x11 : Int) =>
 some (LR.next (y10, x11))
def K1t_b3 (a0 : Int) (a1 : Int) (a2 : List F) (y1 : F) (v2 : Int) : Option (LR (F × Int) (F) (F)) :=
 bsel (decide (v2 < a0)) (
  obind (loopM (K1t_s2 a0 a1 a2 v2) (some 0, 0)) fun z => osum z (fun e => K1t_k2 y1 v2 e) (fun r => some (LR.ret r))) (
  some (LR.out y1))
def K1t_s3 (a0 : Int) (a1 : Int) (a2 : List F) : (F × Int) → Option (LR (F × Int) (F) (F)) := fun s => K1t_b3 a0 a1 a2 s.1 s.2
def K1t_k3 (y12 : F) : Option (F) :=
 some y12
def K1t (a0 : Int) (a1 : Int) (a2 : List F) : Option (F) :=
 obind (loopM (K1t_s3 a0 a1 a2) (some 0, 0)) fun z => osum z (fun e => K1t_k3 e) (fun r => some r)
theorem K1t_ok (a0 : Int) (a1 : Int) (a2 : List F) (q0 : F) (h : K1t a0 a1 a2 = some q0) : Ev Tryz.prog 71 [agg (mXc a0 a1 a2)] [] (f32 q0) [] := by
 refine yE Tryz.func71 0 61 0 [(0, agg (mXc a0 a1 a2))] [] rfl ?_
 unfold K1t at h
 refine zQ<|yd rfl (ptr (mXc a0 a1 a2)) (TOp.box_s rfl rfl rfl)<|yl rfl (f32 (some 0)) (LOp.le (LOp.assign rfl rfl) (ALe.fl (by kernel_rfl) (by kernel_rfl)))<|zN ?_
 refine zQ<|yl rfl (f32 (some 0)) (LOp.le (LOp.assign rfl rfl) (ALe.fl (by kernel_rfl) (by kernel_rfl)))<|zN ?_
 refine yS<|zQ<|yl rfl (ptr (mXc a0 a1 a2)) (LOp.fap und27 rfl siz2 rfl rfl rfl)<|yl rfl (i64 a0) (y2 agg2)<|ym rfl (i64 0)<|zN ?_
 obtain ⟨z4, hz_4, h⟩ := oS h
 refine RunC.cutN (fun τ Γ => ∃ (y12 : F), WeakLe τ [(3, f32 y12)] ∧ DeadLe Γ [] ∧ z4 = .inl y12) ?_ ?_
 ·refine RunC.block (RunC.loop (RunL.loopM (x := z4) (K1t_s3 a0 a1 a2) (fun (s : F × Int) τ Γ => WeakLe τ [(1, ptr (mXc a0 a1 a2)), (3, f32 s.1), (8, i64 a0), (9, i64 s.2)] ∧ DeadLe Γ []) ?_ _ _ _ hz_4 ⟨⟨aR, aR, aR, aR, trivial⟩, trivial⟩))
  rintro ⟨y1, v2⟩ τ4 Γ4 y4_ ⟨hw4, hd4⟩ h4_ ho4 hr4
  refine RunC.wl (τ' := [(1, ptr (mXc a0 a1 a2)), (3, f32 y1), (8, i64 a0), (9, i64 v2)]) (Γ' := []) hw4 hd4 ?_
  replace h4_ : K1t_b3 a0 a1 a2 y1 v2 = some y4_ := h4_
  unfold K1t_b3 at h4_
  refine yS ?_
  rcases oB h4_ with ⟨hc1, h4_⟩ | ⟨hc1, h4_⟩
  ·refine yW<|yl rfl (b true) (LOp.eqb (LOp.lss rfl rfl rfl) hc1)<|zN ?_
   refine yS<|yT<|RunC.skip<|yS<|RunC.block<|zQ<|ym rfl (i64 v2)<|ya rfl (i64 v2)<|zN ?_
   refine zQ<|yl rfl (f32 (some 0)) (LOp.le (LOp.assign rfl rfl) (ALe.fl (by kernel_rfl) (by kernel_rfl)))<|zN ?_
   refine yS<|zQ<|yl rfl (ptr [i64 a1, (sFc a2)]) (LOp.fap und27 rfl siz2 rfl rfl rfl)<|yl rfl (i64 a1) (y2 agg2)<|ym rfl (i64 0)<|zN ?_
   obtain ⟨z5, hz_5, h4_⟩ := oS h4_
   refine RunC.cutN (fun τ Γ => ∃ (y9 : F), WeakLe τ [(1, ptr (mXc a0 a1 a2)), (3, f32 y1), (5, f32 y9), (8, i64 a0), (9, i64 v2)] ∧ DeadLe Γ [] ∧ z5 = .inl y9) ?_ ?_
   ·refine RunC.block (RunC.loop (RunL.loopM (x := z5) (K1t_s2 a0 a1 a2 v2) (fun (s : F × Int) τ Γ => WeakLe τ [(1, ptr (mXc a0 a1 a2)), (3, f32 y1), (4, i64 v2), (5, f32 s.1), (8, i64 a0), (9, i64 v2), (13, i64 a1), (14, i64 s.2)] ∧ DeadLe Γ []) ?_ _ _ _ hz_5 ⟨⟨aR, aR, aR, aR, aR, aR, aR, aR, trivial⟩, trivial⟩))
    rintro ⟨y3, v4⟩ τ5 Γ5 y5_ ⟨hw5, hd5⟩ h5_ ho5 hr5
    refine RunC.wl (τ' := [(1, ptr (mXc a0 a1 a2)), (3, f32 y1), (4, i64 v2), (5, f32 y3), (8, i64 a0), (9, i64 v2), (13, i64 a1), (14, i64 v4)]) (Γ' := []) hw5 hd5 ?_
    replace h5_ : K1t_b2 a0 a1 a2 v2 y3 v4 = some y5_ := h5_
    unfold K1t_b2 at h5_
    refine yS ?_
    rcases oB h5_ with ⟨hc2, h5_⟩ | ⟨hc2, h5_⟩
    ·refine yW<|yl rfl (b true) (LOp.eqb (LOp.lss rfl rfl rfl) hc2)<|zN ?_
     refine yS<|yT<|RunC.skip<|yS<|RunC.block<|zQ<|ym rfl (i64 v4)<|ya rfl (i64 v4)<|zN ?_
     obtain ⟨r5, hf3, h5_⟩ := oS h5_
     obtain ⟨r6, hf4, h5_⟩ := oS h5_
     obtain ⟨x7, hx5, h5_⟩ := oL h5_
     refine yW<|ym rfl (f32 y3)<|yl rfl (agg (mXc a0 a1 a2)) (yL agg27 siz27)<|ym rfl (i64 v2)<|ym rfl (i64 v4)<|yd rfl (f32 r5) (TOp.callB (CallAs.func ent46 rfl rfl) (Bors.cons (Bor.agg (bP (bP (bS bN)))) (bP bN0)) rfl rfl (K0p_ok a0 a1 a2 v2 v4 r5 hf3))<|yd rfl (f32 r6) (yc ent45 rfl rfl bN0 (K0q_ok r5 r6 hf4))<|yd rfl (f32 x7) (TOp.eqr (TOp.fop (.inl rfl) rfl (OpF.tmp rfl) (OpF.tmp rfl)) (congrArg (f .f32) hx5))<|ya rfl (f32 x7)<|zN ?_
     obtain ⟨x8, hx6, h5_⟩ := oL h5_
     refine yW<|yl rfl (i64 x8) (LOp.eqr (LOp.add rfl rfl rfl) (congrArg (ik .i64) hx6))<|ym rfl (i64 x8)<|zN ?_
     cases oI h5_
     exact ⟨_, rfl, ⟨aR, aR, aR, aR, aR, aR, aR, aR, trivial⟩, trivial⟩
    ·refine yW<|yl rfl (b false) (LOp.eqb (LOp.lss rfl rfl rfl) hc2)<|zN ?_
     refine yS<|yF<|RunC.exit ?_
     cases oI h5_
     have hx := ho5 _ rfl
     exact ⟨y3, ⟨aR, aR, aR, aR, aR, trivial⟩, trivial, hx⟩
   ·rintro τ6 Γ6 ⟨y9, hw6, hd6, rfl⟩
    refine RunC.wl hw6 hd6 ?_
    replace h4_ : K1t_k2 y1 v2 y9 = some y4_ := h4_
    unfold K1t_k2 at h4_
    obtain ⟨y10, hy7, h4_⟩ := oS h4_
    refine yW<|ym rfl (f32 y1)<|ym rfl (f32 y9)<|yl rfl (f32 y10) (LOp.max2f rfl (OpF.tmp rfl) (OpF.tmp rfl) hy7)<|ya rfl (f32 y10)<|zN ?_
    obtain ⟨x11, hx8, h4_⟩ := oL h4_
    refine yW<|yl rfl (i64 x11) (LOp.eqr (LOp.add rfl rfl rfl) (congrArg (ik .i64) hx8))<|ym rfl (i64 x11)<|zN ?_
    cases oI h4_
    exact ⟨_, rfl, ⟨aR, aR, aR, aR, trivial⟩, trivial⟩
  ·refine yW<|yl rfl (b false) (LOp.eqb (LOp.lss rfl rfl rfl) hc1)<|zN ?_
   refine yS<|yF<|RunC.exit ?_
   cases oI h4_
   have hx := ho4 _ rfl
   exact ⟨y1, ⟨aR, trivial⟩, trivial, hx⟩
 ·rintro τ7 Γ7 ⟨y12, hw7, hd7, rfl⟩
  refine RunC.wl hw7 hd7 ?_
  replace h : K1t_k3 y12 = some q0 := h
  unfold K1t_k3 at h
  refine zQ<|ym rfl (f32 y12)<|ya rfl (f32 y12)<|zN ?_
  refine RunC.ret ?_
  have hq := oI h
  subst q0
  exact bR rfl
def K1u (a0 : F) : Option (F × Bool) :=
 obind (K0f a0) fun (r1 : Bool) =>
 bsel r1 (
  some (a0, true)) (
  some (some 0, false))
theorem K1u_ok (a0 : F) (q0 : F) (q1 : Bool) (h : K1u a0 = some (q0, q1)) : Ev Tryz.prog 28 [f32 a0] [] (tup [f32 q0, b q1]) [] := by
 refine yE Tryz.func28 0 17 0 [(0, f32 a0)] [] rfl ?_
 unfold K1u at h
 refine zQ<|yl rfl (f32 (some 0)) (LOp.le (LOp.assign rfl rfl) (ALe.fl (by kernel_rfl) (by kernel_rfl)))<|ya rfl (b false)<|zN ?_
 refine yS<|yS ?_
 obtain ⟨r1, hf1, h⟩ := oS h
 rcases oB h with ⟨hc2, h⟩ | ⟨hc2, h⟩
 ·refine yW<|ym rfl (f32 a0)<|yd rfl (b true) (TOp.eqb (yc ent42 rfl rfl bN0 (K0f_ok a0 r1 hf1)) hc2)<|yl rfl (b false) y1<|zN ?_
  refine yF<|RunC.skip<|zQ<|ym rfl (f32 a0)<|ya rfl (f32 a0)<|ya rfl (b true)<|zN ?_
  refine RunC.ret ?_
  have hq := oI h
  obtain ⟨hq0, hq⟩ := Prod.mk.inj hq
  subst q0
  subst q1
  exact bodyQ.pure (.inr rfl) rfl (Res.two rfl (RV.tmp rfl) (RV.tmp rfl))
 ·refine yW<|ym rfl (f32 a0)<|yd rfl (b false) (TOp.eqb (yc ent42 rfl rfl bN0 (K0f_ok a0 r1 hf1)) hc2)<|yl rfl (b true) y0<|zN ?_
  refine yT<|zQ<|yl rfl (f32 (some 0)) (LOp.le (LOp.assign rfl rfl) (ALe.fl (by kernel_rfl) (by kernel_rfl)))<|ya rfl (b false)<|zN ?_
  refine RunC.ret ?_
  have hq := oI h
  obtain ⟨hq0, hq⟩ := Prod.mk.inj hq
  subst q0
  subst q1
  exact bodyQ.pure (.inr rfl) rfl (Res.two rfl (RV.tmp rfl) (RV.tmp rfl))
def K1v (a0 : Int) (a1 : Int) (a2 : List F) : Option (F × Bool) :=
 obind (K0k a0 a1 a2) fun (r1 : Bool) =>
 bsel r1 (
  obind3 (K1s a0 a1 a2) fun (r2 : Int) (r3 : Int) (r4 : List F) =>
  obind (K1t r2 r3 r4) fun (r5 : F) =>
  obind2 (K1u r5) fun (r6 : F) (r7 : Bool) =>
  some (r6, r7)) (
  some (some 0, false))
theorem K1v_ok (a0 : Int) (a1 : Int) (a2 : List F) (q0 : F) (q1 : Bool) (h : K1v a0 a1 a2 = some (q0, q1)) : Ev Tryz.prog 27 [agg (mXc a0 a1 a2)] [] (tup [f32 q0, b q1]) [] := by
 refine yE Tryz.func27 1 27 0 [(0, agg (mXc a0 a1 a2))] [o0] rfl ?_
 unfold K1v at h
 refine zQ<|yd rfl (ptr (mXc a0 a1 a2)) (TOp.box_s rfl rfl rfl)<|yl rfl (f32 (some 0)) (LOp.le (LOp.assign rfl rfl) (ALe.fl (by kernel_rfl) (by kernel_rfl)))<|ya rfl (b false)<|zN ?_
 refine yS<|yS ?_
 obtain ⟨r1, hf1, h⟩ := oS h
 rcases oB h with ⟨hc2, h⟩ | ⟨hc2, h⟩
 ·refine yW<|yl rfl (agg (mXc a0 a1 a2)) (yL agg27 siz27)<|yd rfl (b true) (TOp.eqb (TOp.callB (CallAs.func ent35 rfl rfl) (Bors.cons (Bor.agg (bP (bP (bS bN)))) bN) rfl rfl (K0k_ok a0 a1 a2 r1 hf1)) hc2)<|yl rfl (b false) y1<|zN ?_
  refine yF<|RunC.skip<|yS ?_
  obtain ⟨r2, r3, r4, hf3, h⟩ := obind3_some h
  obtain ⟨r5, hf4, h⟩ := oS h
  obtain ⟨r6, r7, hf5, h⟩ := obind2_some h
  refine yW<|yl rfl (agg (mXc a0 a1 a2)) (yL agg27 siz27)<|ye rfl (agg (oXc r2 r3 0 1 r4.length)) [oF 1 r4] (TOp.callBN (ls := [(r4.map f32)]) [0] (CallAs.func ent70 rfl rfl) (Bors.cons (Bor.agg (bP (bP (bS bN)))) bN) rfl (K1s_ok a0 a1 a2 r2 r3 r4 hf3) (and_all (lts0_map (f := f32) (fun _ => rfl) _) rfl) (and_all (noss_map (f := f32) (fun _ => rfl) _) rfl) rfl (by decide) (ns_of ⟨⟨_, rfl⟩, trivial⟩))<|yd rfl (f32 r5) (TOp.callB (CallAs.func ent71 rfl rfl) (Bors.cons (Bor.agg (bP (bP (Bors.cons (Bor.own (f := f32) (fun _ => rfl) rfl rfl) bN)))) bN) rfl rfl (K1t_ok r2 r3 r4 r5 hf4))<|yd rfl (tup [f32 r6, b r7]) (yc ent28 rfl rfl bN0 (K1u_ok r5 r6 r7 hf5))<|yl rfl (f32 r6) y3<|yl rfl (b r7) y3<|ya rfl (f32 r6)<|ya rfl (b r7)<|zN ?_
  refine RunC.ret ?_
  have hq := oI h
  obtain ⟨hq0, hq⟩ := Prod.mk.inj hq
  subst q0
  subst q1
  exact bodyQ.pure (.inr rfl) rfl (Res.two rfl (RV.tmp rfl) (RV.tmp rfl))
 ·refine yW<|yl rfl (agg (mXc a0 a1 a2)) (yL agg27 siz27)<|yd rfl (b false) (TOp.eqb (TOp.callB (CallAs.func ent35 rfl rfl) (Bors.cons (Bor.agg (bP (bP (bS bN)))) bN) rfl rfl (K0k_ok a0 a1 a2 r1 hf1)) hc2)<|yl rfl (b true) y0<|zN ?_
  refine yT<|zQ<|yl rfl (f32 (some 0)) (LOp.le (LOp.assign rfl rfl) (ALe.fl (by kernel_rfl) (by kernel_rfl)))<|ya rfl (b false)<|zN ?_
  refine RunC.ret ?_
  have hq := oI h
  obtain ⟨hq0, hq⟩ := Prod.mk.inj hq
  subst q0
  subst q1
  exact bodyQ.pure (.inr rfl) rfl (Res.two rfl (RV.tmp rfl) (RV.tmp rfl))
def K1w (a0 : Int) (a1 : Int) (a2 : List F) : Option (F × Bool) :=
 obind5 (K0w a0 a1 a2) fun (r1 : Int) (r2 : Int) (r3 : Bool) (r4 : List F) (r5 : List Int) =>
 bsel r3 (
  obind4 (K1p r1 r2 r4 r5) fun (r6 : Int) (r7 : Int) (r8 : Bool) (r9 : List F) =>
  bsel r8 (
   obind2 (K1v a0 a1 a2) fun (r10 : F) (r11 : Bool) =>
   bsel r11 (
    obind2 (K1v r6 r7 r9) fun (r12 : F) (r13 : Bool) =>
    bsel r13 (
     obind (K0u r10 r12) fun (r14 : F) =>
     obind2 (K1u r14) fun (r15 : F) (r16 : Bool) =>
     some (r15, r16)) (
     some (some 0, false))) (
    obind2 (K1v r6 r7 r9) fun (r17 : F) (r18 : Bool) =>
    bsel r18 (
     some (some 0, false)) (
     some (some 0, false)))) (
   some (some 0, false))) (
  some (some 0, false))
theorem K1w_ok (a0 : Int) (a1 : Int) (a2 : List F) (q0 : F) (q1 : Bool) (h : K1w a0 a1 a2 = some (q0, q1)) : Ev Tryz.prog 8 [agg (mXc a0 a1 a2)] [] (tup [f32 q0, b q1]) [] := by
 refine yE Tryz.func8 5 95 0 [(0, agg (mXc a0 a1 a2))] [o0, o0, o0, o0, o0] rfl ?_
 unfold K1w at h
 refine zQ<|yd rfl (ptr (mXc a0 a1 a2)) (TOp.box_s rfl rfl rfl)<|yl rfl (f32 (some 0)) (LOp.le (LOp.assign rfl rfl) (ALe.fl (by kernel_rfl) (by kernel_rfl)))<|ya rfl (b false)<|zN ?_
 refine yS ?_
 obtain ⟨r1, r2, r3, r4, r5, hf1, h⟩ := obind5_some h
 rcases oB h with ⟨hc2, h⟩ | ⟨hc2, h⟩
 ·refine yW<|yl rfl (agg (mXc a0 a1 a2)) (yL agg27 siz27)<|ye rfl (tup [agg [i64 r1, i64 r2, oref 0 1 0 r4.length, oref 1 1 0 r5.length], b r3]) [oF 1 r4, oJ 1 r5, o0, o0, o0] (TOp.callBN (ls := [(r4.map f32), (r5.map i64)]) [0, 1] (CallAs.func ent25 rfl rfl) (Bors.cons (Bor.agg (bP (bP (bS bN)))) bN) rfl (K0w_ok a0 a1 a2 r1 r2 r3 r4 r5 hf1) (and_all (lts0_map (f := f32) (fun _ => rfl) _) (and_all (lts0_map (f := i64) (fun _ => rfl) _) rfl)) (and_all (noss_map (f := f32) (fun _ => rfl) _) (and_all (noss_map (f := i64) (fun _ => rfl) _) rfl)) rfl (by decide) (ns_of ⟨⟨_, rfl⟩, ⟨_, rfl⟩, trivial⟩))<|ym rfl (tup [agg [i64 r1, i64 r2, oref 0 1 0 r4.length, oref 1 1 0 r5.length], b r3])<|yl rfl (agg [i64 r1, i64 r2, oref 0 1 0 r4.length, oref 1 1 0 r5.length]) y3<|yl rfl (b true) (LOp.eqb y3 hc2)<|ye rfl (optr 2 1 0) ([oF 1 r4, oJ 1 r5, ⟨1, some [i64 0, i64 0, nilsl, nilsl]⟩, o0, o0]) (TOp.alloc_o (g := o0) 2 rfl zer41 zok41 rfl)<|ys (agg [i64 r1, i64 r2, oref 0 1 0 r4.length, oref 1 1 0 r5.length]) [i64 r1, i64 r2, oref 0 1 0 r4.length, oref 1 1 0 r5.length] ([oF 1 r4, oJ 1 r5, ⟨1, some [i64 r1, i64 r2, oref 0 1 0 r4.length, oref 1 1 0 r5.length]⟩, o0, o0]) siz41<|ya rfl (b true)<|zN ?_
  refine yS<|zQ<|ym rfl (b true)<|yl rfl (b false) y1<|zN ?_
  refine yF<|RunC.skip<|yS ?_
  obtain ⟨r6, r7, r8, r9, hf3, h⟩ := obind4_some h
  rcases oB h with ⟨hc4, h⟩ | ⟨hc4, h⟩
  ·refine yW<|yd rfl (agg [i64 r1, i64 r2, oref 0 1 0 r4.length, oref 1 1 0 r5.length]) (yA agg41 siz41)<|ye rfl (tup [agg (oXc r6 r7 3 1 r9.length), b r8]) ([oF 1 r4, oJ 1 r5, ⟨1, some [i64 r1, i64 r2, oref 0 1 0 r4.length, oref 1 1 0 r5.length]⟩, oF 1 r9, o0]) (TOp.callBN (ls := [(r9.map f32)]) [3] (CallAs.func ent26 rfl rfl) (Bors.cons (Bor.agg (bP (bP (Bors.cons (Bor.own (f := f32) (fun _ => rfl) rfl rfl) (Bors.cons (Bor.own (f := i64) (fun _ => rfl) rfl rfl) bN))))) bN) rfl (K1p_ok r1 r2 r4 r5 r6 r7 r8 r9 hf3) (and_all (lts0_map (f := f32) (fun _ => rfl) _) rfl) (and_all (noss_map (f := f32) (fun _ => rfl) _) rfl) rfl (by decide) (ns_of ⟨⟨_, rfl⟩, trivial⟩))<|ym rfl (tup [agg (oXc r6 r7 3 1 r9.length), b r8])<|yl rfl (agg (oXc r6 r7 3 1 r9.length)) y3<|yl rfl (b true) (LOp.eqb y3 hc4)<|ye rfl (optr 4 1 0) ([oF 1 r4, oJ 1 r5, ⟨1, some [i64 r1, i64 r2, oref 0 1 0 r4.length, oref 1 1 0 r5.length]⟩, oF 1 r9, ⟨1, some zMx⟩]) (TOp.alloc_o (g := o0) 4 rfl zer27 zok27 rfl)<|ys (agg (oXc r6 r7 3 1 r9.length)) (oXc r6 r7 3 1 r9.length) ([oF 1 r4, oJ 1 r5, ⟨1, some [i64 r1, i64 r2, oref 0 1 0 r4.length, oref 1 1 0 r5.length]⟩, oF 1 r9, ⟨1, some (oXc r6 r7 3 1 r9.length)⟩]) siz27<|ya rfl (b true)<|zN ?_
   refine RunC.wl (τ' := [(1, ptr (mXc a0 a1 a2)), (5, b true), (6, optr 4 1 0)]) (Γ' := [⟨1, none⟩, ⟨1, none⟩, ⟨1, none⟩, oF 1 r9, ⟨1, some (oXc r6 r7 3 1 r9.length)⟩]) ⟨aR, aR, aR, trivial⟩ ⟨⟨rfl, .inl rfl⟩, ⟨rfl, .inl rfl⟩, ⟨rfl, .inl rfl⟩, ⟨rfl, .inr rfl⟩, ⟨rfl, .inr rfl⟩, trivial⟩<|yS<|zQ<|ym rfl (b true)<|yl rfl (b false) y1<|zN ?_
   refine yF<|RunC.skip<|yS ?_
   obtain ⟨r10, r11, hf5, h⟩ := obind2_some h
   rcases oB h with ⟨hc6, h⟩ | ⟨hc6, h⟩
   ·refine yW<|yl rfl (agg (mXc a0 a1 a2)) (yL agg27 siz27)<|yd rfl (tup [f32 r10, b r11]) (TOp.callB (CallAs.func ent27 rfl rfl) (Bors.cons (Bor.agg (bP (bP (bS bN)))) bN) rfl rfl (K1v_ok a0 a1 a2 r10 r11 hf5))<|ym rfl (tup [f32 r10, b r11])<|yl rfl (f32 r10) y3<|yl rfl (b true) (LOp.eqb y3 hc6)<|ya rfl (f32 r10)<|ya rfl (b true)<|zN ?_
    refine yS ?_
    obtain ⟨r12, r13, hf7, h⟩ := obind2_some h
    rcases oB h with ⟨hc8, h⟩ | ⟨hc8, h⟩
    ·refine yW<|yd rfl (agg (oXc r6 r7 3 1 r9.length)) (yA agg27 siz27)<|yd rfl (tup [f32 r12, b r13]) (TOp.callB (CallAs.func ent27 rfl rfl) (Bors.cons (Bor.agg (bP (bP (Bors.cons (Bor.own (f := f32) (fun _ => rfl) rfl rfl) bN)))) bN) rfl rfl (K1v_ok r6 r7 r9 r12 r13 hf7))<|ym rfl (tup [f32 r12, b r13])<|yl rfl (f32 r12) y3<|yl rfl (b true) (LOp.eqb y3 hc8)<|ya rfl (f32 r12)<|ya rfl (b true)<|zN ?_
     refine RunC.wl (τ' := [(7, f32 r10), (8, b true), (9, f32 r12), (10, b true)]) (Γ' := [⟨1, none⟩, ⟨1, none⟩, ⟨1, none⟩, ⟨1, none⟩, ⟨1, none⟩]) ⟨aR, aR, aR, aR, trivial⟩ ⟨⟨rfl, .inl rfl⟩, ⟨rfl, .inl rfl⟩, ⟨rfl, .inl rfl⟩, ⟨rfl, .inl rfl⟩, ⟨rfl, .inl rfl⟩, trivial⟩<|yS<|zQ<|ym rfl (b true)<|yl rfl (b false) y1<|ym rfl (b false)<|ym rfl (b true)<|yl rfl (b false) y1<|yl rfl (b false) yp<|zN ?_
     refine yF<|RunC.skip<|yS ?_
     obtain ⟨r14, hf9, h⟩ := oS h
     obtain ⟨r15, r16, hf10, h⟩ := obind2_some h
     refine yW<|ym rfl (f32 r10)<|ym rfl (f32 r12)<|yd rfl (f32 r14) (yc ent29 rfl rfl (bP bN0) (K0u_ok r10 r12 r14 hf9))<|yd rfl (tup [f32 r15, b r16]) (yc ent28 rfl rfl bN0 (K1u_ok r14 r15 r16 hf10))<|yl rfl (f32 r15) y3<|yl rfl (b r16) y3<|ya rfl (f32 r15)<|ya rfl (b r16)<|zN ?_
     refine RunC.ret ?_
     have hq := oI h
     obtain ⟨hq0, hq⟩ := Prod.mk.inj hq
     subst q0
     subst q1
     exact bodyQ.pure (.inr rfl) rfl (Res.two rfl (RV.tmp rfl) (RV.tmp rfl))
    ·refine yW<|yd rfl (agg (oXc r6 r7 3 1 r9.length)) (yA agg27 siz27)<|yd rfl (tup [f32 r12, b r13]) (TOp.callB (CallAs.func ent27 rfl rfl) (Bors.cons (Bor.agg (bP (bP (Bors.cons (Bor.own (f := f32) (fun _ => rfl) rfl rfl) bN)))) bN) rfl rfl (K1v_ok r6 r7 r9 r12 r13 hf7))<|ym rfl (tup [f32 r12, b r13])<|yl rfl (f32 r12) y3<|yl rfl (b false) (LOp.eqb y3 hc8)<|ya rfl (f32 r12)<|ya rfl (b false)<|zN ?_
     refine RunC.wl (τ' := [(7, f32 r10), (8, b true), (9, f32 r12), (10, b false)]) (Γ' := [⟨1, none⟩, ⟨1, none⟩, ⟨1, none⟩, ⟨1, none⟩, ⟨1, none⟩]) ⟨aR, aR, aR, aR, trivial⟩ ⟨⟨rfl, .inl rfl⟩, ⟨rfl, .inl rfl⟩, ⟨rfl, .inl rfl⟩, ⟨rfl, .inl rfl⟩, ⟨rfl, .inl rfl⟩, trivial⟩<|yS<|zQ<|ym rfl (b true)<|yl rfl (b false) y1<|ym rfl (b false)<|ym rfl (b false)<|yl rfl (b true) y0<|yl rfl (b true) yp<|zN ?_
     refine yT<|zQ<|yl rfl (f32 (some 0)) (LOp.le (LOp.assign rfl rfl) (ALe.fl (by kernel_rfl) (by kernel_rfl)))<|ya rfl (b false)<|zN ?_
     refine RunC.ret ?_
     have hq := oI h
     obtain ⟨hq0, hq⟩ := Prod.mk.inj hq
     subst q0
     subst q1
     exact bodyQ.pure (.inr rfl) rfl (Res.two rfl (RV.tmp rfl) (RV.tmp rfl))
   ·refine yW<|yl rfl (agg (mXc a0 a1 a2)) (yL agg27 siz27)<|yd rfl (tup [f32 r10, b r11]) (TOp.callB (CallAs.func ent27 rfl rfl) (Bors.cons (Bor.agg (bP (bP (bS bN)))) bN) rfl rfl (K1v_ok a0 a1 a2 r10 r11 hf5))<|ym rfl (tup [f32 r10, b r11])<|yl rfl (f32 r10) y3<|yl rfl (b false) (LOp.eqb y3 hc6)<|ya rfl (f32 r10)<|ya rfl (b false)<|zN ?_
    refine yS ?_
    obtain ⟨r17, r18, hf11, h⟩ := obind2_some h
    rcases oB h with ⟨hc12, h⟩ | ⟨hc12, h⟩
    ·refine yW<|yd rfl (agg (oXc r6 r7 3 1 r9.length)) (yA agg27 siz27)<|yd rfl (tup [f32 r17, b r18]) (TOp.callB (CallAs.func ent27 rfl rfl) (Bors.cons (Bor.agg (bP (bP (Bors.cons (Bor.own (f := f32) (fun _ => rfl) rfl rfl) bN)))) bN) rfl rfl (K1v_ok r6 r7 r9 r17 r18 hf11))<|ym rfl (tup [f32 r17, b r18])<|yl rfl (f32 r17) y3<|yl rfl (b true) (LOp.eqb y3 hc12)<|ya rfl (f32 r17)<|ya rfl (b true)<|zN ?_
     refine RunC.wl (τ' := [(7, f32 r10), (8, b false), (9, f32 r17), (10, b true)]) (Γ' := [⟨1, none⟩, ⟨1, none⟩, ⟨1, none⟩, ⟨1, none⟩, ⟨1, none⟩]) ⟨aR, aR, aR, aR, trivial⟩ ⟨⟨rfl, .inl rfl⟩, ⟨rfl, .inl rfl⟩, ⟨rfl, .inl rfl⟩, ⟨rfl, .inl rfl⟩, ⟨rfl, .inl rfl⟩, trivial⟩<|yS<|zQ<|ym rfl (b false)<|yl rfl (b true) y0<|ym rfl (b true)<|yR rfl<|yR rfl<|yl rfl (b true) yq<|zN ?_
     refine yT<|zQ<|yl rfl (f32 (some 0)) (LOp.le (LOp.assign rfl rfl) (ALe.fl (by kernel_rfl) (by kernel_rfl)))<|ya rfl (b false)<|zN ?_
     refine RunC.ret ?_
     have hq := oI h
     obtain ⟨hq0, hq⟩ := Prod.mk.inj hq
     subst q0
     subst q1
     exact bodyQ.pure (.inr rfl) rfl (Res.two rfl (RV.tmp rfl) (RV.tmp rfl))
    ·refine yW<|yd rfl (agg (oXc r6 r7 3 1 r9.length)) (yA agg27 siz27)<|yd rfl (tup [f32 r17, b r18]) (TOp.callB (CallAs.func ent27 rfl rfl) (Bors.cons (Bor.agg (bP (bP (Bors.cons (Bor.own (f := f32) (fun _ => rfl) rfl rfl) bN)))) bN) rfl rfl (K1v_ok r6 r7 r9 r17 r18 hf11))<|ym rfl (tup [f32 r17, b r18])<|yl rfl (f32 r17) y3<|yl rfl (b false) (LOp.eqb y3 hc12)<|ya rfl (f32 r17)<|ya rfl (b false)<|zN ?_
     refine RunC.wl (τ' := [(7, f32 r10), (8, b false), (9, f32 r17), (10, b false)]) (Γ' := [⟨1, none⟩, ⟨1, none⟩, ⟨1, none⟩, ⟨1, none⟩, ⟨1, none⟩]) ⟨aR, aR, aR, aR, trivial⟩ ⟨⟨rfl, .inl rfl⟩, ⟨rfl, .inl rfl⟩, ⟨rfl, .inl rfl⟩, ⟨rfl, .inl rfl⟩, ⟨rfl, .inl rfl⟩, trivial⟩<|yS<|zQ<|ym rfl (b false)<|yl rfl (b true) y0<|ym rfl (b true)<|yR rfl<|yR rfl<|yl rfl (b true) yq<|zN ?_
     refine yT<|zQ<|yl rfl (f32 (some 0)) (LOp.le (LOp.assign rfl rfl) (ALe.fl (by kernel_rfl) (by kernel_rfl)))<|ya rfl (b false)<|zN ?_
     refine RunC.ret ?_
     have hq := oI h
     obtain ⟨hq0, hq⟩ := Prod.mk.inj hq
     subst q0
     subst q1
     exact bodyQ.pure (.inr rfl) rfl (Res.two rfl (RV.tmp rfl) (RV.tmp rfl))
  ·refine yW<|yd rfl (agg [i64 r1, i64 r2, oref 0 1 0 r4.length, oref 1 1 0 r5.length]) (yA agg41 siz41)<|ye rfl (tup [agg (oXc r6 r7 3 1 r9.length), b r8]) ([oF 1 r4, oJ 1 r5, ⟨1, some [i64 r1, i64 r2, oref 0 1 0 r4.length, oref 1 1 0 r5.length]⟩, oF 1 r9, o0]) (TOp.callBN (ls := [(r9.map f32)]) [3] (CallAs.func ent26 rfl rfl) (Bors.cons (Bor.agg (bP (bP (Bors.cons (Bor.own (f := f32) (fun _ => rfl) rfl rfl) (Bors.cons (Bor.own (f := i64) (fun _ => rfl) rfl rfl) bN))))) bN) rfl (K1p_ok r1 r2 r4 r5 r6 r7 r8 r9 hf3) (and_all (lts0_map (f := f32) (fun _ => rfl) _) rfl) (and_all (noss_map (f := f32) (fun _ => rfl) _) rfl) rfl (by decide) (ns_of ⟨⟨_, rfl⟩, trivial⟩))<|ym rfl (tup [agg (oXc r6 r7 3 1 r9.length), b r8])<|yl rfl (agg (oXc r6 r7 3 1 r9.length)) y3<|yl rfl (b false) (LOp.eqb y3 hc4)<|ye rfl (optr 4 1 0) ([oF 1 r4, oJ 1 r5, ⟨1, some [i64 r1, i64 r2, oref 0 1 0 r4.length, oref 1 1 0 r5.length]⟩, oF 1 r9, ⟨1, some zMx⟩]) (TOp.alloc_o (g := o0) 4 rfl zer27 zok27 rfl)<|ys (agg (oXc r6 r7 3 1 r9.length)) (oXc r6 r7 3 1 r9.length) ([oF 1 r4, oJ 1 r5, ⟨1, some [i64 r1, i64 r2, oref 0 1 0 r4.length, oref 1 1 0 r5.length]⟩, oF 1 r9, ⟨1, some (oXc r6 r7 3 1 r9.length)⟩]) siz27<|ya rfl (b false)<|zN ?_
   refine RunC.wl (τ' := [(1, ptr (mXc a0 a1 a2)), (5, b false), (6, optr 4 1 0)]) (Γ' := [⟨1, none⟩, ⟨1, none⟩, ⟨1, none⟩, oF 1 r9, ⟨1, some (oXc r6 r7 3 1 r9.length)⟩]) ⟨aR, aR, aR, trivial⟩ ⟨⟨rfl, .inl rfl⟩, ⟨rfl, .inl rfl⟩, ⟨rfl, .inl rfl⟩, ⟨rfl, .inr rfl⟩, ⟨rfl, .inr rfl⟩, trivial⟩<|yS<|zQ<|ym rfl (b false)<|yl rfl (b true) y0<|zN ?_
   refine yT<|zQ<|yl rfl (f32 (some 0)) (LOp.le (LOp.assign rfl rfl) (ALe.fl (by kernel_rfl) (by kernel_rfl)))<|ya rfl (b false)<|zN ?_
   refine RunC.ret ?_
   have hq := oI h
   obtain ⟨hq0, hq⟩ := Prod.mk.inj hq
   subst q0
   subst q1
   exact bodyQ.pure (.inr rfl) rfl (Res.two rfl (RV.tmp rfl) (RV.tmp rfl))
 ·refine yW<|yl rfl (agg (mXc a0 a1 a2)) (yL agg27 siz27)<|ye rfl (tup [agg [i64 r1, i64 r2, oref 0 1 0 r4.length, oref 1 1 0 r5.length], b r3]) [oF 1 r4, oJ 1 r5, o0, o0, o0] (TOp.callBN (ls := [(r4.map f32), (r5.map i64)]) [0, 1] (CallAs.func ent25 rfl rfl) (Bors.cons (Bor.agg (bP (bP (bS bN)))) bN) rfl (K0w_ok a0 a1 a2 r1 r2 r3 r4 r5 hf1) (and_all (lts0_map (f := f32) (fun _ => rfl) _) (and_all (lts0_map (f := i64) (fun _ => rfl) _) rfl)) (and_all (noss_map (f := f32) (fun _ => rfl) _) (and_all (noss_map (f := i64) (fun _ => rfl) _) rfl)) rfl (by decide) (ns_of ⟨⟨_, rfl⟩, ⟨_, rfl⟩, trivial⟩))<|ym rfl (tup [agg [i64 r1, i64 r2, oref 0 1 0 r4.length, oref 1 1 0 r5.length], b r3])<|yl rfl (agg [i64 r1, i64 r2, oref 0 1 0 r4.length, oref 1 1 0 r5.length]) y3<|yl rfl (b false) (LOp.eqb y3 hc2)<|ye rfl (optr 2 1 0) ([oF 1 r4, oJ 1 r5, ⟨1, some [i64 0, i64 0, nilsl, nilsl]⟩, o0, o0]) (TOp.alloc_o (g := o0) 2 rfl zer41 zok41 rfl)<|ys (agg [i64 r1, i64 r2, oref 0 1 0 r4.length, oref 1 1 0 r5.length]) [i64 r1, i64 r2, oref 0 1 0 r4.length, oref 1 1 0 r5.length] ([oF 1 r4, oJ 1 r5, ⟨1, some [i64 r1, i64 r2, oref 0 1 0 r4.length, oref 1 1 0 r5.length]⟩, o0, o0]) siz41<|ya rfl (b false)<|zN ?_
  refine yS<|zQ<|ym rfl (b false)<|yl rfl (b true) y0<|zN ?_
  refine yT<|zQ<|yl rfl (f32 (some 0)) (LOp.le (LOp.assign rfl rfl) (ALe.fl (by kernel_rfl) (by kernel_rfl)))<|ya rfl (b false)<|zN ?_
  refine RunC.ret ?_
  have hq := oI h
  obtain ⟨hq0, hq⟩ := Prod.mk.inj hq
  subst q0
  subst q1
  exact bodyQ.pure (.inr rfl) rfl (Res.two rfl (RV.tmp rfl) (RV.tmp rfl))
def K1x (a0 : List F) : Option (Bool) :=
 obind (K0a a0) fun (r1 : Int) =>
 obind (K08 r1 1 256) fun (r2 : Bool) =>
 bsel r2 (
  obind (K0j a0) fun (r3 : Bool) =>
  some r3) (
  some false)
theorem K1x_ok (a0 : List F) (q0 : Bool) (h : K1x a0 = some q0) : Ev Tryz.prog 36 [(sFc a0)] [] (b q0) [] := by
 refine yE Tryz.func36 0 21 0 [(0, (sFc a0))] [] rfl ?_
 unfold K1x at h
 refine zQ<|ya rfl (b false)<|zN ?_
 refine yS ?_
 obtain ⟨r1, hf1, h⟩ := oS h
 obtain ⟨r2, hf2, h⟩ := oS h
 rcases oB h with ⟨hc3, h⟩ | ⟨hc3, h⟩
 ·obtain ⟨r3, hf4, h⟩ := oS h
  refine yW<|ym rfl (sFc a0)<|yd rfl (i64 r1) (yc ent37 rfl rfl (bS bN) (K0a_ok a0 r1 hf1))<|yd rfl (b true) (TOp.eqb (yc ent31 rfl rfl (bP (bP bN0)) (K08_ok r1 1 256 r2 hf2)) hc3)<|ym rfl (b true)<|ym rfl (sFc a0)<|yd rfl (b r3) (yc ent34 rfl rfl (bS bN) (K0j_ok a0 r3 hf4))<|yl rfl (b r3) yq<|ya rfl (b r3)<|zN ?_
  refine RunC.ret ?_
  have hq := oI h
  subst q0
  exact bR rfl
 ·refine yW<|ym rfl (sFc a0)<|yd rfl (i64 r1) (yc ent37 rfl rfl (bS bN) (K0a_ok a0 r1 hf1))<|yd rfl (b false) (TOp.eqb (yc ent31 rfl rfl (bP (bP bN0)) (K08_ok r1 1 256 r2 hf2)) hc3)<|ym rfl (b false)<|yR rfl<|yR rfl<|yl rfl (b false) yp<|ya rfl (b false)<|zN ?_
  refine RunC.ret ?_
  have hq := oI h
  subst q0
  exact bR rfl
def K1y (a0 : Int) (a1 : Int) (a2 : List F) (a3 : List Int) (a4 : List F) : Option (Bool) :=
 obind (K1e a0 a1 a2 a3) fun (r1 : Bool) =>
 bsel r1 (
  obind (K1x a4) fun (r2 : Bool) =>
  bsel r2 (
   obind (K0a a4) fun (r3 : Int) =>
   some (decide (r3 = a0))) (
   some false)) (
  some false)
theorem K1y_ok (a0 : Int) (a1 : Int) (a2 : List F) (a3 : List Int) (a4 : List F) (q0 : Bool) (h : K1y a0 a1 a2 a3 a4 = some q0) : Ev Tryz.prog 30 [agg [i64 a0, i64 a1, (sFc a2), sl a3.length (a3.map i64)], (sFc a4)] [] (b q0) [] := by
 refine yE Tryz.func30 0 39 0 ([(0, agg [i64 a0, i64 a1, (sFc a2), sl a3.length (a3.map i64)]), (1, (sFc a4))]) [] rfl ?_
 unfold K1y at h
 refine zQ<|yd rfl (ptr [i64 a0, i64 a1, (sFc a2), sl a3.length (a3.map i64)]) (TOp.box_s rfl rfl rfl)<|ya rfl (b false)<|zN ?_
 refine yS ?_
 obtain ⟨r1, hf1, h⟩ := oS h
 rcases oB h with ⟨hc2, h⟩ | ⟨hc2, h⟩
 ·obtain ⟨r2, hf3, h⟩ := oS h
  rcases oB h with ⟨hc4, h⟩ | ⟨hc4, h⟩
  ·obtain ⟨r3, hf5, h⟩ := oS h
   refine RunC.region_draw (Γ' := []) 15 mixed 
    (tl rfl (agg [i64 a0, i64 a1, (sFc a2), sl a3.length (a3.map i64)]) (yL agg41 siz41) <|
    (TR.d (r := b true) (fs := []) rfl rfl (TOp.eqb (TOp.callB (CallAs.func ent56 rfl rfl) (Bors.cons (Bor.agg (bP (bP (bS (bS bN))))) bN) rfl rfl (K1e_ok a0 a1 a2 a3 r1 hf1)) hc2) <|
    (tm rfl (b true) <|
    (tm rfl (sFc a4) <|
    (TR.d (r := b true) (fs := []) rfl rfl (TOp.eqb (yc ent36 rfl rfl (bS bN) (K1x_ok a4 r2 hf3)) hc4) <|
    (tl rfl (b true) yq <|
    (tm rfl (b true) <|
    (tm rfl (sFc a4) <|
    (TR.d (r := i64 r3) (fs := []) rfl rfl (yc ent37 rfl rfl (bS bN) (K0a_ok a4 r3 hf5)) <|
    (tl rfl (ptr [i64 a0, i64 a1, (sFc a2), sl a3.length (a3.map i64)]) (LOp.fap und41 rfl siz27 rfl rfl rfl) <|
    (tl rfl (ptr [i64 a0, i64 a1, (sFc a2), sl a3.length (a3.map i64)]) (LOp.fap und27 rfl siz2 rfl rfl rfl) <|
    (tl rfl (i64 a0) (y2 agg2) <|
    (tl rfl (b (decide (r3 = a0))) (LOp.eql rfl rfl rfl) <|
    (tl rfl (b (decide (r3 = a0))) yq <|
    (tl rfl (b (decide (r3 = a0))) (LOp.assign rfl rfl) <|
    TR.nil))))))))))))))) rfl (by kernel_rfl) rfl fills_nil rfl ?_
   iterate 15 refine ROps.dropS ?_
   refine ROps.drop0<|zN ?_
   refine RunC.ret ?_
   have hq := oI h
   subst q0
   exact bR rfl
  ·refine RunC.region_draw (Γ' := []) 15 mixed 
    (tl rfl (agg [i64 a0, i64 a1, (sFc a2), sl a3.length (a3.map i64)]) (yL agg41 siz41) <|
    (TR.d (r := b true) (fs := []) rfl rfl (TOp.eqb (TOp.callB (CallAs.func ent56 rfl rfl) (Bors.cons (Bor.agg (bP (bP (bS (bS bN))))) bN) rfl rfl (K1e_ok a0 a1 a2 a3 r1 hf1)) hc2) <|
    (tm rfl (b true) <|
    (tm rfl (sFc a4) <|
    (TR.d (r := b false) (fs := []) rfl rfl (TOp.eqb (yc ent36 rfl rfl (bS bN) (K1x_ok a4 r2 hf3)) hc4) <|
    (tl rfl (b false) yq <|
    (tm rfl (b false) <|
    (ts rfl <|
    (ts rfl <|
    (ts rfl <|
    (ts rfl <|
    (ts rfl <|
    (ts rfl <|
    (tl rfl (b false) yp <|
    (tl rfl (b false) (LOp.assign rfl rfl) <|
    TR.nil))))))))))))))) rfl (by kernel_rfl) rfl fills_nil rfl ?_
   iterate 15 refine ROps.dropS ?_
   refine ROps.drop0<|zN ?_
   refine RunC.ret ?_
   have hq := oI h
   subst q0
   exact bR rfl
 ·refine RunC.region_draw (Γ' := []) 15 mixed 
   (tl rfl (agg [i64 a0, i64 a1, (sFc a2), sl a3.length (a3.map i64)]) (yL agg41 siz41) <|
   (TR.d (r := b false) (fs := []) rfl rfl (TOp.eqb (TOp.callB (CallAs.func ent56 rfl rfl) (Bors.cons (Bor.agg (bP (bP (bS (bS bN))))) bN) rfl rfl (K1e_ok a0 a1 a2 a3 r1 hf1)) hc2) <|
   (tm rfl (b false) <|
   (ts rfl <|
   (ts rfl <|
   (tl rfl (b false) yp <|
   (tm rfl (b false) <|
   (ts rfl <|
   (ts rfl <|
   (ts rfl <|
   (ts rfl <|
   (ts rfl <|
   (ts rfl <|
   (tl rfl (b false) yp <|
   (tl rfl (b false) (LOp.assign rfl rfl) <|
   TR.nil))))))))))))))) rfl (by kernel_rfl) rfl fills_nil rfl ?_
  iterate 15 refine ROps.dropS ?_
  refine ROps.drop0<|zN ?_
  refine RunC.ret ?_
  have hq := oI h
  subst q0
  exact bR rfl
def K1z (a0 : List F) : Option ((Bool × (List F)) ⊕ (Bool × (List F) × (List F))) :=
 obind (K0j a0) fun (r1 : Bool) =>
 bsel r1 (
  some (Sum.inl (true, a0))) (
  some (Sum.inr (false, a0, ([] : List F))))
theorem K1z_ok0 (a0 : List F) (q0 : Bool) (q1 : List F) (h : K1z a0 = some (Sum.inl (q0, q1))) : Ev Tryz.prog 38 [oref 0 0 0 a0.length] [oF 0 a0] (tup [oref 0 0 0 q1.length, b q0]) [oF 0 q1] := by
 refine Ev.start Tryz.func38 rfl rfl 1 (τ := [(0, oref 0 0 0 a0.length)]) rfl (Γ' := [oF 0 a0, o0]) rfl (n := 16) rfl (g := 1) rfl (by decide) ?_
 unfold K1z at h
 refine zQ<|ya rfl nilsl<|ya rfl (b false)<|zN ?_
 refine yS<|yS ?_
 obtain ⟨r1, hf1, h⟩ := oS h
 rcases oB h with ⟨hc2, h⟩ | ⟨hc2, h⟩
 ·refine yW<|ym rfl (oref 0 0 0 a0.length)<|yd rfl (b true) (TOp.eqb (yc ent34 rfl rfl (Bors.cons (Bor.own (f := f32) (fun _ => rfl) rfl rfl) bN) (K0j_ok a0 r1 hf1)) hc2)<|yl rfl (b false) y1<|zN ?_
  refine yF<|RunC.skip<|zQ<|ym rfl (oref 0 0 0 a0.length)<|ya rfl (oref 0 0 0 a0.length)<|ya rfl (b true)<|zN ?_
  refine RunC.ret ?_
  have hq := oI h
  have hq := Sum.inl.inj hq
  obtain ⟨hq0, hq⟩ := Prod.mk.inj hq
  subst q0
  subst q1
  exact yB (tup [oref 0 0 0 a0.length, b true]) [(0, 0)] (Res.two rfl (RV.tmp rfl) (RV.tmp rfl)) (SelL.arr (f := f32) (fun _ => rfl) rfl trivial)
 ·refine yW<|ym rfl (oref 0 0 0 a0.length)<|yd rfl (b false) (TOp.eqb (yc ent34 rfl rfl (Bors.cons (Bor.own (f := f32) (fun _ => rfl) rfl rfl) bN) (K0j_ok a0 r1 hf1)) hc2)<|yl rfl (b true) y0<|zN ?_
  refine yT<|zQ<|ya rfl nilsl<|ya rfl (b false)<|zN ?_
  cases oI h
theorem K1z_ok1 (a0 : List F) (q0 : Bool) (q1 : List F) (q2 : List F) (h : K1z a0 = some (Sum.inr (q0, q1, q2))) : Ev Tryz.prog 38 [oref 0 0 0 a0.length] [oF 0 a0] (tup [oref 1 0 0 q2.length, b q0]) [oF 0 q1, oF 0 q2] := by
 refine Ev.start Tryz.func38 rfl rfl 1 (τ := [(0, oref 0 0 0 a0.length)]) rfl (Γ' := [oF 0 a0, o0]) rfl (n := 16) rfl (g := 1) rfl (by decide) ?_
 unfold K1z at h
 refine zQ<|ya rfl nilsl<|ya rfl (b false)<|zN ?_
 refine yS<|yS ?_
 obtain ⟨r1, hf1, h⟩ := oS h
 rcases oB h with ⟨hc2, h⟩ | ⟨hc2, h⟩
 ·refine yW<|ym rfl (oref 0 0 0 a0.length)<|yd rfl (b true) (TOp.eqb (yc ent34 rfl rfl (Bors.cons (Bor.own (f := f32) (fun _ => rfl) rfl rfl) bN) (K0j_ok a0 r1 hf1)) hc2)<|yl rfl (b false) y1<|zN ?_
  refine yF<|RunC.skip<|zQ<|ym rfl (oref 0 0 0 a0.length)<|ya rfl (oref 0 0 0 a0.length)<|ya rfl (b true)<|zN ?_
  cases oI h
 ·refine yW<|ym rfl (oref 0 0 0 a0.length)<|yd rfl (b false) (TOp.eqb (yc ent34 rfl rfl (Bors.cons (Bor.own (f := f32) (fun _ => rfl) rfl rfl) bN) (K0j_ok a0 r1 hf1)) hc2)<|yl rfl (b true) y0<|zN ?_
  refine yT<|zQ<|ya rfl nilsl<|ya rfl (b false)<|zN ?_
  refine RunC.nil_slot (Γ' := [oF 0 a0, ⟨1, some (([] : List F).map f32)⟩]) 2 1 rfl rfl rfl<|RunC.ret ?_
  have hq := oI h
  have hq := Sum.inr.inj hq
  obtain ⟨hq0, hq⟩ := Prod.mk.inj hq
  obtain ⟨hq1, hq⟩ := Prod.mk.inj hq
  subst q0
  subst q1
  subst q2
  exact yB (tup [oref 1 1 0 (([] : List F).length), b false]) [(0, 0), (1, 1)] (Res.eq (Res.two rfl (RV.tmp rfl) (RV.tmp rfl)) (by first | rfl | (rw [(show ([] : List F).length = 0 from rfl)] <;> rfl))) (SelL.arr (f := f32) (fun _ => rfl) rfl (sA rfl trivial))
def K20 (a0 : Int) (a1 : Int) (a2 : List F) (a3 : List Int) (a4 : List F) : Option (Bool × (List F)) :=
 obind (K1y a0 a1 a2 a3 a4) fun (r1 : Bool) =>
 bsel r1 (
  obind (K1m a0 a1 a2 a3 a4) fun (r2 : List F) =>
  obind (K1z r2) (fun z => osum z (fun y => obind2 (some y) fun (r3 : Bool) (r4 : List F) =>
   need (decide (r4.length = r2.length)) <|
   some (r3, r4)) (fun y => obind3 (some y) fun (r5 : Bool) (r6 : List F) (r7 : List F) =>
   need (decide (r6.length = r2.length)) <|
   some (r5, r7)))) (
  some (false, ([] : List F)))
theorem K20_ok (a0 : Int) (a1 : Int) (a2 : List F) (a3 : List Int) (a4 : List F) (q0 : Bool) (q1 : List F) (h : K20 a0 a1 a2 a3 a4 = some (q0, q1)) : Ev Tryz.prog 32 [agg [i64 a0, i64 a1, (sFc a2), sl a3.length (a3.map i64)], (sFc a4)] [] (tup [oref 0 0 0 q1.length, b q0]) [oF 0 q1] := by
 refine yE Tryz.func32 2 33 0 ([(0, agg [i64 a0, i64 a1, (sFc a2), sl a3.length (a3.map i64)]), (1, (sFc a4))]) [o0, o0] rfl ?_
 unfold K20 at h
 refine zQ<|yd rfl (ptr [i64 a0, i64 a1, (sFc a2), sl a3.length (a3.map i64)]) (TOp.box_s rfl rfl rfl)<|ya rfl nilsl<|ya rfl (b false)<|zN ?_
 refine yS<|yS ?_
 obtain ⟨r1, hf1, h⟩ := oS h
 rcases oB h with ⟨hc2, h⟩ | ⟨hc2, h⟩
 ·refine yW<|yl rfl (agg [i64 a0, i64 a1, (sFc a2), sl a3.length (a3.map i64)]) (yL agg41 siz41)<|ym rfl (sFc a4)<|yd rfl (b true) (TOp.eqb (TOp.callB (CallAs.func ent30 rfl rfl) (Bors.cons (Bor.agg (bP (bP (bS (bS bN))))) (bS bN)) rfl rfl (K1y_ok a0 a1 a2 a3 a4 r1 hf1)) hc2)<|yl rfl (b false) y1<|zN ?_
  refine yF<|RunC.skip<|yS ?_
  obtain ⟨r2, hf3, h⟩ := oS h
  obtain ⟨z1, hf4, h⟩ := oS h
  rcases z1 with z1 | z1
  ·replace h := (osum_inl _ _ _).symm.trans h
   obtain ⟨r3, r4, hz2, h⟩ := obind2_some h
   cases hz2
   obtain ⟨hn5, h⟩ := need_some h
   refine yW<|yl rfl (agg [i64 a0, i64 a1, (sFc a2), sl a3.length (a3.map i64)]) (yL agg41 siz41)<|ym rfl (sFc a4)<|ye rfl (oref 0 1 0 r2.length) [oF 1 r2, o0] (TOp.callBN (ls := [(r2.map f32)]) [0] (CallAs.func ent66 rfl rfl) (Bors.cons (Bor.agg (bP (bP (bS (bS bN))))) (bS bN)) rfl (K1m_ok a0 a1 a2 a3 a4 r2 hf3) (and_all (lts0_map (f := f32) (fun _ => rfl) _) rfl) (and_all (noss_map (f := f32) (fun _ => rfl) _) rfl) rfl (by decide) (ns_of ⟨⟨_, rfl⟩, trivial⟩))<|ROps.callO (A := [oref 0 1 0 r2.length]) (args := [oref 0 0 0 r2.length]) (Γc := [oF 0 r2]) (Γc' := [oF 0 r4]) (r' := tup [oref 0 1 0 r2.length, b r3]) (Γ' := [oF 1 r4, o0]) [(0, 1)] [] rfl (CallAs.func ent38 rfl rfl) rfl rfl (SelOk.of (ndB_ok rfl) (sA rfl trivial)) (live_of ⟨⟨_, _, rfl⟩, trivial⟩) (by simp [ren, rens, sigma, rens_f32, rens_f64, rens_i64, rens_ik, rens_str, rens_cp]) rfl (K1z_ok0 r2 r3 r4 hf4) rfl (news_of trivial) (ndB_ok rfl) (by simp [ren, rens, sigma, of_decide_eq_true hn5]) (by simp [backOb, sigma, ren, rens, rens_f32, rens_f64, rens_i64, rens_ik, rens_str, rens_cp] <;> omega)<|yl rfl (oref 0 1 0 r2.length) y3<|yl rfl (b r3) y3<|ya rfl (oref 0 1 0 r2.length)<|ya rfl (b r3)<|zN ?_
   refine RunC.ret ?_
   have hq := oI h
   obtain ⟨hq0, hq⟩ := Prod.mk.inj hq
   subst q0
   subst q1
   exact yB (tup [oref 0 1 0 r4.length, b r3]) [(0, 1)] (Res.eq (Res.two rfl (RV.tmp rfl) (RV.tmp rfl)) (by first | rfl | (rw [(show r4.length = r2.length from (of_decide_eq_true hn5))] <;> rfl))) (sA rfl trivial)
  ·replace h := (osum_inr _ _ _).symm.trans h
   obtain ⟨r5, r6, r7, hz3, h⟩ := obind3_some h
   cases hz3
   obtain ⟨hn6, h⟩ := need_some h
   refine yW<|yl rfl (agg [i64 a0, i64 a1, (sFc a2), sl a3.length (a3.map i64)]) (yL agg41 siz41)<|ym rfl (sFc a4)<|ye rfl (oref 0 1 0 r2.length) [oF 1 r2, o0] (TOp.callBN (ls := [(r2.map f32)]) [0] (CallAs.func ent66 rfl rfl) (Bors.cons (Bor.agg (bP (bP (bS (bS bN))))) (bS bN)) rfl (K1m_ok a0 a1 a2 a3 a4 r2 hf3) (and_all (lts0_map (f := f32) (fun _ => rfl) _) rfl) (and_all (noss_map (f := f32) (fun _ => rfl) _) rfl) rfl (by decide) (ns_of ⟨⟨_, rfl⟩, trivial⟩))<|ROps.callO (A := [oref 0 1 0 r2.length]) (args := [oref 0 0 0 r2.length]) (Γc := [oF 0 r2]) (Γc' := [oF 0 r6, oF 0 r7]) (r' := tup [oref 1 1 0 r7.length, b r5]) (Γ' := [oF 1 r6, oF 1 r7]) [(0, 1)] [(1, 1)] rfl (CallAs.func ent38 rfl rfl) rfl rfl (SelOk.of (ndB_ok rfl) (sA rfl trivial)) (live_of ⟨⟨_, _, rfl⟩, trivial⟩) (by simp [ren, rens, sigma, rens_f32, rens_f64, rens_i64, rens_ik, rens_str, rens_cp]) rfl (K1z_ok1 r2 r5 r6 r7 hf4) rfl (news_of ⟨⟨_, rfl, rfl⟩, trivial⟩) (show List.Nodup [0, 1] from by decide) (by simp [ren, rens, sigma, of_decide_eq_true hn6]) (by simp [backOb, sigma, ren, rens, rens_f32, rens_f64, rens_i64, rens_ik, rens_str, rens_cp] <;> omega)<|yl rfl (oref 1 1 0 r7.length) y3<|yl rfl (b r5) y3<|ya rfl (oref 1 1 0 r7.length)<|ya rfl (b r5)<|zN ?_
   refine RunC.ret ?_
   have hq := oI h
   obtain ⟨hq0, hq⟩ := Prod.mk.inj hq
   subst q0
   subst q1
   exact yB (tup [oref 1 1 0 r7.length, b r5]) [(1, 1)] (Res.two rfl (RV.tmp rfl) (RV.tmp rfl)) (sA rfl trivial)
 ·refine yW<|yl rfl (agg [i64 a0, i64 a1, (sFc a2), sl a3.length (a3.map i64)]) (yL agg41 siz41)<|ym rfl (sFc a4)<|yd rfl (b false) (TOp.eqb (TOp.callB (CallAs.func ent30 rfl rfl) (Bors.cons (Bor.agg (bP (bP (bS (bS bN))))) (bS bN)) rfl rfl (K1y_ok a0 a1 a2 a3 a4 r1 hf1)) hc2)<|yl rfl (b true) y0<|zN ?_
  refine yT<|zQ<|ya rfl nilsl<|ya rfl (b false)<|zN ?_
  refine RunC.nil_slot (Γ' := [⟨1, some (([] : List F).map f32)⟩, o0]) 4 0 rfl rfl rfl<|RunC.ret ?_
  have hq := oI h
  obtain ⟨hq0, hq⟩ := Prod.mk.inj hq
  subst q0
  subst q1
  exact yB (tup [oref 0 1 0 (([] : List F).length), b false]) [(0, 1)] (Res.eq (Res.two rfl (RV.tmp rfl) (RV.tmp rfl)) (by first | rfl | (rw [(show ([] : List F).length = 0 from rfl)] <;> rfl))) (sA rfl trivial)
def K21 (a0 : F) (a1 : F) : Option (F) :=
 olet (fop .mul .f64 a0 a1) fun (x1 : F) =>
 some x1
theorem K21_ok (a0 : F) (a1 : F) (q0 : F) (h : K21 a0 a1 = some q0) : Ev Tryz.prog 77 [f64 a0, f64 a1] [] (f64 q0) [] := by
 refine yE Tryz.func77 0 17 0 [(0, f64 a0), (1, f64 a1)] [] rfl ?_
 unfold K21 at h
 refine zQ<|yl rfl (f64 (some 0)) (LOp.le (LOp.assign rfl rfl) (ALe.fl (by kernel_rfl) (by kernel_rfl)))<|zN ?_
 refine yS ?_
 obtain ⟨x1, hx1, h⟩ := oL h
 refine yW<|ym rfl (f64 a0)<|ym rfl (f64 a1)<|yd rfl (f64 x1) (TOp.eqr (TOp.fop (.inr (.inr (.inl rfl))) rfl (OpF.tmp rfl) (OpF.tmp rfl)) (congrArg (f .f64) hx1))<|ya rfl (f64 x1)<|zN ?_
 refine RunC.ret ?_
 have hq := oI h
 subst q0
 exact bR rfl
def K22_b2 (a0 : Int) (a1 : Int) (a2 : List F) (a3 : List F) (v4 : Int) (y7 : F) (v8 : Int) : Option (LR (F × Int) (F) ((List F))) :=
 bsel (decide (v8 < (a3.length : Int))) (
  obind (at? a3 v8) fun (e9 : F) =>
  obind (K0p a0 a1 a2 v4 v8) fun (r10 : F) =>
  olet (fwiden r10) fun (x11 : F) =>
  olet (fwiden e9) fun (x12 : F) =>
  obind (K21 x11 x12) fun (r13 : F) =>
  olet (fop .sub .f64 y7 r13) fun (x14 : F) =>
  olet (IntKind.i64.wrap (v8 + 1)) fun (x15 : Int) =>
  some (LR.next (x14, x15))) (
  some (LR.out y7))
def K22_s2 (a0 : Int) (a1 : Int) (a2 : List F) (a3 : List F) (v4 : Int) : (F × Int) → Option (LR (F × Int) (F) ((List F))) := fun s => K22_b2 a0 a1 a2 a3 v4 s.1 s.2
def K22_k2 (L3 : List F) (v4 : Int) (y16 : F) : Option (LR ((List F) × Int) ((List F)) ((List F))) :=
 obind (fnarrow y16) fun (y17 : F) =>
 need (apok 4 L3.length 1) <|
 olet (IntKind.i64.wrap (v4 + 1)) fun (x18 : Int) =>
 some (LR.next ((L3 ++ ([y17] : List F)), x18))
def K22_b3 (a0 : Int) (a1 : Int) (a2 : List F) (a3 : List F) (a4 : List F) (L3 : List F) (v4 : Int) : Option (LR ((List F) × Int) ((List F)) ((List F))) :=
 bsel (decide (v4 < a0)) (
  obind (at? a4 v4) fun (e5 : F) =>
  olet (fwiden e5) fun (x6 : F) =>
  obind (loopM (K22_s2 a0 a1 a2 a3 v4) (x6, 0)) fun z => osum z (fun e => K22_k2 L3 v4 e) (fun r => some (LR.ret r))) (
  some (LR.out L3))
def K22_s3 (a0 : Int) (a1 : Int) (a2 : List F) (a3 : List F) (a4 : List F) : ((List F) × Int) → Option (LR ((List F) × Int) ((List F)) ((List F))) := fun s => K22_b3 a0 a1 a2 a3 a4 s.1 s.2
def K22_k3 (L21 : List F) : Option ((List F)) :=
 some L21
def K22 (a0 : Int) (a1 : Int) (a2 : List F) (a3 : List F) (a4 : List F) : Option ((List F)) :=
 obind (loopM (K22_s3 a0 a1 a2 a3 a4) (([] : List F), 0)) fun z => osum z (fun e => K22_k3 e) (fun r => some r)
theorem K22_ok (a0 : Int) (a1 : Int) (a2 : List F) (a3 : List F) (a4 : List F) (q0 : List F) (h : K22 a0 a1 a2 a3 a4 = some q0) : Ev Tryz.prog 39 [agg (mXc a0 a1 a2), (sFc a3), (sFc a4)] [] (oref 0 0 0 q0.length) [oF 0 q0] := by
 refine yE Tryz.func39 2 97 0 [(0, agg (mXc a0 a1 a2)), (1, (sFc a3)), (2, (sFc a4))] [o0, o0] rfl ?_
 unfold K22 at h
 refine zQ<|yd rfl (ptr (mXc a0 a1 a2)) (TOp.box_s rfl rfl rfl)<|ya rfl nilsl<|zN ?_
 refine zQ<|ye rfl (oref 0 1 0 0) ([⟨1, some (([] : List F).map f32)⟩, o0]) (TOp.buildSlice_o (g := o0) (za := f32 (some 0)) (qs := []) 0 rfl und25 siz30 zer30 rfl zel30 rfl rfl trivial rfl)<|ya rfl (oref 0 1 0 0)<|zN ?_
 refine yS<|zQ<|yl rfl (ptr (mXc a0 a1 a2)) (LOp.fap und27 rfl siz2 rfl rfl rfl)<|yl rfl (i64 a0) (y2 agg2)<|ym rfl (i64 0)<|zN ?_
 obtain ⟨z4, hz_4, h⟩ := oS h
 refine RunC.cutN (fun τ Γ => ∃ (L21 : List F) (u19 : Nat) (u20 : Nat), WeakLe τ [(7, oref 0 u19 0 L21.length)] ∧ DeadLe Γ [⟨u19, some (L21.map f32)⟩, ⟨u20, none⟩] ∧ z4 = .inl L21) ?_ ?_
 ·refine RunC.block (RunC.loop (RunL.loopM (x := z4) (K22_s3 a0 a1 a2 a3 a4) (fun (s : (List F) × Int) τ Γ => ∃ (u1 : Nat) (u2 : Nat), WeakLe τ [(1, (sFc a3)), (2, (sFc a4)), (3, ptr (mXc a0 a1 a2)), (7, oref 0 u1 0 s.1.length), (14, i64 a0), (15, i64 s.2)] ∧ DeadLe Γ [⟨u1, some (s.1.map f32)⟩, ⟨u2, none⟩]) ?_ _ _ _ hz_4 ⟨1, 0, ⟨aR, aR, aR, aR, aR, aR, trivial⟩, ⟨⟨rfl, .inr rfl⟩, ⟨rfl, .inl rfl⟩, trivial⟩⟩))
  rintro ⟨L3, v4⟩ τ4 Γ4 y4_ ⟨u1, u2, hw4, hd4⟩ h4_ ho4 hr4
  refine RunC.wl (τ' := [(1, (sFc a3)), (2, (sFc a4)), (3, ptr (mXc a0 a1 a2)), (7, oref 0 u1 0 L3.length), (14, i64 a0), (15, i64 v4)]) (Γ' := [⟨u1, some (L3.map f32)⟩, ⟨u2, none⟩]) hw4 hd4 ?_
  replace h4_ : K22_b3 a0 a1 a2 a3 a4 L3 v4 = some y4_ := h4_
  unfold K22_b3 at h4_
  refine yS ?_
  rcases oB h4_ with ⟨hc1, h4_⟩ | ⟨hc1, h4_⟩
  ·refine yW<|yl rfl (b true) (LOp.eqb (LOp.lss rfl rfl rfl) hc1)<|zN ?_
   refine yS<|yT<|RunC.skip<|yS<|RunC.block<|zQ<|ym rfl (i64 v4)<|ya rfl (i64 v4)<|zN ?_
   refine yS ?_
   obtain ⟨e5, he2, h4_⟩ := oS h4_
   obtain ⟨x6, hx3, h4_⟩ := oL h4_
   refine yW<|ym rfl (sFc a4)<|ym rfl (i64 v4)<|yl rfl (ptr [f32 e5]) (LOp.le (LOp.ix (f := f32) und25 siz30 rfl rfl rfl rfl he2) ALe.ptr)<|yl rfl (f32 e5) (y2 agg30)<|yd rfl (f64 x6) (TOp.eqr (TOp.widen (src := 30) (dst := 35) ⟨_, pun30⟩ pun35 rfl (OpF.tmp rfl)) (congrArg (f .f64) hx3))<|ya rfl (f64 x6)<|zN ?_
   refine yS<|zQ<|ym rfl (sFc a3)<|yl rfl (i64 (a3.length : Int)) (LOp.len_sl und25 rfl rfl)<|ym rfl (i64 0)<|zN ?_
   obtain ⟨z5, hz_5, h4_⟩ := oS h4_
   refine RunC.cutN (fun τ Γ => ∃ (y16 : F), WeakLe τ [(1, (sFc a3)), (2, (sFc a4)), (3, ptr (mXc a0 a1 a2)), (7, oref 0 u1 0 L3.length), (9, f64 y16), (14, i64 a0), (15, i64 v4)] ∧ DeadLe Γ [⟨u1, some (L3.map f32)⟩, ⟨u2, none⟩] ∧ z5 = .inl y16) ?_ ?_
   ·refine RunC.block (RunC.loop (RunL.loopM (x := z5) (K22_s2 a0 a1 a2 a3 v4) (fun (s : F × Int) τ Γ => WeakLe τ [(1, (sFc a3)), (2, (sFc a4)), (3, ptr (mXc a0 a1 a2)), (7, oref 0 u1 0 L3.length), (8, i64 v4), (9, f64 s.1), (14, i64 a0), (15, i64 v4), (23, (sFc a3)), (24, i64 (a3.length : Int)), (25, i64 s.2)] ∧ DeadLe Γ [⟨u1, some (L3.map f32)⟩, ⟨u2, none⟩]) ?_ _ _ _ hz_5 ⟨⟨aR, aR, aR, aR, aR, aR, aR, aR, aR, aR, aR, trivial⟩, ⟨⟨rfl, .inr rfl⟩, ⟨rfl, .inl rfl⟩, trivial⟩⟩))
    rintro ⟨y7, v8⟩ τ5 Γ5 y5_ ⟨hw5, hd5⟩ h5_ ho5 hr5
    refine RunC.wl (τ' := [(1, (sFc a3)), (2, (sFc a4)), (3, ptr (mXc a0 a1 a2)), (7, oref 0 u1 0 L3.length), (8, i64 v4), (9, f64 y7), (14, i64 a0), (15, i64 v4), (23, (sFc a3)), (24, i64 (a3.length : Int)), (25, i64 v8)]) (Γ' := [⟨u1, some (L3.map f32)⟩, ⟨u2, none⟩]) hw5 hd5 ?_
    replace h5_ : K22_b2 a0 a1 a2 a3 v4 y7 v8 = some y5_ := h5_
    unfold K22_b2 at h5_
    refine yS ?_
    rcases oB h5_ with ⟨hc4, h5_⟩ | ⟨hc4, h5_⟩
    ·refine yW<|yl rfl (b true) (LOp.eqb (LOp.lss rfl rfl rfl) hc4)<|zN ?_
     refine yS<|yT<|RunC.skip<|yS<|RunC.block<|yS ?_
     obtain ⟨e9, he5, h5_⟩ := oS h5_
     refine yW<|ym rfl (i64 v8)<|yl rfl (ptr [f32 e9]) (LOp.le (LOp.ix (f := f32) und25 siz30 rfl rfl rfl rfl he5) ALe.ptr)<|yl rfl (f32 e9) (y2 agg30)<|ya rfl (i64 v8)<|ya rfl (f32 e9)<|zN ?_
     obtain ⟨r10, hf6, h5_⟩ := oS h5_
     obtain ⟨x11, hx7, h5_⟩ := oL h5_
     obtain ⟨x12, hx8, h5_⟩ := oL h5_
     obtain ⟨r13, hf9, h5_⟩ := oS h5_
     obtain ⟨x14, hx10, h5_⟩ := oL h5_
     refine yW<|ym rfl (f64 y7)<|yl rfl (agg (mXc a0 a1 a2)) (yL agg27 siz27)<|ym rfl (i64 v4)<|ym rfl (i64 v8)<|yd rfl (f32 r10) (TOp.callB (CallAs.func ent46 rfl rfl) (Bors.cons (Bor.agg (bP (bP (bS bN)))) (bP bN0)) rfl rfl (K0p_ok a0 a1 a2 v4 v8 r10 hf6))<|yd rfl (f64 x11) (TOp.eqr (TOp.widen (src := 30) (dst := 35) ⟨_, pun30⟩ pun35 rfl (OpF.tmp rfl)) (congrArg (f .f64) hx7))<|ym rfl (f32 e9)<|yd rfl (f64 x12) (TOp.eqr (TOp.widen (src := 30) (dst := 35) ⟨_, pun30⟩ pun35 rfl (OpF.tmp rfl)) (congrArg (f .f64) hx8))<|yd rfl (f64 r13) (yc ent77 rfl rfl (bP bN0) (K21_ok x11 x12 r13 hf9))<|yd rfl (f64 x14) (TOp.eqr (TOp.fop (.inr (.inl rfl)) rfl (OpF.tmp rfl) (OpF.tmp rfl)) (congrArg (f .f64) hx10))<|ya rfl (f64 x14)<|zN ?_
     refine RunC.wl (τ' := [(1, (sFc a3)), (2, (sFc a4)), (3, ptr (mXc a0 a1 a2)), (7, oref 0 u1 0 L3.length), (8, i64 v4), (9, f64 x14), (14, i64 a0), (15, i64 v4), (23, (sFc a3)), (24, i64 (a3.length : Int)), (25, i64 v8)]) (Γ' := [⟨u1, some (L3.map f32)⟩, ⟨u2, none⟩]) ⟨aR, aR, aR, aR, aR, aR, aR, aR, aR, aR, aR, trivial⟩ ⟨⟨rfl, .inr rfl⟩, ⟨rfl, .inl rfl⟩, trivial⟩ ?_
     obtain ⟨x15, hx11, h5_⟩ := oL h5_
     refine yW<|yl rfl (i64 x15) (LOp.eqr (LOp.add rfl rfl rfl) (congrArg (ik .i64) hx11))<|ym rfl (i64 x15)<|zN ?_
     cases oI h5_
     exact ⟨_, rfl, ⟨aR, aR, aR, aR, aR, aR, aR, aR, aR, aR, aR, trivial⟩, ⟨⟨rfl, .inr rfl⟩, ⟨rfl, .inl rfl⟩, trivial⟩⟩
    ·refine yW<|yl rfl (b false) (LOp.eqb (LOp.lss rfl rfl rfl) hc4)<|zN ?_
     refine yS<|yF<|RunC.exit ?_
     cases oI h5_
     have hx := ho5 _ rfl
     exact ⟨y7, ⟨aR, aR, aR, aR, aR, aR, aR, trivial⟩, ⟨⟨rfl, .inr rfl⟩, ⟨rfl, .inl rfl⟩, trivial⟩, hx⟩
   ·rintro τ6 Γ6 ⟨y16, hw6, hd6, rfl⟩
    refine RunC.wl hw6 hd6 ?_
    replace h4_ : K22_k2 L3 v4 y16 = some y4_ := h4_
    unfold K22_k2 at h4_
    obtain ⟨y17, hy12, h4_⟩ := oS h4_
    obtain ⟨hm13, h4_⟩ := need_some h4_
    refine yW<|ym rfl (oref 0 u1 0 L3.length)<|ym rfl (f64 y16)<|yd rfl (f32 y17) (TOp.narrow (src := 35) (dst := 30) ⟨_, pun35⟩ pun30 rfl (OpF.tmp rfl) hy12)<|ye rfl (oref 1 (u2 + 1) 0 1) ([⟨u1, some (L3.map f32)⟩, ⟨(u2 + 1), some (([y17] : List F).map f32)⟩]) (TOp.buildSlice_o (g := ⟨u2, none⟩) (za := f32 (some 0)) (qs := [(0, [f32 y17])]) 1 rfl und25 siz30 zer30 rfl zel30 rfl rfl ⟨rfl, ⟨_, ALe.refl _, rfl⟩, trivial⟩ rfl)<|ROps.app (f := f32) (xs := L3) (ys := ([y17] : List F)) (Γ' := [⟨(u1 + 1), some ((L3 ++ ([y17] : List F)).map f32)⟩, ⟨(u2 + 1), some (([y17] : List F).map f32)⟩]) rfl pun25 inf30 rfl rfl rfl rfl rfl rfl rfl rfl rfl (by simp) (ReadAs.own rfl (by simp)) (ones_map (fun _ => rfl)) (ap_by hm13) (ap_mx hm13) rfl<|ya rfl (oref 0 (u1 + 1) 0 (L3.length + 1))<|zN ?_
    refine RunC.wl (τ' := [(1, (sFc a3)), (2, (sFc a4)), (3, ptr (mXc a0 a1 a2)), (7, oref 0 (u1 + 1) 0 (L3.length + 1)), (14, i64 a0), (15, i64 v4)]) (Γ' := [⟨(u1 + 1), some ((L3 ++ ([y17] : List F)).map f32)⟩, ⟨(u2 + 1), none⟩]) ⟨aR, aR, aR, aR, aR, aR, trivial⟩ ⟨⟨rfl, .inr rfl⟩, ⟨rfl, .inl rfl⟩, trivial⟩ ?_
    obtain ⟨x18, hx14, h4_⟩ := oL h4_
    refine yW<|yl rfl (i64 x18) (LOp.eqr (LOp.add rfl rfl rfl) (congrArg (ik .i64) hx14))<|ym rfl (i64 x18)<|zN ?_
    cases oI h4_
    exact ⟨_, rfl, (u1 + 1), (u2 + 1), ⟨aR, aR, aR, (ALe.eq (by rw [(app_len rfl rfl)] <;> rfl)), aR, aR, trivial⟩, ⟨⟨rfl, .inr rfl⟩, ⟨rfl, .inl rfl⟩, trivial⟩⟩
  ·refine yW<|yl rfl (b false) (LOp.eqb (LOp.lss rfl rfl rfl) hc1)<|zN ?_
   refine yS<|yF<|RunC.exit ?_
   cases oI h4_
   have hx := ho4 _ rfl
   exact ⟨L3, u1, u2, ⟨aR, trivial⟩, ⟨⟨rfl, .inr rfl⟩, ⟨rfl, .inl rfl⟩, trivial⟩, hx⟩
 ·rintro τ7 Γ7 ⟨L21, u19, u20, hw7, hd7, rfl⟩
  refine RunC.wl hw7 hd7 ?_
  replace h : K22_k3 L21 = some q0 := h
  unfold K22_k3 at h
  refine zQ<|ym rfl (oref 0 u19 0 L21.length)<|ya rfl (oref 0 u19 0 L21.length)<|zN ?_
  refine RunC.ret ?_
  have hq := oI h
  subst q0
  exact bodyQ.mk (r' := oref 0 u19 0 L21.length) [(0, u19)] (.inr rfl) rfl (ndB_ok rfl) (by simp [ren, rens, sigma]) rfl (Res.one rfl (RV.tmp rfl)) (sA rfl trivial)
def K23 (a0 : Int) (a1 : Int) (a2 : List F) (a3 : List F) (a4 : List F) : Option (Bool × (List F)) :=
 obind (K0k a0 a1 a2) fun (r1 : Bool) =>
 bsel r1 (
  obind (K1x a3) fun (r2 : Bool) =>
  bsel r2 (
   obind (K1x a4) fun (r3 : Bool) =>
   bsel r3 (
    obind (K0a a4) fun (r4 : Int) =>
    bsel (!decide (r4 = a0)) (
     some (false, ([] : List F))) (
     obind (K0a a3) fun (r5 : Int) =>
     bsel (!decide (r5 = a1)) (
      some (false, ([] : List F))) (
      obind (K22 a0 a1 a2 a3 a4) fun (r6 : List F) =>
      obind (K1z r6) (fun z => osum z (fun y => obind2 (some y) fun (r7 : Bool) (r8 : List F) =>
       need (decide (r8.length = r6.length)) <|
       some (r7, r8)) (fun y => obind3 (some y) fun (r9 : Bool) (r10 : List F) (r11 : List F) =>
       need (decide (r10.length = r6.length)) <|
       some (r9, r11)))))) (
    some (false, ([] : List F)))) (
   some (false, ([] : List F)))) (
  some (false, ([] : List F)))
theorem K23_ok (a0 : Int) (a1 : Int) (a2 : List F) (a3 : List F) (a4 : List F) (q0 : Bool) (q1 : List F) (h : K23 a0 a1 a2 a3 a4 = some (q0, q1)) : Ev Tryz.prog 10 [agg (mXc a0 a1 a2), (sFc a3), (sFc a4)] [] (tup [oref 0 0 0 q1.length, b q0]) [oF 0 q1] := by
 refine yE Tryz.func10 2 85 0 [(0, agg (mXc a0 a1 a2)), (1, (sFc a3)), (2, (sFc a4))] [o0, o0] rfl ?_
 unfold K23 at h
 refine zQ<|yd rfl (ptr (mXc a0 a1 a2)) (TOp.box_s rfl rfl rfl)<|ya rfl nilsl<|ya rfl (b false)<|zN ?_
 refine yS<|yS ?_
 obtain ⟨r1, hf1, h⟩ := oS h
 rcases oB h with ⟨hc2, h⟩ | ⟨hc2, h⟩
 ·obtain ⟨r2, hf3, h⟩ := oS h
  rcases oB h with ⟨hc4, h⟩ | ⟨hc4, h⟩
  ·obtain ⟨r3, hf5, h⟩ := oS h
   rcases oB h with ⟨hc6, h⟩ | ⟨hc6, h⟩
   ·obtain ⟨r4, hf7, h⟩ := oS h
    rcases oB h with ⟨hc8, h⟩ | ⟨hc8, h⟩
    ·refine RunC.region_draw (Γ' := [o0, o0]) 27 mixed 
      (tl rfl (agg (mXc a0 a1 a2)) (yL agg27 siz27) <|
      (TR.d (r := b true) (fs := []) rfl rfl (TOp.eqb (TOp.callB (CallAs.func ent35 rfl rfl) (Bors.cons (Bor.agg (bP (bP (bS bN)))) bN) rfl rfl (K0k_ok a0 a1 a2 r1 hf1)) hc2) <|
      (tl rfl (b false) (LOp.eqb (LOp.not rfl rfl) rfl) <|
      (tm rfl (b false) <|
      (tm rfl (sFc a3) <|
      (TR.d (r := b true) (fs := []) rfl rfl (TOp.eqb (yc ent36 rfl rfl (bS bN) (K1x_ok a3 r2 hf3)) hc4) <|
      (tl rfl (b false) (LOp.eqb (LOp.not rfl rfl) rfl) <|
      (tl rfl (b false) yp <|
      (tm rfl (b false) <|
      (tm rfl (sFc a4) <|
      (TR.d (r := b true) (fs := []) rfl rfl (TOp.eqb (yc ent36 rfl rfl (bS bN) (K1x_ok a4 r3 hf5)) hc6) <|
      (tl rfl (b false) (LOp.eqb (LOp.not rfl rfl) rfl) <|
      (tl rfl (b false) yp <|
      (tm rfl (b false) <|
      (tm rfl (sFc a4) <|
      (TR.d (r := i64 r4) (fs := []) rfl rfl (yc ent37 rfl rfl (bS bN) (K0a_ok a4 r4 hf7)) <|
      (tl rfl (ptr (mXc a0 a1 a2)) (LOp.fap und27 rfl siz2 rfl rfl rfl) <|
      (tl rfl (i64 a0) (y2 agg2) <|
      (tl rfl (b true) (LOp.eqb (LOp.neq rfl rfl rfl) hc8) <|
      (tl rfl (b true) yp <|
      (tm rfl (b true) <|
      (ts rfl <|
      (ts rfl <|
      (ts rfl <|
      (ts rfl <|
      (ts rfl <|
      (tl rfl (b true) yq <|
      TR.nil))))))))))))))))))))))))))) rfl (by kernel_rfl) rfl fills_nil rfl ?_
     iterate 27 refine ROps.dropS ?_
     refine ROps.drop0<|zN ?_
     refine RunC.wl (τ' := [(1, (sFc a3)), (2, (sFc a4)), (3, ptr (mXc a0 a1 a2)), (34, b true)]) (Γ' := [o0, o0]) ⟨aR, aR, aR, aR, trivial⟩ ⟨⟨rfl, .inr rfl⟩, ⟨rfl, .inr rfl⟩, trivial⟩<|yT<|zQ<|ya rfl nilsl<|ya rfl (b false)<|zN ?_
     refine RunC.nil_slot (Γ' := [⟨1, some (([] : List F).map f32)⟩, o0]) 6 0 rfl rfl rfl<|RunC.ret ?_
     have hq := oI h
     obtain ⟨hq0, hq⟩ := Prod.mk.inj hq
     subst q0
     subst q1
     exact yB (tup [oref 0 1 0 (([] : List F).length), b false]) [(0, 1)] (Res.eq (Res.two rfl (RV.tmp rfl) (RV.tmp rfl)) (by first | rfl | (rw [(show ([] : List F).length = 0 from rfl)] <;> rfl))) (sA rfl trivial)
    ·obtain ⟨r5, hf9, h⟩ := oS h
     rcases oB h with ⟨hc10, h⟩ | ⟨hc10, h⟩
     ·refine RunC.region_draw (Γ' := [o0, o0]) 27 mixed 
       (tl rfl (agg (mXc a0 a1 a2)) (yL agg27 siz27) <|
       (TR.d (r := b true) (fs := []) rfl rfl (TOp.eqb (TOp.callB (CallAs.func ent35 rfl rfl) (Bors.cons (Bor.agg (bP (bP (bS bN)))) bN) rfl rfl (K0k_ok a0 a1 a2 r1 hf1)) hc2) <|
       (tl rfl (b false) (LOp.eqb (LOp.not rfl rfl) rfl) <|
       (tm rfl (b false) <|
       (tm rfl (sFc a3) <|
       (TR.d (r := b true) (fs := []) rfl rfl (TOp.eqb (yc ent36 rfl rfl (bS bN) (K1x_ok a3 r2 hf3)) hc4) <|
       (tl rfl (b false) (LOp.eqb (LOp.not rfl rfl) rfl) <|
       (tl rfl (b false) yp <|
       (tm rfl (b false) <|
       (tm rfl (sFc a4) <|
       (TR.d (r := b true) (fs := []) rfl rfl (TOp.eqb (yc ent36 rfl rfl (bS bN) (K1x_ok a4 r3 hf5)) hc6) <|
       (tl rfl (b false) (LOp.eqb (LOp.not rfl rfl) rfl) <|
       (tl rfl (b false) yp <|
       (tm rfl (b false) <|
       (tm rfl (sFc a4) <|
       (TR.d (r := i64 r4) (fs := []) rfl rfl (yc ent37 rfl rfl (bS bN) (K0a_ok a4 r4 hf7)) <|
       (tl rfl (ptr (mXc a0 a1 a2)) (LOp.fap und27 rfl siz2 rfl rfl rfl) <|
       (tl rfl (i64 a0) (y2 agg2) <|
       (tl rfl (b false) (LOp.eqb (LOp.neq rfl rfl rfl) hc8) <|
       (tl rfl (b false) yp <|
       (tm rfl (b false) <|
       (tm rfl (sFc a3) <|
       (TR.d (r := i64 r5) (fs := []) rfl rfl (yc ent37 rfl rfl (bS bN) (K0a_ok a3 r5 hf9)) <|
       (tl rfl (ptr [i64 a1, (sFc a2)]) (LOp.fap und27 rfl siz2 rfl rfl rfl) <|
       (tl rfl (i64 a1) (y2 agg2) <|
       (tl rfl (b true) (LOp.eqb (LOp.neq rfl rfl rfl) hc10) <|
       (tl rfl (b true) yp <|
       TR.nil))))))))))))))))))))))))))) rfl (by kernel_rfl) rfl fills_nil rfl ?_
      iterate 27 refine ROps.dropS ?_
      refine ROps.drop0<|zN ?_
      refine RunC.wl (τ' := [(1, (sFc a3)), (2, (sFc a4)), (3, ptr (mXc a0 a1 a2)), (34, b true)]) (Γ' := [o0, o0]) ⟨aR, aR, aR, aR, trivial⟩ ⟨⟨rfl, .inr rfl⟩, ⟨rfl, .inr rfl⟩, trivial⟩<|yT<|zQ<|ya rfl nilsl<|ya rfl (b false)<|zN ?_
      refine RunC.nil_slot (Γ' := [⟨1, some (([] : List F).map f32)⟩, o0]) 6 0 rfl rfl rfl<|RunC.ret ?_
      have hq := oI h
      obtain ⟨hq0, hq⟩ := Prod.mk.inj hq
      subst q0
      subst q1
      exact yB (tup [oref 0 1 0 (([] : List F).length), b false]) [(0, 1)] (Res.eq (Res.two rfl (RV.tmp rfl) (RV.tmp rfl)) (by first | rfl | (rw [(show ([] : List F).length = 0 from rfl)] <;> rfl))) (sA rfl trivial)
     ·refine RunC.region_draw (Γ' := [o0, o0]) 27 mixed 
       (tl rfl (agg (mXc a0 a1 a2)) (yL agg27 siz27) <|
       (TR.d (r := b true) (fs := []) rfl rfl (TOp.eqb (TOp.callB (CallAs.func ent35 rfl rfl) (Bors.cons (Bor.agg (bP (bP (bS bN)))) bN) rfl rfl (K0k_ok a0 a1 a2 r1 hf1)) hc2) <|
       (tl rfl (b false) (LOp.eqb (LOp.not rfl rfl) rfl) <|
       (tm rfl (b false) <|
       (tm rfl (sFc a3) <|
       (TR.d (r := b true) (fs := []) rfl rfl (TOp.eqb (yc ent36 rfl rfl (bS bN) (K1x_ok a3 r2 hf3)) hc4) <|
       (tl rfl (b false) (LOp.eqb (LOp.not rfl rfl) rfl) <|
       (tl rfl (b false) yp <|
       (tm rfl (b false) <|
       (tm rfl (sFc a4) <|
       (TR.d (r := b true) (fs := []) rfl rfl (TOp.eqb (yc ent36 rfl rfl (bS bN) (K1x_ok a4 r3 hf5)) hc6) <|
       (tl rfl (b false) (LOp.eqb (LOp.not rfl rfl) rfl) <|
       (tl rfl (b false) yp <|
       (tm rfl (b false) <|
       (tm rfl (sFc a4) <|
       (TR.d (r := i64 r4) (fs := []) rfl rfl (yc ent37 rfl rfl (bS bN) (K0a_ok a4 r4 hf7)) <|
       (tl rfl (ptr (mXc a0 a1 a2)) (LOp.fap und27 rfl siz2 rfl rfl rfl) <|
       (tl rfl (i64 a0) (y2 agg2) <|
       (tl rfl (b false) (LOp.eqb (LOp.neq rfl rfl rfl) hc8) <|
       (tl rfl (b false) yp <|
       (tm rfl (b false) <|
       (tm rfl (sFc a3) <|
       (TR.d (r := i64 r5) (fs := []) rfl rfl (yc ent37 rfl rfl (bS bN) (K0a_ok a3 r5 hf9)) <|
       (tl rfl (ptr [i64 a1, (sFc a2)]) (LOp.fap und27 rfl siz2 rfl rfl rfl) <|
       (tl rfl (i64 a1) (y2 agg2) <|
       (tl rfl (b false) (LOp.eqb (LOp.neq rfl rfl rfl) hc10) <|
       (tl rfl (b false) yp <|
       TR.nil))))))))))))))))))))))))))) rfl (by kernel_rfl) rfl fills_nil rfl ?_
      iterate 27 refine ROps.dropS ?_
      refine ROps.drop0<|zN ?_
      refine RunC.wl (τ' := [(1, (sFc a3)), (2, (sFc a4)), (3, ptr (mXc a0 a1 a2)), (34, b false)]) (Γ' := [o0, o0]) ⟨aR, aR, aR, aR, trivial⟩ ⟨⟨rfl, .inr rfl⟩, ⟨rfl, .inr rfl⟩, trivial⟩<|yF<|RunC.skip<|yS ?_
      obtain ⟨r6, hf11, h⟩ := oS h
      obtain ⟨z1, hf12, h⟩ := oS h
      rcases z1 with z1 | z1
      ·replace h := (osum_inl _ _ _).symm.trans h
       obtain ⟨r7, r8, hz2, h⟩ := obind2_some h
       cases hz2
       obtain ⟨hn13, h⟩ := need_some h
       refine yW<|yl rfl (agg (mXc a0 a1 a2)) (yL agg27 siz27)<|ym rfl (sFc a3)<|ym rfl (sFc a4)<|ye rfl (oref 0 1 0 r6.length) [oF 1 r6, o0] (TOp.callBN (ls := [(r6.map f32)]) [0] (CallAs.func ent39 rfl rfl) (Bors.cons (Bor.agg (bP (bP (bS bN)))) (bS (bS bN))) rfl (K22_ok a0 a1 a2 a3 a4 r6 hf11) (and_all (lts0_map (f := f32) (fun _ => rfl) _) rfl) (and_all (noss_map (f := f32) (fun _ => rfl) _) rfl) rfl (by decide) (ns_of ⟨⟨_, rfl⟩, trivial⟩))<|ROps.callO (A := [oref 0 1 0 r6.length]) (args := [oref 0 0 0 r6.length]) (Γc := [oF 0 r6]) (Γc' := [oF 0 r8]) (r' := tup [oref 0 1 0 r6.length, b r7]) (Γ' := [oF 1 r8, o0]) [(0, 1)] [] rfl (CallAs.func ent38 rfl rfl) rfl rfl (SelOk.of (ndB_ok rfl) (sA rfl trivial)) (live_of ⟨⟨_, _, rfl⟩, trivial⟩) (by simp [ren, rens, sigma, rens_f32, rens_f64, rens_i64, rens_ik, rens_str, rens_cp]) rfl (K1z_ok0 r6 r7 r8 hf12) rfl (news_of trivial) (ndB_ok rfl) (by simp [ren, rens, sigma, of_decide_eq_true hn13]) (by simp [backOb, sigma, ren, rens, rens_f32, rens_f64, rens_i64, rens_ik, rens_str, rens_cp] <;> omega)<|yl rfl (oref 0 1 0 r6.length) y3<|yl rfl (b r7) y3<|ya rfl (oref 0 1 0 r6.length)<|ya rfl (b r7)<|zN ?_
       refine RunC.ret ?_
       have hq := oI h
       obtain ⟨hq0, hq⟩ := Prod.mk.inj hq
       subst q0
       subst q1
       exact yB (tup [oref 0 1 0 r8.length, b r7]) [(0, 1)] (Res.eq (Res.two rfl (RV.tmp rfl) (RV.tmp rfl)) (by first | rfl | (rw [(show r8.length = r6.length from (of_decide_eq_true hn13))] <;> rfl))) (sA rfl trivial)
      ·replace h := (osum_inr _ _ _).symm.trans h
       obtain ⟨r9, r10, r11, hz3, h⟩ := obind3_some h
       cases hz3
       obtain ⟨hn14, h⟩ := need_some h
       refine yW<|yl rfl (agg (mXc a0 a1 a2)) (yL agg27 siz27)<|ym rfl (sFc a3)<|ym rfl (sFc a4)<|ye rfl (oref 0 1 0 r6.length) [oF 1 r6, o0] (TOp.callBN (ls := [(r6.map f32)]) [0] (CallAs.func ent39 rfl rfl) (Bors.cons (Bor.agg (bP (bP (bS bN)))) (bS (bS bN))) rfl (K22_ok a0 a1 a2 a3 a4 r6 hf11) (and_all (lts0_map (f := f32) (fun _ => rfl) _) rfl) (and_all (noss_map (f := f32) (fun _ => rfl) _) rfl) rfl (by decide) (ns_of ⟨⟨_, rfl⟩, trivial⟩))<|ROps.callO (A := [oref 0 1 0 r6.length]) (args := [oref 0 0 0 r6.length]) (Γc := [oF 0 r6]) (Γc' := [oF 0 r10, oF 0 r11]) (r' := tup [oref 1 1 0 r11.length, b r9]) (Γ' := [oF 1 r10, oF 1 r11]) [(0, 1)] [(1, 1)] rfl (CallAs.func ent38 rfl rfl) rfl rfl (SelOk.of (ndB_ok rfl) (sA rfl trivial)) (live_of ⟨⟨_, _, rfl⟩, trivial⟩) (by simp [ren, rens, sigma, rens_f32, rens_f64, rens_i64, rens_ik, rens_str, rens_cp]) rfl (K1z_ok1 r6 r9 r10 r11 hf12) rfl (news_of ⟨⟨_, rfl, rfl⟩, trivial⟩) (show List.Nodup [0, 1] from by decide) (by simp [ren, rens, sigma, of_decide_eq_true hn14]) (by simp [backOb, sigma, ren, rens, rens_f32, rens_f64, rens_i64, rens_ik, rens_str, rens_cp] <;> omega)<|yl rfl (oref 1 1 0 r11.length) y3<|yl rfl (b r9) y3<|ya rfl (oref 1 1 0 r11.length)<|ya rfl (b r9)<|zN ?_
       refine RunC.ret ?_
       have hq := oI h
       obtain ⟨hq0, hq⟩ := Prod.mk.inj hq
       subst q0
       subst q1
       exact yB (tup [oref 1 1 0 r11.length, b r9]) [(1, 1)] (Res.two rfl (RV.tmp rfl) (RV.tmp rfl)) (sA rfl trivial)
   ·refine RunC.region_draw (Γ' := [o0, o0]) 27 mixed 
     (tl rfl (agg (mXc a0 a1 a2)) (yL agg27 siz27) <|
     (TR.d (r := b true) (fs := []) rfl rfl (TOp.eqb (TOp.callB (CallAs.func ent35 rfl rfl) (Bors.cons (Bor.agg (bP (bP (bS bN)))) bN) rfl rfl (K0k_ok a0 a1 a2 r1 hf1)) hc2) <|
     (tl rfl (b false) (LOp.eqb (LOp.not rfl rfl) rfl) <|
     (tm rfl (b false) <|
     (tm rfl (sFc a3) <|
     (TR.d (r := b true) (fs := []) rfl rfl (TOp.eqb (yc ent36 rfl rfl (bS bN) (K1x_ok a3 r2 hf3)) hc4) <|
     (tl rfl (b false) (LOp.eqb (LOp.not rfl rfl) rfl) <|
     (tl rfl (b false) yp <|
     (tm rfl (b false) <|
     (tm rfl (sFc a4) <|
     (TR.d (r := b false) (fs := []) rfl rfl (TOp.eqb (yc ent36 rfl rfl (bS bN) (K1x_ok a4 r3 hf5)) hc6) <|
     (tl rfl (b true) (LOp.eqb (LOp.not rfl rfl) rfl) <|
     (tl rfl (b true) yp <|
     (tm rfl (b true) <|
     (ts rfl <|
     (ts rfl <|
     (ts rfl <|
     (ts rfl <|
     (ts rfl <|
     (tl rfl (b true) yq <|
     (tm rfl (b true) <|
     (ts rfl <|
     (ts rfl <|
     (ts rfl <|
     (ts rfl <|
     (ts rfl <|
     (tl rfl (b true) yq <|
     TR.nil))))))))))))))))))))))))))) rfl (by kernel_rfl) rfl fills_nil rfl ?_
    iterate 27 refine ROps.dropS ?_
    refine ROps.drop0<|zN ?_
    refine RunC.wl (τ' := [(1, (sFc a3)), (2, (sFc a4)), (3, ptr (mXc a0 a1 a2)), (34, b true)]) (Γ' := [o0, o0]) ⟨aR, aR, aR, aR, trivial⟩ ⟨⟨rfl, .inr rfl⟩, ⟨rfl, .inr rfl⟩, trivial⟩<|yT<|zQ<|ya rfl nilsl<|ya rfl (b false)<|zN ?_
    refine RunC.nil_slot (Γ' := [⟨1, some (([] : List F).map f32)⟩, o0]) 6 0 rfl rfl rfl<|RunC.ret ?_
    have hq := oI h
    obtain ⟨hq0, hq⟩ := Prod.mk.inj hq
    subst q0
    subst q1
    exact yB (tup [oref 0 1 0 (([] : List F).length), b false]) [(0, 1)] (Res.eq (Res.two rfl (RV.tmp rfl) (RV.tmp rfl)) (by first | rfl | (rw [(show ([] : List F).length = 0 from rfl)] <;> rfl))) (sA rfl trivial)
  ·refine RunC.region_draw (Γ' := [o0, o0]) 27 mixed 
    (tl rfl (agg (mXc a0 a1 a2)) (yL agg27 siz27) <|
    (TR.d (r := b true) (fs := []) rfl rfl (TOp.eqb (TOp.callB (CallAs.func ent35 rfl rfl) (Bors.cons (Bor.agg (bP (bP (bS bN)))) bN) rfl rfl (K0k_ok a0 a1 a2 r1 hf1)) hc2) <|
    (tl rfl (b false) (LOp.eqb (LOp.not rfl rfl) rfl) <|
    (tm rfl (b false) <|
    (tm rfl (sFc a3) <|
    (TR.d (r := b false) (fs := []) rfl rfl (TOp.eqb (yc ent36 rfl rfl (bS bN) (K1x_ok a3 r2 hf3)) hc4) <|
    (tl rfl (b true) (LOp.eqb (LOp.not rfl rfl) rfl) <|
    (tl rfl (b true) yp <|
    (tm rfl (b true) <|
    (ts rfl <|
    (ts rfl <|
    (ts rfl <|
    (tl rfl (b true) yq <|
    (tm rfl (b true) <|
    (ts rfl <|
    (ts rfl <|
    (ts rfl <|
    (ts rfl <|
    (ts rfl <|
    (tl rfl (b true) yq <|
    (tm rfl (b true) <|
    (ts rfl <|
    (ts rfl <|
    (ts rfl <|
    (ts rfl <|
    (ts rfl <|
    (tl rfl (b true) yq <|
    TR.nil))))))))))))))))))))))))))) rfl (by kernel_rfl) rfl fills_nil rfl ?_
   iterate 27 refine ROps.dropS ?_
   refine ROps.drop0<|zN ?_
   refine RunC.wl (τ' := [(1, (sFc a3)), (2, (sFc a4)), (3, ptr (mXc a0 a1 a2)), (34, b true)]) (Γ' := [o0, o0]) ⟨aR, aR, aR, aR, trivial⟩ ⟨⟨rfl, .inr rfl⟩, ⟨rfl, .inr rfl⟩, trivial⟩<|yT<|zQ<|ya rfl nilsl<|ya rfl (b false)<|zN ?_
   refine RunC.nil_slot (Γ' := [⟨1, some (([] : List F).map f32)⟩, o0]) 6 0 rfl rfl rfl<|RunC.ret ?_
   have hq := oI h
   obtain ⟨hq0, hq⟩ := Prod.mk.inj hq
   subst q0
   subst q1
   exact yB (tup [oref 0 1 0 (([] : List F).length), b false]) [(0, 1)] (Res.eq (Res.two rfl (RV.tmp rfl) (RV.tmp rfl)) (by first | rfl | (rw [(show ([] : List F).length = 0 from rfl)] <;> rfl))) (sA rfl trivial)
 ·refine RunC.region_draw (Γ' := [o0, o0]) 27 mixed 
   (tl rfl (agg (mXc a0 a1 a2)) (yL agg27 siz27) <|
   (TR.d (r := b false) (fs := []) rfl rfl (TOp.eqb (TOp.callB (CallAs.func ent35 rfl rfl) (Bors.cons (Bor.agg (bP (bP (bS bN)))) bN) rfl rfl (K0k_ok a0 a1 a2 r1 hf1)) hc2) <|
   (tl rfl (b true) (LOp.eqb (LOp.not rfl rfl) rfl) <|
   (tm rfl (b true) <|
   (ts rfl <|
   (ts rfl <|
   (ts rfl <|
   (tl rfl (b true) yq <|
   (tm rfl (b true) <|
   (ts rfl <|
   (ts rfl <|
   (ts rfl <|
   (tl rfl (b true) yq <|
   (tm rfl (b true) <|
   (ts rfl <|
   (ts rfl <|
   (ts rfl <|
   (ts rfl <|
   (ts rfl <|
   (tl rfl (b true) yq <|
   (tm rfl (b true) <|
   (ts rfl <|
   (ts rfl <|
   (ts rfl <|
   (ts rfl <|
   (ts rfl <|
   (tl rfl (b true) yq <|
   TR.nil))))))))))))))))))))))))))) rfl (by kernel_rfl) rfl fills_nil rfl ?_
  iterate 27 refine ROps.dropS ?_
  refine ROps.drop0<|zN ?_
  refine RunC.wl (τ' := [(1, (sFc a3)), (2, (sFc a4)), (3, ptr (mXc a0 a1 a2)), (34, b true)]) (Γ' := [o0, o0]) ⟨aR, aR, aR, aR, trivial⟩ ⟨⟨rfl, .inr rfl⟩, ⟨rfl, .inr rfl⟩, trivial⟩<|yT<|zQ<|ya rfl nilsl<|ya rfl (b false)<|zN ?_
  refine RunC.nil_slot (Γ' := [⟨1, some (([] : List F).map f32)⟩, o0]) 6 0 rfl rfl rfl<|RunC.ret ?_
  have hq := oI h
  obtain ⟨hq0, hq⟩ := Prod.mk.inj hq
  subst q0
  subst q1
  exact yB (tup [oref 0 1 0 (([] : List F).length), b false]) [(0, 1)] (Res.eq (Res.two rfl (RV.tmp rfl) (RV.tmp rfl)) (by first | rfl | (rw [(show ([] : List F).length = 0 from rfl)] <;> rfl))) (sA rfl trivial)
def K24_b1 (a0 : List F) (a1 : List F) (y1 : F) (v2 : Int) : Option (LR (F × Int) (F) (F)) :=
 bsel (decide (v2 < (a0.length : Int))) (
  obind (at? a0 v2) fun (e3 : F) =>
  obind (at? a1 v2) fun (e4 : F) =>
  obind (K0u e3 e4) fun (r5 : F) =>
  olet (fop .add .f32 y1 r5) fun (x6 : F) =>
  olet (IntKind.i64.wrap (v2 + 1)) fun (x7 : Int) =>
  some (LR.next (x6, x7))) (
  some (LR.out y1))
def K24_s1 (a0 : List F) (a1 : List F) : (F × Int) → Option (LR (F × Int) (F) (F)) := fun s => K24_b1 a0 a1 s.1 s.2
def K24_k1 (y8 : F) : Option (F) :=
 some y8
def K24 (a0 : List F) (a1 : List F) : Option (F) :=
 obind (loopM (K24_s1 a0 a1) (some 0, 0)) fun z => osum z (fun e => K24_k1 e) (fun r => some r)
theorem K24_ok (a0 : List F) (a1 : List F) (q0 : F) (h : K24 a0 a1 = some q0) : Ev Tryz.prog 73 [(sFc a0), (sFc a1)] [] (f32 q0) [] := by
 refine yE Tryz.func73 0 51 0 [(0, (sFc a0)), (1, (sFc a1))] [] rfl ?_
 unfold K24 at h
 refine zQ<|yl rfl (f32 (some 0)) (LOp.le (LOp.assign rfl rfl) (ALe.fl (by kernel_rfl) (by kernel_rfl)))<|zN ?_
 refine zQ<|yl rfl (f32 (some 0)) (LOp.le (LOp.assign rfl rfl) (ALe.fl (by kernel_rfl) (by kernel_rfl)))<|zN ?_
 refine yS<|zQ<|ym rfl (sFc a0)<|yl rfl (i64 (a0.length : Int)) (LOp.len_sl und25 rfl rfl)<|ym rfl (i64 0)<|zN ?_
 obtain ⟨z2, hz_2, h⟩ := oS h
 refine RunC.cutN (fun τ Γ => ∃ (y8 : F), WeakLe τ [(5, f32 y8)] ∧ DeadLe Γ [] ∧ z2 = .inl y8) ?_ ?_
 ·refine RunC.block (RunC.loop (RunL.loopM (x := z2) (K24_s1 a0 a1) (fun (s : F × Int) τ Γ => WeakLe τ [(1, (sFc a1)), (5, f32 s.1), (8, (sFc a0)), (9, i64 (a0.length : Int)), (10, i64 s.2)] ∧ DeadLe Γ []) ?_ _ _ _ hz_2 ⟨⟨aR, aR, aR, aR, aR, trivial⟩, trivial⟩))
  rintro ⟨y1, v2⟩ τ2 Γ2 y2_ ⟨hw2, hd2⟩ h2_ ho2 hr2
  refine RunC.wl (τ' := [(1, (sFc a1)), (5, f32 y1), (8, (sFc a0)), (9, i64 (a0.length : Int)), (10, i64 v2)]) (Γ' := []) hw2 hd2 ?_
  replace h2_ : K24_b1 a0 a1 y1 v2 = some y2_ := h2_
  unfold K24_b1 at h2_
  refine yS ?_
  rcases oB h2_ with ⟨hc1, h2_⟩ | ⟨hc1, h2_⟩
  ·refine yW<|yl rfl (b true) (LOp.eqb (LOp.lss rfl rfl rfl) hc1)<|zN ?_
   refine yS<|yT<|RunC.skip<|yS<|RunC.block<|yS ?_
   obtain ⟨e3, he2, h2_⟩ := oS h2_
   refine yW<|ym rfl (i64 v2)<|yl rfl (ptr [f32 e3]) (LOp.le (LOp.ix (f := f32) und25 siz30 rfl rfl rfl rfl he2) ALe.ptr)<|yl rfl (f32 e3) (y2 agg30)<|ya rfl (i64 v2)<|ya rfl (f32 e3)<|zN ?_
   obtain ⟨e4, he3, h2_⟩ := oS h2_
   obtain ⟨r5, hf4, h2_⟩ := oS h2_
   obtain ⟨x6, hx5, h2_⟩ := oL h2_
   refine yW<|ym rfl (f32 y1)<|ym rfl (f32 e3)<|ym rfl (sFc a1)<|ym rfl (i64 v2)<|yl rfl (ptr [f32 e4]) (LOp.le (LOp.ix (f := f32) und25 siz30 rfl rfl rfl rfl he3) ALe.ptr)<|yl rfl (f32 e4) (y2 agg30)<|yd rfl (f32 r5) (yc ent29 rfl rfl (bP bN0) (K0u_ok e3 e4 r5 hf4))<|yd rfl (f32 x6) (TOp.eqr (TOp.fop (.inl rfl) rfl (OpF.tmp rfl) (OpF.tmp rfl)) (congrArg (f .f32) hx5))<|ya rfl (f32 x6)<|zN ?_
   refine RunC.wl (τ' := [(1, (sFc a1)), (5, f32 x6), (8, (sFc a0)), (9, i64 (a0.length : Int)), (10, i64 v2)]) (Γ' := []) ⟨aR, aR, aR, aR, aR, trivial⟩ trivial ?_
   obtain ⟨x7, hx6, h2_⟩ := oL h2_
   refine yW<|yl rfl (i64 x7) (LOp.eqr (LOp.add rfl rfl rfl) (congrArg (ik .i64) hx6))<|ym rfl (i64 x7)<|zN ?_
   cases oI h2_
   exact ⟨_, rfl, ⟨aR, aR, aR, aR, aR, trivial⟩, trivial⟩
  ·refine yW<|yl rfl (b false) (LOp.eqb (LOp.lss rfl rfl rfl) hc1)<|zN ?_
   refine yS<|yF<|RunC.exit ?_
   cases oI h2_
   have hx := ho2 _ rfl
   exact ⟨y1, ⟨aR, trivial⟩, trivial, hx⟩
 ·rintro τ3 Γ3 ⟨y8, hw3, hd3, rfl⟩
  refine RunC.wl hw3 hd3 ?_
  replace h : K24_k1 y8 = some q0 := h
  unfold K24_k1 at h
  refine zQ<|ym rfl (f32 y8)<|ya rfl (f32 y8)<|zN ?_
  refine RunC.ret ?_
  have hq := oI h
  subst q0
  exact bR rfl
def K25 (a0 : F) : Option (F) :=
 olet (fsqrt a0) fun (x1 : F) =>
 some x1
theorem K25_ok (a0 : F) (q0 : F) (h : K25 a0 = some q0) : Ev Tryz.prog 97 [f64 a0] [] (f64 q0) [] := by
 refine yE Tryz.func97 0 11 0 [(0, f64 a0)] [] rfl ?_
 unfold K25 at h
 refine zQ<|yl rfl (f64 (some 0)) (LOp.le (LOp.assign rfl rfl) (ALe.fl (by kernel_rfl) (by kernel_rfl)))<|zN ?_
 refine yS ?_
 obtain ⟨x1, hx1, h⟩ := oL h
 refine yW<|ym rfl (f64 a0)<|yd rfl (f64 x1) (TOp.eqr (TOp.fsqrt ext107 rfl (OpF.tmp rfl)) (congrArg (f .f64) hx1))<|ya rfl (f64 x1)<|zN ?_
 refine RunC.ret ?_
 have hq := oI h
 subst q0
 exact bR rfl
def K26 (a0 : F) : Option (F) :=
 olet (fwiden a0) fun (x1 : F) =>
 obind (K25 x1) fun (r2 : F) =>
 obind (fnarrow r2) fun (y3 : F) =>
 some y3
theorem K26_ok (a0 : F) (q0 : F) (h : K26 a0 = some q0) : Ev Tryz.prog 72 [f32 a0] [] (f32 q0) [] := by
 refine yE Tryz.func72 0 15 0 [(0, f32 a0)] [] rfl ?_
 unfold K26 at h
 refine zQ<|yl rfl (f32 (some 0)) (LOp.le (LOp.assign rfl rfl) (ALe.fl (by kernel_rfl) (by kernel_rfl)))<|zN ?_
 refine yS ?_
 obtain ⟨x1, hx1, h⟩ := oL h
 obtain ⟨r2, hf2, h⟩ := oS h
 obtain ⟨y3, hy3, h⟩ := oS h
 refine yW<|ym rfl (f32 a0)<|yd rfl (f64 x1) (TOp.eqr (TOp.widen (src := 30) (dst := 35) ⟨_, pun30⟩ pun35 rfl (OpF.tmp rfl)) (congrArg (f .f64) hx1))<|yd rfl (f64 r2) (yc ent97 rfl rfl bN0 (K25_ok x1 r2 hf2))<|yd rfl (f32 y3) (TOp.narrow (src := 35) (dst := 30) ⟨_, pun35⟩ pun30 rfl (OpF.tmp rfl) hy3)<|ya rfl (f32 y3)<|zN ?_
 refine RunC.ret ?_
 have hq := oI h
 subst q0
 exact bR rfl
def K27 (a0 : List F) : Option (F) :=
 obind (K24 a0 a0) fun (r1 : F) =>
 obind (K26 r1) fun (r2 : F) =>
 some r2
theorem K27_ok (a0 : List F) (q0 : F) (h : K27 a0 = some q0) : Ev Tryz.prog 33 [(sFc a0)] [] (f32 q0) [] := by
 refine yE Tryz.func33 0 15 0 [(0, (sFc a0))] [] rfl ?_
 unfold K27 at h
 refine zQ<|yl rfl (f32 (some 0)) (LOp.le (LOp.assign rfl rfl) (ALe.fl (by kernel_rfl) (by kernel_rfl)))<|zN ?_
 refine yS ?_
 obtain ⟨r1, hf1, h⟩ := oS h
 obtain ⟨r2, hf2, h⟩ := oS h
 refine yW<|ym rfl (sFc a0)<|ym rfl (sFc a0)<|yd rfl (f32 r1) (yc ent73 rfl rfl (bS (bS bN)) (K24_ok a0 a0 r1 hf1))<|yd rfl (f32 r2) (yc ent72 rfl rfl bN0 (K26_ok r1 r2 hf2))<|ya rfl (f32 r2)<|zN ?_
 refine RunC.ret ?_
 have hq := oI h
 subst q0
 exact bR rfl
def K28_b2 (r9 : List F) (r21 : List F) (L23 : List F) (v25 : Int) : Option (LR ((List F) × Int) ((List F)) (Bool × (List F) × (List F))) :=
 bsel (decide (v25 < ((r9.length : Nat) : Int))) (
  obind (at? L23 v25) fun (e26 : F) =>
  obind (at? r21 v25) fun (e27 : F) =>
  olet (fop .add .f32 e26 e27) fun (x28 : F) =>
  obind (setAt? L23 v25 x28) fun (L29 : List F) =>
  olet (IntKind.i64.wrap (v25 + 1)) fun (x30 : Int) =>
  some (LR.next (L29, x30))) (
  some (LR.out L23))
def K28_s2 (r9 : List F) (r21 : List F) : ((List F) × Int) → Option (LR ((List F) × Int) ((List F)) (Bool × (List F) × (List F))) := fun s => K28_b2 r9 r21 s.1 s.2
def K28_k2 (L16 : List F) (v17 : Int) (r22 : F) (L31 : List F) : Option (LR ((List F) × (List F) × Int) ((List F) × (List F)) (Bool × (List F) × (List F))) :=
 obind (K0j L31) fun (r34 : Bool) =>
 bsel r34 (
  obind (K0j (L16 ++ ([r22] : List F))) fun (r35 : Bool) =>
  bsel r35 (
   olet (IntKind.i64.wrap (v17 + 1)) fun (x36 : Int) =>
   some (LR.next (L31, (L16 ++ ([r22] : List F)), x36))) (
   some (LR.ret (false, ([] : List F), ([] : List F))))) (
  some (LR.ret (false, ([] : List F), ([] : List F))))
def K28_b3 (a0 : Int) (a1 : Int) (a2 : List F) (a3 : List F) (a4 : Int) (r1 : Int) (r2 : Int) (r4 : List F) (r5 : List Int) (r9 : List F) (L14 : List F) (L16 : List F) (v17 : Int) : Option (LR ((List F) × (List F) × Int) ((List F) × (List F)) (Bool × (List F) × (List F))) :=
 bsel (decide (v17 < a4)) (
  obind2 (K23 a0 a1 a2 L14 a3) fun (r18 : Bool) (r19 : List F) =>
  bsel r18 (
   obind2 (K20 r1 r2 r4 r5 r19) fun (r20 : Bool) (r21 : List F) =>
   bsel r20 (
    obind (K27 r19) fun (r22 : F) =>
    need (apok 4 L16.length 1) <|
    obind (loopM (K28_s2 r9 r21) (L14, 0)) fun z => osum z (fun e => K28_k2 L16 v17 r22 e) (fun r => some (LR.ret r))) (
    some (LR.ret (false, ([] : List F), ([] : List F))))) (
   some (LR.ret (false, ([] : List F), ([] : List F))))) (
  some (LR.out (L14, L16)))
def K28_s3 (a0 : Int) (a1 : Int) (a2 : List F) (a3 : List F) (a4 : Int) (r1 : Int) (r2 : Int) (r4 : List F) (r5 : List Int) (r9 : List F) : ((List F) × (List F) × Int) → Option (LR ((List F) × (List F) × Int) ((List F) × (List F)) (Bool × (List F) × (List F))) := fun s => K28_b3 a0 a1 a2 a3 a4 r1 r2 r4 r5 r9 s.1 s.2.1 s.2.2
def K28_k3 (L41 : List F) (L43 : List F) : Option (Bool × (List F) × (List F)) :=
 some (true, L41, L43)
def K28 (a0 : Int) (a1 : Int) (a2 : List F) (a3 : List F) (a4 : Int) : Option (Bool × (List F) × (List F)) :=
 obind5 (K0w a0 a1 a2) fun (r1 : Int) (r2 : Int) (r3 : Bool) (r4 : List F) (r5 : List Int) =>
 bsel r3 (
  obind (K1y r1 r2 r4 r5 a3) fun (r6 : Bool) =>
  bsel r6 (
   obind (K08 a4 0 8) fun (r7 : Bool) =>
   bsel r7 (
    obind2 (K20 r1 r2 r4 r5 a3) fun (r8 : Bool) (r9 : List F) =>
    bsel r8 (
     obind (loopM (K28_s3 a0 a1 a2 a3 a4 r1 r2 r4 r5 r9) (r9, ([] : List F), 0)) fun z => osum z (fun e => K28_k3 e.1 e.2) (fun r => some r)) (
     some (false, ([] : List F), ([] : List F)))) (
    some (false, ([] : List F), ([] : List F)))) (
   some (false, ([] : List F), ([] : List F)))) (
  some (false, ([] : List F), ([] : List F)))
theorem K28_ok (a0 : Int) (a1 : Int) (a2 : List F) (a3 : List F) (a4 : Int) (q0 : Bool) (q1 : List F) (q2 : List F) (h : K28 a0 a1 a2 a3 a4 = some (q0, q1, q2)) : Ev Tryz.prog 9 [agg (mXc a0 a1 a2), (sFc a3), i64 a4] [] (tup [oref 0 0 0 q1.length, oref 1 0 0 q2.length, b q0]) [oF 0 q1, oF 0 q2] := by
 refine yE Tryz.func9 9 193 0 [(0, agg (mXc a0 a1 a2)), (1, (sFc a3)), (2, i64 a4)] [o0, o0, o0, o0, o0, o0, o0, o0, o0] rfl ?_
 unfold K28 at h
 refine zQ<|yd rfl (ptr (mXc a0 a1 a2)) (TOp.box_s rfl rfl rfl)<|ya rfl nilsl<|ya rfl nilsl<|ya rfl (b false)<|zN ?_
 refine yS ?_
 obtain ⟨r1, r2, r3, r4, r5, hf1, h⟩ := obind5_some h
 rcases oB h with ⟨hc2, h⟩ | ⟨hc2, h⟩
 ·refine yW<|yl rfl (agg (mXc a0 a1 a2)) (yL agg27 siz27)<|ye rfl (tup [agg [i64 r1, i64 r2, oref 0 1 0 r4.length, oref 1 1 0 r5.length], b r3]) [oF 1 r4, oJ 1 r5, o0, o0, o0, o0, o0, o0, o0] (TOp.callBN (ls := [(r4.map f32), (r5.map i64)]) [0, 1] (CallAs.func ent25 rfl rfl) (Bors.cons (Bor.agg (bP (bP (bS bN)))) bN) rfl (K0w_ok a0 a1 a2 r1 r2 r3 r4 r5 hf1) (and_all (lts0_map (f := f32) (fun _ => rfl) _) (and_all (lts0_map (f := i64) (fun _ => rfl) _) rfl)) (and_all (noss_map (f := f32) (fun _ => rfl) _) (and_all (noss_map (f := i64) (fun _ => rfl) _) rfl)) rfl (by decide) (ns_of ⟨⟨_, rfl⟩, ⟨_, rfl⟩, trivial⟩))<|ym rfl (tup [agg [i64 r1, i64 r2, oref 0 1 0 r4.length, oref 1 1 0 r5.length], b r3])<|yl rfl (agg [i64 r1, i64 r2, oref 0 1 0 r4.length, oref 1 1 0 r5.length]) y3<|yl rfl (b true) (LOp.eqb y3 hc2)<|ye rfl (optr 2 1 0) ([oF 1 r4, oJ 1 r5, ⟨1, some [i64 0, i64 0, nilsl, nilsl]⟩, o0, o0, o0, o0, o0, o0]) (TOp.alloc_o (g := o0) 2 rfl zer41 zok41 rfl)<|ys (agg [i64 r1, i64 r2, oref 0 1 0 r4.length, oref 1 1 0 r5.length]) [i64 r1, i64 r2, oref 0 1 0 r4.length, oref 1 1 0 r5.length] ([oF 1 r4, oJ 1 r5, ⟨1, some [i64 r1, i64 r2, oref 0 1 0 r4.length, oref 1 1 0 r5.length]⟩, o0, o0, o0, o0, o0, o0]) siz41<|ya rfl (b true)<|zN ?_
  refine yS<|yS ?_
  obtain ⟨r6, hf3, h⟩ := oS h
  rcases oB h with ⟨hc4, h⟩ | ⟨hc4, h⟩
  ·obtain ⟨r7, hf5, h⟩ := oS h
   rcases oB h with ⟨hc6, h⟩ | ⟨hc6, h⟩
   ·refine yW<|ym rfl (b true)<|yl rfl (b false) y1<|ym rfl (b false)<|yd rfl (agg [i64 r1, i64 r2, oref 0 1 0 r4.length, oref 1 1 0 r5.length]) (yA agg41 siz41)<|ym rfl (sFc a3)<|yd rfl (b true) (TOp.eqb (TOp.callB (CallAs.func ent30 rfl rfl) (Bors.cons (Bor.agg (bP (bP (Bors.cons (Bor.own (f := f32) (fun _ => rfl) rfl rfl) (Bors.cons (Bor.own (f := i64) (fun _ => rfl) rfl rfl) bN))))) (bS bN)) rfl rfl (K1y_ok r1 r2 r4 r5 a3 r6 hf3)) hc4)<|yl rfl (b false) y1<|yl rfl (b false) yp<|ym rfl (b false)<|ym rfl (i64 a4)<|yd rfl (b true) (TOp.eqb (yc ent31 rfl rfl (bP (bP bN0)) (K08_ok a4 0 8 r7 hf5)) hc6)<|yl rfl (b false) y1<|yl rfl (b false) yp<|zN ?_
    refine RunC.wl (τ' := [(1, (sFc a3)), (2, i64 a4), (3, ptr (mXc a0 a1 a2)), (9, optr 2 1 0), (34, b false)]) (Γ' := [oF 1 r4, oJ 1 r5, ⟨1, some [i64 r1, i64 r2, oref 0 1 0 r4.length, oref 1 1 0 r5.length]⟩, o0, o0, o0, o0, o0, o0]) ⟨aR, aR, aR, aR, aR, trivial⟩ ⟨⟨rfl, .inr rfl⟩, ⟨rfl, .inr rfl⟩, ⟨rfl, .inr rfl⟩, ⟨rfl, .inr rfl⟩, ⟨rfl, .inr rfl⟩, ⟨rfl, .inr rfl⟩, ⟨rfl, .inr rfl⟩, ⟨rfl, .inr rfl⟩, ⟨rfl, .inr rfl⟩, trivial⟩<|yF<|RunC.skip<|yS ?_
    obtain ⟨r8, r9, hf7, h⟩ := obind2_some h
    rcases oB h with ⟨hc8, h⟩ | ⟨hc8, h⟩
    ·refine yW<|yd rfl (agg [i64 r1, i64 r2, oref 0 1 0 r4.length, oref 1 1 0 r5.length]) (yA agg41 siz41)<|ym rfl (sFc a3)<|ye rfl (tup [oref 3 1 0 r9.length, b r8]) ([oF 1 r4, oJ 1 r5, ⟨1, some [i64 r1, i64 r2, oref 0 1 0 r4.length, oref 1 1 0 r5.length]⟩, oF 1 r9, o0, o0, o0, o0, o0]) (TOp.callBN (ls := [(r9.map f32)]) [3] (CallAs.func ent32 rfl rfl) (Bors.cons (Bor.agg (bP (bP (Bors.cons (Bor.own (f := f32) (fun _ => rfl) rfl rfl) (Bors.cons (Bor.own (f := i64) (fun _ => rfl) rfl rfl) bN))))) (bS bN)) rfl (K20_ok r1 r2 r4 r5 a3 r8 r9 hf7) (and_all (lts0_map (f := f32) (fun _ => rfl) _) rfl) (and_all (noss_map (f := f32) (fun _ => rfl) _) rfl) rfl (by decide) (ns_of ⟨⟨_, rfl⟩, trivial⟩))<|ym rfl (tup [oref 3 1 0 r9.length, b r8])<|yl rfl (oref 3 1 0 r9.length) y3<|yl rfl (b true) (LOp.eqb y3 hc8)<|ya rfl (oref 3 1 0 r9.length)<|ya rfl (b true)<|zN ?_
     refine yS<|zQ<|ym rfl (b true)<|yl rfl (b false) y1<|zN ?_
     refine yF<|RunC.skip<|zQ<|ye rfl (oref 4 1 0 0) ([oF 1 r4, oJ 1 r5, ⟨1, some [i64 r1, i64 r2, oref 0 1 0 r4.length, oref 1 1 0 r5.length]⟩, oF 1 r9, ⟨1, some (([] : List F).map f32)⟩, o0, o0, o0, o0]) (TOp.buildSlice_o (g := o0) (za := f32 (some 0)) (qs := []) 4 rfl und25 siz30 zer30 rfl zel30 rfl rfl trivial rfl)<|ya rfl (oref 4 1 0 0)<|zN ?_
     refine yS<|zQ<|ym rfl (i64 a4)<|ym rfl (i64 0)<|zN ?_
     obtain ⟨z4, hz_4, h⟩ := oS h
     refine RunC.cutN (fun τ Γ => ∃ (L41 : List F) (L43 : List F) (u37 : Nat) (u38 : Nat) (u39 : Nat) (u40 : Nat), L41.length = r9.length ∧ WeakLe τ [(11, oref 3 1 0 r9.length), (12, oref 4 u37 0 L43.length)] ∧ DeadLe Γ [⟨1, none⟩, ⟨1, none⟩, ⟨1, none⟩, oF 1 L41, ⟨u37, some (L43.map f32)⟩, ⟨u38, none⟩, ⟨u39, none⟩, ⟨u40, none⟩, o0] ∧ z4 = .inl (L41, L43)) ?_ ?_
     ·refine RunC.block (RunC.loop (RunL.loopM (x := z4) (K28_s3 a0 a1 a2 a3 a4 r1 r2 r4 r5 r9) (fun (s : (List F) × (List F) × Int) τ Γ => ∃ (u10 : Nat) (u11 : Nat) (u12 : Nat) (u13 : Nat), s.1.length = r9.length ∧ WeakLe τ [(1, (sFc a3)), (3, ptr (mXc a0 a1 a2)), (9, optr 2 1 0), (11, oref 3 1 0 r9.length), (12, oref 4 u10 0 s.2.1.length), (44, i64 a4), (45, i64 s.2.2)] ∧ DeadLe Γ [oF 1 r4, oJ 1 r5, ⟨1, some [i64 r1, i64 r2, oref 0 1 0 r4.length, oref 1 1 0 r5.length]⟩, ⟨1, some (s.1.map f32)⟩, ⟨u10, some (s.2.1.map f32)⟩, ⟨u11, none⟩, ⟨u12, none⟩, ⟨u13, none⟩, o0]) ?_ _ _ _ hz_4 ⟨1, 0, 0, 0, rfl, ⟨aR, aR, aR, aR, aR, aR, aR, trivial⟩, ⟨⟨rfl, .inr rfl⟩, ⟨rfl, .inr rfl⟩, ⟨rfl, .inr rfl⟩, ⟨rfl, .inr rfl⟩, ⟨rfl, .inr rfl⟩, ⟨rfl, .inl rfl⟩, ⟨rfl, .inl rfl⟩, ⟨rfl, .inl rfl⟩, ⟨rfl, .inr rfl⟩, trivial⟩⟩))
      rintro ⟨L14, L16, v17⟩ τ4 Γ4 y4_ ⟨u10, u11, u12, u13, hl15, hw4, hd4⟩ h4_ ho4 hr4
      refine RunC.wl (τ' := [(1, (sFc a3)), (3, ptr (mXc a0 a1 a2)), (9, optr 2 1 0), (11, oref 3 1 0 r9.length), (12, oref 4 u10 0 L16.length), (44, i64 a4), (45, i64 v17)]) (Γ' := [oF 1 r4, oJ 1 r5, ⟨1, some [i64 r1, i64 r2, oref 0 1 0 r4.length, oref 1 1 0 r5.length]⟩, oF 1 L14, ⟨u10, some (L16.map f32)⟩, ⟨u11, none⟩, ⟨u12, none⟩, ⟨u13, none⟩, o0]) hw4 hd4 ?_
      replace hl15 : L14.length = r9.length := hl15
      replace h4_ : K28_b3 a0 a1 a2 a3 a4 r1 r2 r4 r5 r9 L14 L16 v17 = some y4_ := h4_
      unfold K28_b3 at h4_
      refine yS ?_
      rcases oB h4_ with ⟨hc9, h4_⟩ | ⟨hc9, h4_⟩
      ·refine yW<|yl rfl (b true) (LOp.eqb (LOp.lss rfl rfl rfl) hc9)<|zN ?_
       refine yS<|yT<|RunC.skip<|yS<|RunC.block<|yS ?_
       obtain ⟨r18, r19, hf10, h4_⟩ := obind2_some h4_
       rcases oB h4_ with ⟨hc11, h4_⟩ | ⟨hc11, h4_⟩
       ·refine yW<|yl rfl (agg (mXc a0 a1 a2)) (yL agg27 siz27)<|ym rfl (oref 3 1 0 r9.length)<|ym rfl (sFc a3)<|ye rfl (tup [oref 5 (u11 + 1) 0 r19.length, b r18]) ([oF 1 r4, oJ 1 r5, ⟨1, some [i64 r1, i64 r2, oref 0 1 0 r4.length, oref 1 1 0 r5.length]⟩, oF 1 L14, ⟨u10, some (L16.map f32)⟩, oF (u11 + 1) r19, ⟨u12, none⟩, ⟨u13, none⟩, o0]) (TOp.eqr (TOp.callBN (ls := [(r19.map f32)]) [5] (CallAs.func ent10 rfl rfl) (Bors.cons (Bor.agg (bP (bP (bS bN)))) (Bors.cons (Bor.own (f := f32) (fun _ => rfl) rfl hl15) (bS bN))) rfl (K23_ok a0 a1 a2 L14 a3 r18 r19 hf10) (and_all (lts0_map (f := f32) (fun _ => rfl) _) rfl) (and_all (noss_map (f := f32) (fun _ => rfl) _) rfl) rfl (by decide) (ns_of ⟨⟨_, rfl⟩, trivial⟩)) (by simp [ren, rens, sigma, newNames]))<|ym rfl (tup [oref 5 (u11 + 1) 0 r19.length, b r18])<|yl rfl (oref 5 (u11 + 1) 0 r19.length) y3<|yl rfl (b true) (LOp.eqb y3 hc11)<|ya rfl (oref 5 (u11 + 1) 0 r19.length)<|ya rfl (b true)<|zN ?_
        refine yS<|zQ<|ym rfl (b true)<|yl rfl (b false) y1<|zN ?_
        refine yF<|RunC.skip<|yS ?_
        obtain ⟨r20, r21, hf12, h4_⟩ := obind2_some h4_
        rcases oB h4_ with ⟨hc13, h4_⟩ | ⟨hc13, h4_⟩
        ·refine yW<|yd rfl (agg [i64 r1, i64 r2, oref 0 1 0 r4.length, oref 1 1 0 r5.length]) (yA agg41 siz41)<|ym rfl (oref 5 (u11 + 1) 0 r19.length)<|ye rfl (tup [oref 6 (u12 + 1) 0 r21.length, b r20]) ([oF 1 r4, oJ 1 r5, ⟨1, some [i64 r1, i64 r2, oref 0 1 0 r4.length, oref 1 1 0 r5.length]⟩, oF 1 L14, ⟨u10, some (L16.map f32)⟩, oF (u11 + 1) r19, oF (u12 + 1) r21, ⟨u13, none⟩, o0]) (TOp.eqr (TOp.callBN (ls := [(r21.map f32)]) [6] (CallAs.func ent32 rfl rfl) (Bors.cons (Bor.agg (bP (bP (Bors.cons (Bor.own (f := f32) (fun _ => rfl) rfl rfl) (Bors.cons (Bor.own (f := i64) (fun _ => rfl) rfl rfl) bN))))) (Bors.cons (Bor.own (f := f32) (fun _ => rfl) rfl rfl) bN)) rfl (K20_ok r1 r2 r4 r5 r19 r20 r21 hf12) (and_all (lts0_map (f := f32) (fun _ => rfl) _) rfl) (and_all (noss_map (f := f32) (fun _ => rfl) _) rfl) rfl (by decide) (ns_of ⟨⟨_, rfl⟩, trivial⟩)) (by simp [ren, rens, sigma, newNames]))<|ym rfl (tup [oref 6 (u12 + 1) 0 r21.length, b r20])<|yl rfl (oref 6 (u12 + 1) 0 r21.length) y3<|yl rfl (b true) (LOp.eqb y3 hc13)<|ya rfl (oref 6 (u12 + 1) 0 r21.length)<|ya rfl (b true)<|zN ?_
         refine RunC.wl (τ' := [(1, (sFc a3)), (3, ptr (mXc a0 a1 a2)), (9, optr 2 1 0), (11, oref 3 1 0 r9.length), (12, oref 4 u10 0 L16.length), (13, oref 5 (u11 + 1) 0 r19.length), (14, b true), (15, oref 6 (u12 + 1) 0 r21.length), (44, i64 a4), (45, i64 v17)]) (Γ' := [oF 1 r4, oJ 1 r5, ⟨1, some [i64 r1, i64 r2, oref 0 1 0 r4.length, oref 1 1 0 r5.length]⟩, oF 1 L14, ⟨u10, some (L16.map f32)⟩, oF (u11 + 1) r19, oF (u12 + 1) r21, ⟨u13, none⟩, o0]) ⟨aR, aR, aR, aR, aR, aR, aR, aR, aR, aR, trivial⟩ ⟨⟨rfl, .inr rfl⟩, ⟨rfl, .inr rfl⟩, ⟨rfl, .inr rfl⟩, ⟨rfl, .inr rfl⟩, ⟨rfl, .inr rfl⟩, ⟨rfl, .inr rfl⟩, ⟨rfl, .inr rfl⟩, ⟨rfl, .inl rfl⟩, ⟨rfl, .inr rfl⟩, trivial⟩<|yS<|zQ<|ym rfl (b true)<|yl rfl (b false) y1<|zN ?_
         refine yF<|RunC.skip<|yS ?_
         obtain ⟨r22, hf14, h4_⟩ := oS h4_
         obtain ⟨hm15, h4_⟩ := need_some h4_
         refine yW<|ym rfl (oref 4 u10 0 L16.length)<|ym rfl (oref 5 (u11 + 1) 0 r19.length)<|yd rfl (f32 r22) (yc ent33 rfl rfl (Bors.cons (Bor.own (f := f32) (fun _ => rfl) rfl rfl) bN) (K27_ok r19 r22 hf14))<|ye rfl (oref 7 (u13 + 1) 0 1) ([oF 1 r4, oJ 1 r5, ⟨1, some [i64 r1, i64 r2, oref 0 1 0 r4.length, oref 1 1 0 r5.length]⟩, oF 1 L14, ⟨u10, some (L16.map f32)⟩, oF (u11 + 1) r19, oF (u12 + 1) r21, ⟨(u13 + 1), some (([r22] : List F).map f32)⟩, o0]) (TOp.buildSlice_o (g := ⟨u13, none⟩) (za := f32 (some 0)) (qs := [(0, [f32 r22])]) 7 rfl und25 siz30 zer30 rfl zel30 rfl rfl ⟨rfl, ⟨_, ALe.refl _, rfl⟩, trivial⟩ rfl)<|ROps.app (f := f32) (xs := L16) (ys := ([r22] : List F)) (Γ' := [oF 1 r4, oJ 1 r5, ⟨1, some [i64 r1, i64 r2, oref 0 1 0 r4.length, oref 1 1 0 r5.length]⟩, oF 1 L14, ⟨(u10 + 1), some ((L16 ++ ([r22] : List F)).map f32)⟩, oF (u11 + 1) r19, oF (u12 + 1) r21, ⟨(u13 + 1), some (([r22] : List F).map f32)⟩, o0]) rfl pun25 inf30 rfl rfl rfl rfl rfl rfl rfl rfl rfl (by simp) (ReadAs.own rfl (by simp)) (ones_map (fun _ => rfl)) (ap_by hm15) (ap_mx hm15) rfl<|ya rfl (oref 4 (u10 + 1) 0 (L16.length + 1))<|zN ?_
         refine RunC.wl (τ' := [(1, (sFc a3)), (3, ptr (mXc a0 a1 a2)), (9, optr 2 1 0), (11, oref 3 1 0 r9.length), (12, oref 4 (u10 + 1) 0 (L16.length + 1)), (15, oref 6 (u12 + 1) 0 r21.length), (44, i64 a4), (45, i64 v17)]) (Γ' := [oF 1 r4, oJ 1 r5, ⟨1, some [i64 r1, i64 r2, oref 0 1 0 r4.length, oref 1 1 0 r5.length]⟩, oF 1 L14, ⟨(u10 + 1), some ((L16 ++ ([r22] : List F)).map f32)⟩, ⟨(u11 + 1), none⟩, oF (u12 + 1) r21, ⟨(u13 + 1), none⟩, o0]) ⟨aR, aR, aR, aR, aR, aR, aR, aR, trivial⟩ ⟨⟨rfl, .inr rfl⟩, ⟨rfl, .inr rfl⟩, ⟨rfl, .inr rfl⟩, ⟨rfl, .inr rfl⟩, ⟨rfl, .inr rfl⟩, ⟨rfl, .inl rfl⟩, ⟨rfl, .inr rfl⟩, ⟨rfl, .inl rfl⟩, ⟨rfl, .inr rfl⟩, trivial⟩<|yS<|zQ<|ym rfl (oref 3 1 0 r9.length)<|yl rfl (i64 ((r9.length : Nat) : Int)) (LOp.len_oref und25 rfl rfl)<|ym rfl (i64 0)<|zN ?_
         obtain ⟨z5, hz_5, h4_⟩ := oS h4_
         refine RunC.cutN (fun τ Γ => ∃ (L31 : List F), L31.length = r9.length ∧ (L16 ++ ([r22] : List F)).length = (L16.length + 1) ∧ WeakLe τ [(1, (sFc a3)), (3, ptr (mXc a0 a1 a2)), (9, optr 2 1 0), (11, oref 3 1 0 r9.length), (12, oref 4 (u10 + 1) 0 (L16.length + 1)), (44, i64 a4), (45, i64 v17)] ∧ DeadLe Γ [oF 1 r4, oJ 1 r5, ⟨1, some [i64 r1, i64 r2, oref 0 1 0 r4.length, oref 1 1 0 r5.length]⟩, oF 1 L31, ⟨(u10 + 1), some ((L16 ++ ([r22] : List F)).map f32)⟩, ⟨(u11 + 1), none⟩, ⟨(u12 + 1), none⟩, ⟨(u13 + 1), none⟩, o0] ∧ z5 = .inl L31) ?_ ?_
         ·refine RunC.block (RunC.loop (RunL.loopM (x := z5) (K28_s2 r9 r21) (fun (s : (List F) × Int) τ Γ => s.1.length = r9.length ∧ WeakLe τ [(1, (sFc a3)), (3, ptr (mXc a0 a1 a2)), (9, optr 2 1 0), (11, oref 3 1 0 r9.length), (12, oref 4 (u10 + 1) 0 (L16.length + 1)), (15, oref 6 (u12 + 1) 0 r21.length), (44, i64 a4), (45, i64 v17), (70, i64 ((r9.length : Nat) : Int)), (71, i64 s.2)] ∧ DeadLe Γ [oF 1 r4, oJ 1 r5, ⟨1, some [i64 r1, i64 r2, oref 0 1 0 r4.length, oref 1 1 0 r5.length]⟩, ⟨1, some (s.1.map f32)⟩, ⟨(u10 + 1), some ((L16 ++ ([r22] : List F)).map f32)⟩, ⟨(u11 + 1), none⟩, oF (u12 + 1) r21, ⟨(u13 + 1), none⟩, o0]) ?_ _ _ _ hz_5 ⟨hl15, ⟨aR, aR, aR, aR, aR, aR, aR, aR, aR, aR, trivial⟩, ⟨⟨rfl, .inr rfl⟩, ⟨rfl, .inr rfl⟩, ⟨rfl, .inr rfl⟩, ⟨rfl, .inr rfl⟩, ⟨rfl, .inr rfl⟩, ⟨rfl, .inl rfl⟩, ⟨rfl, .inr rfl⟩, ⟨rfl, .inl rfl⟩, ⟨rfl, .inr rfl⟩, trivial⟩⟩))
          rintro ⟨L23, v25⟩ τ5 Γ5 y5_ ⟨hl24, hw5, hd5⟩ h5_ ho5 hr5
          refine RunC.wl (τ' := [(1, (sFc a3)), (3, ptr (mXc a0 a1 a2)), (9, optr 2 1 0), (11, oref 3 1 0 r9.length), (12, oref 4 (u10 + 1) 0 (L16.length + 1)), (15, oref 6 (u12 + 1) 0 r21.length), (44, i64 a4), (45, i64 v17), (70, i64 ((r9.length : Nat) : Int)), (71, i64 v25)]) (Γ' := [oF 1 r4, oJ 1 r5, ⟨1, some [i64 r1, i64 r2, oref 0 1 0 r4.length, oref 1 1 0 r5.length]⟩, oF 1 L23, ⟨(u10 + 1), some ((L16 ++ ([r22] : List F)).map f32)⟩, ⟨(u11 + 1), none⟩, oF (u12 + 1) r21, ⟨(u13 + 1), none⟩, o0]) hw5 hd5 ?_
          replace hl24 : L23.length = r9.length := hl24
          replace h5_ : K28_b2 r9 r21 L23 v25 = some y5_ := h5_
          unfold K28_b2 at h5_
          refine yS ?_
          rcases oB h5_ with ⟨hc16, h5_⟩ | ⟨hc16, h5_⟩
          ·refine yW<|yl rfl (b true) (LOp.eqb (LOp.lss rfl rfl rfl) hc16)<|zN ?_
           refine yS<|yT<|RunC.skip<|yS<|RunC.block<|zQ<|ym rfl (i64 v25)<|ya rfl (i64 v25)<|zN ?_
           obtain ⟨e26, he17, h5_⟩ := oS h5_
           obtain ⟨e27, he18, h5_⟩ := oS h5_
           obtain ⟨x28, hx19, h5_⟩ := oL h5_
           obtain ⟨L29, he20, h5_⟩ := oS h5_
           refine RunC.region_draw (Γ' := [oF 1 r4, oJ 1 r5, ⟨1, some [i64 r1, i64 r2, oref 0 1 0 r4.length, oref 1 1 0 r5.length]⟩, oF 1 L23, ⟨(u10 + 1), some ((L16 ++ ([r22] : List F)).map f32)⟩, ⟨(u11 + 1), none⟩, oF (u12 + 1) r21, ⟨(u13 + 1), none⟩, o0]) 10 mixed 
            (tm rfl (oref 3 1 0 r9.length) <|
            (tm rfl (i64 v25) <|
            (TR.d (r := optr 3 1 v25.toNat) (fs := []) rfl rfl (TOp.ixo und25 siz30 rfl rfl rfl (at_in he17 hl24) rfl) <|
            (TR.d (r := f32 e26) (fs := []) rfl rfl (TOp.load1_o rfl (at_cell he17) agg30 rfl rfl) <|
            (tm rfl (oref 6 (u12 + 1) 0 r21.length) <|
            (tm rfl (i64 v25) <|
            (TR.d (r := optr 6 (u12 + 1) v25.toNat) (fs := []) rfl rfl (TOp.ixo und25 siz30 rfl rfl rfl (at_in he18 rfl) rfl) <|
            (TR.d (r := f32 e27) (fs := []) rfl rfl (TOp.load1_o rfl (at_cell he18) agg30 rfl rfl) <|
            (TR.d (r := f32 x28) (fs := []) rfl rfl (TOp.eqr (TOp.fop (.inl rfl) rfl (OpF.tmp rfl) (OpF.tmp rfl)) (congrArg (f .f32) hx19)) <|
            (TR.d (r := optr 3 1 v25.toNat) (fs := []) rfl rfl (TOp.ixo und25 siz30 rfl rfl rfl (set_in he20 hl24) rfl) <|
            TR.nil)))))))))) rfl (by kernel_rfl) rfl fills_nil rfl ?_
           iterate 10 refine ROps.dropS ?_
           refine ROps.drop0<|ROps.st (f := f32) (i := v25) (Γ' := [oF 1 r4, oJ 1 r5, ⟨1, some [i64 r1, i64 r2, oref 0 1 0 r4.length, oref 1 1 0 r5.length]⟩, oF 1 L29, ⟨(u10 + 1), some ((L16 ++ ([r22] : List F)).map f32)⟩, ⟨(u11 + 1), none⟩, oF (u12 + 1) r21, ⟨(u13 + 1), none⟩, o0]) rfl siz30 rfl rfl rfl aR rfl rfl rfl he20 rfl<|zN ?_
           obtain ⟨x30, hx21, h5_⟩ := oL h5_
           refine yW<|yl rfl (i64 x30) (LOp.eqr (LOp.add rfl rfl rfl) (congrArg (ik .i64) hx21))<|ym rfl (i64 x30)<|zN ?_
           cases oI h5_
           exact ⟨_, rfl, ((setAt?_len he20).trans hl24), ⟨aR, aR, aR, aR, aR, aR, aR, aR, aR, aR, trivial⟩, ⟨⟨rfl, .inr rfl⟩, ⟨rfl, .inr rfl⟩, ⟨rfl, .inr rfl⟩, ⟨rfl, .inr rfl⟩, ⟨rfl, .inr rfl⟩, ⟨rfl, .inl rfl⟩, ⟨rfl, .inr rfl⟩, ⟨rfl, .inl rfl⟩, ⟨rfl, .inr rfl⟩, trivial⟩⟩
          ·refine yW<|yl rfl (b false) (LOp.eqb (LOp.lss rfl rfl rfl) hc16)<|zN ?_
           refine yS<|yF<|RunC.exit ?_
           cases oI h5_
           have hx := ho5 _ rfl
           exact ⟨L23, hl24, (app_len rfl rfl), ⟨aR, aR, aR, aR, aR, aR, aR, trivial⟩, ⟨⟨rfl, .inr rfl⟩, ⟨rfl, .inr rfl⟩, ⟨rfl, .inr rfl⟩, ⟨rfl, .inr rfl⟩, ⟨rfl, .inr rfl⟩, ⟨rfl, .inl rfl⟩, ⟨rfl, .inl rfl⟩, ⟨rfl, .inl rfl⟩, ⟨rfl, .inr rfl⟩, trivial⟩, hx⟩
         ·rintro τ6 Γ6 ⟨L31, hl32, hl33, hw6, hd6, rfl⟩
          refine RunC.wl hw6 hd6 ?_
          replace h4_ : K28_k2 L16 v17 r22 L31 = some y4_ := h4_
          unfold K28_k2 at h4_
          refine yS ?_
          obtain ⟨r34, hf22, h4_⟩ := oS h4_
          rcases oB h4_ with ⟨hc23, h4_⟩ | ⟨hc23, h4_⟩
          ·obtain ⟨r35, hf24, h4_⟩ := oS h4_
           rcases oB h4_ with ⟨hc25, h4_⟩ | ⟨hc25, h4_⟩
           ·refine yW<|ym rfl (oref 3 1 0 r9.length)<|yd rfl (b true) (TOp.eqb (yc ent34 rfl rfl (Bors.cons (Bor.own (f := f32) (fun _ => rfl) rfl hl32) bN) (K0j_ok L31 r34 hf22)) hc23)<|yl rfl (b false) y1<|ym rfl (b false)<|ym rfl (oref 4 (u10 + 1) 0 (L16.length + 1))<|yd rfl (b true) (TOp.eqb (yc ent34 rfl rfl (Bors.cons (Bor.own (f := f32) (fun _ => rfl) rfl hl33) bN) (K0j_ok (L16 ++ ([r22] : List F)) r35 hf24)) hc25)<|yl rfl (b false) y1<|yl rfl (b false) yp<|zN ?_
            refine yF<|RunC.skip ?_
            obtain ⟨x36, hx26, h4_⟩ := oL h4_
            refine yW<|yl rfl (i64 x36) (LOp.eqr (LOp.add rfl rfl rfl) (congrArg (ik .i64) hx26))<|ym rfl (i64 x36)<|zN ?_
            cases oI h4_
            exact ⟨_, rfl, (u10 + 1), (u11 + 1), (u12 + 1), (u13 + 1), hl32, ⟨aR, aR, aR, aR, (ALe.eq (by rw [hl33] <;> rfl)), aR, aR, trivial⟩, ⟨⟨rfl, .inr rfl⟩, ⟨rfl, .inr rfl⟩, ⟨rfl, .inr rfl⟩, ⟨rfl, .inr rfl⟩, ⟨rfl, .inr rfl⟩, ⟨rfl, .inl rfl⟩, ⟨rfl, .inl rfl⟩, ⟨rfl, .inl rfl⟩, ⟨rfl, .inr rfl⟩, trivial⟩⟩
           ·refine yW<|ym rfl (oref 3 1 0 r9.length)<|yd rfl (b true) (TOp.eqb (yc ent34 rfl rfl (Bors.cons (Bor.own (f := f32) (fun _ => rfl) rfl hl32) bN) (K0j_ok L31 r34 hf22)) hc23)<|yl rfl (b false) y1<|ym rfl (b false)<|ym rfl (oref 4 (u10 + 1) 0 (L16.length + 1))<|yd rfl (b false) (TOp.eqb (yc ent34 rfl rfl (Bors.cons (Bor.own (f := f32) (fun _ => rfl) rfl hl33) bN) (K0j_ok (L16 ++ ([r22] : List F)) r35 hf24)) hc25)<|yl rfl (b true) y0<|yl rfl (b true) yp<|zN ?_
            refine yT<|zQ<|ya rfl nilsl<|ya rfl nilsl<|ya rfl (b false)<|zN ?_
            refine RunC.nil_slot (Γ' := [oF 1 r4, oJ 1 r5, ⟨1, some [i64 r1, i64 r2, oref 0 1 0 r4.length, oref 1 1 0 r5.length]⟩, oF 1 L31, ⟨(u10 + 1), some ((L16 ++ ([r22] : List F)).map f32)⟩, ⟨(u11 + 2), some (([] : List F).map f32)⟩, ⟨(u12 + 1), none⟩, ⟨(u13 + 1), none⟩, o0]) 6 5 rfl rfl rfl<|RunC.nil_slot (Γ' := [oF 1 r4, oJ 1 r5, ⟨1, some [i64 r1, i64 r2, oref 0 1 0 r4.length, oref 1 1 0 r5.length]⟩, oF 1 L31, ⟨(u10 + 1), some ((L16 ++ ([r22] : List F)).map f32)⟩, ⟨(u11 + 2), some (([] : List F).map f32)⟩, ⟨(u12 + 2), some (([] : List F).map f32)⟩, ⟨(u13 + 1), none⟩, o0]) 7 6 rfl rfl rfl<|RunC.ret ?_
            cases oI h4_
            have hx7_ := hr4 _ rfl
            subst hx7_
            have hq := oI h
            obtain ⟨hq0, hq⟩ := Prod.mk.inj hq
            obtain ⟨hq1, hq⟩ := Prod.mk.inj hq
            subst q0
            subst q1
            subst q2
            exact bodyQ.mk (r' := tup [oref 5 (u11 + 2) 0 (([] : List F).length), oref 6 (u12 + 2) 0 (([] : List F).length), b false]) [(5, (u11 + 2)), (6, (u12 + 2))] (.inr rfl) rfl (show List.Nodup [5, 6] from by decide) (by simp [ren, rens, sigma]) rfl (Res.eq (Res.three rfl (RV.tmp rfl) (RV.tmp rfl) (RV.tmp rfl)) (by first | rfl | (rw [(show ([] : List F).length = 0 from rfl)] <;> rfl))) (sA rfl (sA rfl trivial))
          ·refine yW<|ym rfl (oref 3 1 0 r9.length)<|yd rfl (b false) (TOp.eqb (yc ent34 rfl rfl (Bors.cons (Bor.own (f := f32) (fun _ => rfl) rfl hl32) bN) (K0j_ok L31 r34 hf22)) hc23)<|yl rfl (b true) y0<|ym rfl (b true)<|yR rfl<|yR rfl<|yR rfl<|yl rfl (b true) yq<|zN ?_
           refine yT<|zQ<|ya rfl nilsl<|ya rfl nilsl<|ya rfl (b false)<|zN ?_
           refine RunC.nil_slot (Γ' := [oF 1 r4, oJ 1 r5, ⟨1, some [i64 r1, i64 r2, oref 0 1 0 r4.length, oref 1 1 0 r5.length]⟩, oF 1 L31, ⟨(u10 + 1), some ((L16 ++ ([r22] : List F)).map f32)⟩, ⟨(u11 + 2), some (([] : List F).map f32)⟩, ⟨(u12 + 1), none⟩, ⟨(u13 + 1), none⟩, o0]) 6 5 rfl rfl rfl<|RunC.nil_slot (Γ' := [oF 1 r4, oJ 1 r5, ⟨1, some [i64 r1, i64 r2, oref 0 1 0 r4.length, oref 1 1 0 r5.length]⟩, oF 1 L31, ⟨(u10 + 1), some ((L16 ++ ([r22] : List F)).map f32)⟩, ⟨(u11 + 2), some (([] : List F).map f32)⟩, ⟨(u12 + 2), some (([] : List F).map f32)⟩, ⟨(u13 + 1), none⟩, o0]) 7 6 rfl rfl rfl<|RunC.ret ?_
           cases oI h4_
           have hx8_ := hr4 _ rfl
           subst hx8_
           have hq := oI h
           obtain ⟨hq0, hq⟩ := Prod.mk.inj hq
           obtain ⟨hq1, hq⟩ := Prod.mk.inj hq
           subst q0
           subst q1
           subst q2
           exact bodyQ.mk (r' := tup [oref 5 (u11 + 2) 0 (([] : List F).length), oref 6 (u12 + 2) 0 (([] : List F).length), b false]) [(5, (u11 + 2)), (6, (u12 + 2))] (.inr rfl) rfl (show List.Nodup [5, 6] from by decide) (by simp [ren, rens, sigma]) rfl (Res.eq (Res.three rfl (RV.tmp rfl) (RV.tmp rfl) (RV.tmp rfl)) (by first | rfl | (rw [(show ([] : List F).length = 0 from rfl)] <;> rfl))) (sA rfl (sA rfl trivial))
        ·refine yW<|yd rfl (agg [i64 r1, i64 r2, oref 0 1 0 r4.length, oref 1 1 0 r5.length]) (yA agg41 siz41)<|ym rfl (oref 5 (u11 + 1) 0 r19.length)<|ye rfl (tup [oref 6 (u12 + 1) 0 r21.length, b r20]) ([oF 1 r4, oJ 1 r5, ⟨1, some [i64 r1, i64 r2, oref 0 1 0 r4.length, oref 1 1 0 r5.length]⟩, oF 1 L14, ⟨u10, some (L16.map f32)⟩, oF (u11 + 1) r19, oF (u12 + 1) r21, ⟨u13, none⟩, o0]) (TOp.eqr (TOp.callBN (ls := [(r21.map f32)]) [6] (CallAs.func ent32 rfl rfl) (Bors.cons (Bor.agg (bP (bP (Bors.cons (Bor.own (f := f32) (fun _ => rfl) rfl rfl) (Bors.cons (Bor.own (f := i64) (fun _ => rfl) rfl rfl) bN))))) (Bors.cons (Bor.own (f := f32) (fun _ => rfl) rfl rfl) bN)) rfl (K20_ok r1 r2 r4 r5 r19 r20 r21 hf12) (and_all (lts0_map (f := f32) (fun _ => rfl) _) rfl) (and_all (noss_map (f := f32) (fun _ => rfl) _) rfl) rfl (by decide) (ns_of ⟨⟨_, rfl⟩, trivial⟩)) (by simp [ren, rens, sigma, newNames]))<|ym rfl (tup [oref 6 (u12 + 1) 0 r21.length, b r20])<|yl rfl (oref 6 (u12 + 1) 0 r21.length) y3<|yl rfl (b false) (LOp.eqb y3 hc13)<|ya rfl (oref 6 (u12 + 1) 0 r21.length)<|ya rfl (b false)<|zN ?_
         refine RunC.wl (τ' := [(1, (sFc a3)), (3, ptr (mXc a0 a1 a2)), (9, optr 2 1 0), (11, oref 3 1 0 r9.length), (12, oref 4 u10 0 L16.length), (13, oref 5 (u11 + 1) 0 r19.length), (14, b false), (15, oref 6 (u12 + 1) 0 r21.length), (44, i64 a4), (45, i64 v17)]) (Γ' := [oF 1 r4, oJ 1 r5, ⟨1, some [i64 r1, i64 r2, oref 0 1 0 r4.length, oref 1 1 0 r5.length]⟩, oF 1 L14, ⟨u10, some (L16.map f32)⟩, oF (u11 + 1) r19, oF (u12 + 1) r21, ⟨u13, none⟩, o0]) ⟨aR, aR, aR, aR, aR, aR, aR, aR, aR, aR, trivial⟩ ⟨⟨rfl, .inr rfl⟩, ⟨rfl, .inr rfl⟩, ⟨rfl, .inr rfl⟩, ⟨rfl, .inr rfl⟩, ⟨rfl, .inr rfl⟩, ⟨rfl, .inr rfl⟩, ⟨rfl, .inr rfl⟩, ⟨rfl, .inl rfl⟩, ⟨rfl, .inr rfl⟩, trivial⟩<|yS<|zQ<|ym rfl (b false)<|yl rfl (b true) y0<|zN ?_
         refine yT<|zQ<|ya rfl nilsl<|ya rfl nilsl<|ya rfl (b false)<|zN ?_
         refine RunC.nil_slot (Γ' := [oF 1 r4, oJ 1 r5, ⟨1, some [i64 r1, i64 r2, oref 0 1 0 r4.length, oref 1 1 0 r5.length]⟩, oF 1 L14, ⟨u10, some (L16.map f32)⟩, oF (u11 + 1) r19, oF (u12 + 1) r21, ⟨(u13 + 1), some (([] : List F).map f32)⟩, o0]) 6 7 rfl rfl rfl<|RunC.nil_slot (Γ' := [oF 1 r4, oJ 1 r5, ⟨1, some [i64 r1, i64 r2, oref 0 1 0 r4.length, oref 1 1 0 r5.length]⟩, oF 1 L14, ⟨u10, some (L16.map f32)⟩, oF (u11 + 1) r19, oF (u12 + 1) r21, ⟨(u13 + 1), some (([] : List F).map f32)⟩, ⟨1, some (([] : List F).map f32)⟩]) 7 8 rfl rfl rfl<|RunC.ret ?_
         cases oI h4_
         have hx9_ := hr4 _ rfl
         subst hx9_
         have hq := oI h
         obtain ⟨hq0, hq⟩ := Prod.mk.inj hq
         obtain ⟨hq1, hq⟩ := Prod.mk.inj hq
         subst q0
         subst q1
         subst q2
         exact bodyQ.mk (r' := tup [oref 7 (u13 + 1) 0 (([] : List F).length), oref 8 1 0 (([] : List F).length), b false]) [(7, (u13 + 1)), (8, 1)] (.inr rfl) rfl (show List.Nodup [7, 8] from by decide) (by simp [ren, rens, sigma]) rfl (Res.eq (Res.three rfl (RV.tmp rfl) (RV.tmp rfl) (RV.tmp rfl)) (by first | rfl | (rw [(show ([] : List F).length = 0 from rfl)] <;> rfl))) (sA rfl (sA rfl trivial))
       ·refine yW<|yl rfl (agg (mXc a0 a1 a2)) (yL agg27 siz27)<|ym rfl (oref 3 1 0 r9.length)<|ym rfl (sFc a3)<|ye rfl (tup [oref 5 (u11 + 1) 0 r19.length, b r18]) ([oF 1 r4, oJ 1 r5, ⟨1, some [i64 r1, i64 r2, oref 0 1 0 r4.length, oref 1 1 0 r5.length]⟩, oF 1 L14, ⟨u10, some (L16.map f32)⟩, oF (u11 + 1) r19, ⟨u12, none⟩, ⟨u13, none⟩, o0]) (TOp.eqr (TOp.callBN (ls := [(r19.map f32)]) [5] (CallAs.func ent10 rfl rfl) (Bors.cons (Bor.agg (bP (bP (bS bN)))) (Bors.cons (Bor.own (f := f32) (fun _ => rfl) rfl hl15) (bS bN))) rfl (K23_ok a0 a1 a2 L14 a3 r18 r19 hf10) (and_all (lts0_map (f := f32) (fun _ => rfl) _) rfl) (and_all (noss_map (f := f32) (fun _ => rfl) _) rfl) rfl (by decide) (ns_of ⟨⟨_, rfl⟩, trivial⟩)) (by simp [ren, rens, sigma, newNames]))<|ym rfl (tup [oref 5 (u11 + 1) 0 r19.length, b r18])<|yl rfl (oref 5 (u11 + 1) 0 r19.length) y3<|yl rfl (b false) (LOp.eqb y3 hc11)<|ya rfl (oref 5 (u11 + 1) 0 r19.length)<|ya rfl (b false)<|zN ?_
        refine yS<|zQ<|ym rfl (b false)<|yl rfl (b true) y0<|zN ?_
        refine yT<|zQ<|ya rfl nilsl<|ya rfl nilsl<|ya rfl (b false)<|zN ?_
        refine RunC.nil_slot (Γ' := [oF 1 r4, oJ 1 r5, ⟨1, some [i64 r1, i64 r2, oref 0 1 0 r4.length, oref 1 1 0 r5.length]⟩, oF 1 L14, ⟨u10, some (L16.map f32)⟩, oF (u11 + 1) r19, ⟨(u12 + 1), some (([] : List F).map f32)⟩, ⟨u13, none⟩, o0]) 6 6 rfl rfl rfl<|RunC.nil_slot (Γ' := [oF 1 r4, oJ 1 r5, ⟨1, some [i64 r1, i64 r2, oref 0 1 0 r4.length, oref 1 1 0 r5.length]⟩, oF 1 L14, ⟨u10, some (L16.map f32)⟩, oF (u11 + 1) r19, ⟨(u12 + 1), some (([] : List F).map f32)⟩, ⟨(u13 + 1), some (([] : List F).map f32)⟩, o0]) 7 7 rfl rfl rfl<|RunC.ret ?_
        cases oI h4_
        have hx10_ := hr4 _ rfl
        subst hx10_
        have hq := oI h
        obtain ⟨hq0, hq⟩ := Prod.mk.inj hq
        obtain ⟨hq1, hq⟩ := Prod.mk.inj hq
        subst q0
        subst q1
        subst q2
        exact bodyQ.mk (r' := tup [oref 6 (u12 + 1) 0 (([] : List F).length), oref 7 (u13 + 1) 0 (([] : List F).length), b false]) [(6, (u12 + 1)), (7, (u13 + 1))] (.inr rfl) rfl (show List.Nodup [6, 7] from by decide) (by simp [ren, rens, sigma]) rfl (Res.eq (Res.three rfl (RV.tmp rfl) (RV.tmp rfl) (RV.tmp rfl)) (by first | rfl | (rw [(show ([] : List F).length = 0 from rfl)] <;> rfl))) (sA rfl (sA rfl trivial))
      ·refine yW<|yl rfl (b false) (LOp.eqb (LOp.lss rfl rfl rfl) hc9)<|zN ?_
       refine yS<|yF<|RunC.exit ?_
       cases oI h4_
       have hx := ho4 _ rfl
       exact ⟨L14, L16, u10, u11, u12, u13, hl15, ⟨aR, aR, trivial⟩, ⟨⟨rfl, .inl rfl⟩, ⟨rfl, .inl rfl⟩, ⟨rfl, .inl rfl⟩, ⟨rfl, .inr rfl⟩, ⟨rfl, .inr rfl⟩, ⟨rfl, .inl rfl⟩, ⟨rfl, .inl rfl⟩, ⟨rfl, .inl rfl⟩, ⟨rfl, .inr rfl⟩, trivial⟩, hx⟩
     ·rintro τ11 Γ11 ⟨L41, L43, u37, u38, u39, u40, hl42, hw11, hd11, rfl⟩
      refine RunC.wl hw11 hd11 ?_
      replace h : K28_k3 L41 L43 = some (q0, q1, q2) := h
      unfold K28_k3 at h
      refine zQ<|ym rfl (oref 3 1 0 r9.length)<|ym rfl (oref 4 u37 0 L43.length)<|ya rfl (oref 3 1 0 r9.length)<|ya rfl (oref 4 u37 0 L43.length)<|ya rfl (b true)<|zN ?_
      refine RunC.ret ?_
      have hq := oI h
      obtain ⟨hq0, hq⟩ := Prod.mk.inj hq
      obtain ⟨hq1, hq⟩ := Prod.mk.inj hq
      subst q0
      subst q1
      subst q2
      exact bodyQ.mk (r' := tup [oref 3 1 0 L41.length, oref 4 u37 0 L43.length, b true]) [(3, 1), (4, u37)] (.inr rfl) rfl (show List.Nodup [3, 4] from by decide) (by simp [ren, rens, sigma]) rfl (Res.eq (Res.three rfl (RV.tmp rfl) (RV.tmp rfl) (RV.tmp rfl)) (by first | rfl | (rw [(show L41.length = r9.length from hl42)] <;> rfl))) (sA rfl (sA rfl trivial))
    ·refine yW<|yd rfl (agg [i64 r1, i64 r2, oref 0 1 0 r4.length, oref 1 1 0 r5.length]) (yA agg41 siz41)<|ym rfl (sFc a3)<|ye rfl (tup [oref 3 1 0 r9.length, b r8]) ([oF 1 r4, oJ 1 r5, ⟨1, some [i64 r1, i64 r2, oref 0 1 0 r4.length, oref 1 1 0 r5.length]⟩, oF 1 r9, o0, o0, o0, o0, o0]) (TOp.callBN (ls := [(r9.map f32)]) [3] (CallAs.func ent32 rfl rfl) (Bors.cons (Bor.agg (bP (bP (Bors.cons (Bor.own (f := f32) (fun _ => rfl) rfl rfl) (Bors.cons (Bor.own (f := i64) (fun _ => rfl) rfl rfl) bN))))) (bS bN)) rfl (K20_ok r1 r2 r4 r5 a3 r8 r9 hf7) (and_all (lts0_map (f := f32) (fun _ => rfl) _) rfl) (and_all (noss_map (f := f32) (fun _ => rfl) _) rfl) rfl (by decide) (ns_of ⟨⟨_, rfl⟩, trivial⟩))<|ym rfl (tup [oref 3 1 0 r9.length, b r8])<|yl rfl (oref 3 1 0 r9.length) y3<|yl rfl (b false) (LOp.eqb y3 hc8)<|ya rfl (oref 3 1 0 r9.length)<|ya rfl (b false)<|zN ?_
     refine yS<|zQ<|ym rfl (b false)<|yl rfl (b true) y0<|zN ?_
     refine yT<|zQ<|ya rfl nilsl<|ya rfl nilsl<|ya rfl (b false)<|zN ?_
     refine RunC.nil_slot (Γ' := [oF 1 r4, oJ 1 r5, ⟨1, some [i64 r1, i64 r2, oref 0 1 0 r4.length, oref 1 1 0 r5.length]⟩, oF 1 r9, ⟨1, some (([] : List F).map f32)⟩, o0, o0, o0, o0]) 6 4 rfl rfl rfl<|RunC.nil_slot (Γ' := [oF 1 r4, oJ 1 r5, ⟨1, some [i64 r1, i64 r2, oref 0 1 0 r4.length, oref 1 1 0 r5.length]⟩, oF 1 r9, ⟨1, some (([] : List F).map f32)⟩, ⟨1, some (([] : List F).map f32)⟩, o0, o0, o0]) 7 5 rfl rfl rfl<|RunC.ret ?_
     have hq := oI h
     obtain ⟨hq0, hq⟩ := Prod.mk.inj hq
     obtain ⟨hq1, hq⟩ := Prod.mk.inj hq
     subst q0
     subst q1
     subst q2
     exact yB (tup [oref 4 1 0 (([] : List F).length), oref 5 1 0 (([] : List F).length), b false]) [(4, 1), (5, 1)] (Res.eq (Res.three rfl (RV.tmp rfl) (RV.tmp rfl) (RV.tmp rfl)) (by first | rfl | (rw [(show ([] : List F).length = 0 from rfl)] <;> rfl))) (sA rfl (sA rfl trivial))
   ·refine yW<|ym rfl (b true)<|yl rfl (b false) y1<|ym rfl (b false)<|yd rfl (agg [i64 r1, i64 r2, oref 0 1 0 r4.length, oref 1 1 0 r5.length]) (yA agg41 siz41)<|ym rfl (sFc a3)<|yd rfl (b true) (TOp.eqb (TOp.callB (CallAs.func ent30 rfl rfl) (Bors.cons (Bor.agg (bP (bP (Bors.cons (Bor.own (f := f32) (fun _ => rfl) rfl rfl) (Bors.cons (Bor.own (f := i64) (fun _ => rfl) rfl rfl) bN))))) (bS bN)) rfl rfl (K1y_ok r1 r2 r4 r5 a3 r6 hf3)) hc4)<|yl rfl (b false) y1<|yl rfl (b false) yp<|ym rfl (b false)<|ym rfl (i64 a4)<|yd rfl (b false) (TOp.eqb (yc ent31 rfl rfl (bP (bP bN0)) (K08_ok a4 0 8 r7 hf5)) hc6)<|yl rfl (b true) y0<|yl rfl (b true) yp<|zN ?_
    refine RunC.wl (τ' := [(1, (sFc a3)), (2, i64 a4), (3, ptr (mXc a0 a1 a2)), (9, optr 2 1 0), (34, b true)]) (Γ' := [oF 1 r4, oJ 1 r5, ⟨1, some [i64 r1, i64 r2, oref 0 1 0 r4.length, oref 1 1 0 r5.length]⟩, o0, o0, o0, o0, o0, o0]) ⟨aR, aR, aR, aR, aR, trivial⟩ ⟨⟨rfl, .inr rfl⟩, ⟨rfl, .inr rfl⟩, ⟨rfl, .inr rfl⟩, ⟨rfl, .inr rfl⟩, ⟨rfl, .inr rfl⟩, ⟨rfl, .inr rfl⟩, ⟨rfl, .inr rfl⟩, ⟨rfl, .inr rfl⟩, ⟨rfl, .inr rfl⟩, trivial⟩<|yT<|zQ<|ya rfl nilsl<|ya rfl nilsl<|ya rfl (b false)<|zN ?_
    refine RunC.nil_slot (Γ' := [oF 1 r4, oJ 1 r5, ⟨1, some [i64 r1, i64 r2, oref 0 1 0 r4.length, oref 1 1 0 r5.length]⟩, ⟨1, some (([] : List F).map f32)⟩, o0, o0, o0, o0, o0]) 6 3 rfl rfl rfl<|RunC.nil_slot (Γ' := [oF 1 r4, oJ 1 r5, ⟨1, some [i64 r1, i64 r2, oref 0 1 0 r4.length, oref 1 1 0 r5.length]⟩, ⟨1, some (([] : List F).map f32)⟩, ⟨1, some (([] : List F).map f32)⟩, o0, o0, o0, o0]) 7 4 rfl rfl rfl<|RunC.ret ?_
    have hq := oI h
    obtain ⟨hq0, hq⟩ := Prod.mk.inj hq
    obtain ⟨hq1, hq⟩ := Prod.mk.inj hq
    subst q0
    subst q1
    subst q2
    exact yB (tup [oref 3 1 0 (([] : List F).length), oref 4 1 0 (([] : List F).length), b false]) [(3, 1), (4, 1)] (Res.eq (Res.three rfl (RV.tmp rfl) (RV.tmp rfl) (RV.tmp rfl)) (by first | rfl | (rw [(show ([] : List F).length = 0 from rfl)] <;> rfl))) (sA rfl (sA rfl trivial))
  ·refine yW<|ym rfl (b true)<|yl rfl (b false) y1<|ym rfl (b false)<|yd rfl (agg [i64 r1, i64 r2, oref 0 1 0 r4.length, oref 1 1 0 r5.length]) (yA agg41 siz41)<|ym rfl (sFc a3)<|yd rfl (b false) (TOp.eqb (TOp.callB (CallAs.func ent30 rfl rfl) (Bors.cons (Bor.agg (bP (bP (Bors.cons (Bor.own (f := f32) (fun _ => rfl) rfl rfl) (Bors.cons (Bor.own (f := i64) (fun _ => rfl) rfl rfl) bN))))) (bS bN)) rfl rfl (K1y_ok r1 r2 r4 r5 a3 r6 hf3)) hc4)<|yl rfl (b true) y0<|yl rfl (b true) yp<|ym rfl (b true)<|yR rfl<|yR rfl<|yR rfl<|yl rfl (b true) yq<|zN ?_
   refine RunC.wl (τ' := [(1, (sFc a3)), (2, i64 a4), (3, ptr (mXc a0 a1 a2)), (9, optr 2 1 0), (34, b true)]) (Γ' := [oF 1 r4, oJ 1 r5, ⟨1, some [i64 r1, i64 r2, oref 0 1 0 r4.length, oref 1 1 0 r5.length]⟩, o0, o0, o0, o0, o0, o0]) ⟨aR, aR, aR, aR, aR, trivial⟩ ⟨⟨rfl, .inr rfl⟩, ⟨rfl, .inr rfl⟩, ⟨rfl, .inr rfl⟩, ⟨rfl, .inr rfl⟩, ⟨rfl, .inr rfl⟩, ⟨rfl, .inr rfl⟩, ⟨rfl, .inr rfl⟩, ⟨rfl, .inr rfl⟩, ⟨rfl, .inr rfl⟩, trivial⟩<|yT<|zQ<|ya rfl nilsl<|ya rfl nilsl<|ya rfl (b false)<|zN ?_
   refine RunC.nil_slot (Γ' := [oF 1 r4, oJ 1 r5, ⟨1, some [i64 r1, i64 r2, oref 0 1 0 r4.length, oref 1 1 0 r5.length]⟩, ⟨1, some (([] : List F).map f32)⟩, o0, o0, o0, o0, o0]) 6 3 rfl rfl rfl<|RunC.nil_slot (Γ' := [oF 1 r4, oJ 1 r5, ⟨1, some [i64 r1, i64 r2, oref 0 1 0 r4.length, oref 1 1 0 r5.length]⟩, ⟨1, some (([] : List F).map f32)⟩, ⟨1, some (([] : List F).map f32)⟩, o0, o0, o0, o0]) 7 4 rfl rfl rfl<|RunC.ret ?_
   have hq := oI h
   obtain ⟨hq0, hq⟩ := Prod.mk.inj hq
   obtain ⟨hq1, hq⟩ := Prod.mk.inj hq
   subst q0
   subst q1
   subst q2
   exact yB (tup [oref 3 1 0 (([] : List F).length), oref 4 1 0 (([] : List F).length), b false]) [(3, 1), (4, 1)] (Res.eq (Res.three rfl (RV.tmp rfl) (RV.tmp rfl) (RV.tmp rfl)) (by first | rfl | (rw [(show ([] : List F).length = 0 from rfl)] <;> rfl))) (sA rfl (sA rfl trivial))
 ·refine yW<|yl rfl (agg (mXc a0 a1 a2)) (yL agg27 siz27)<|ye rfl (tup [agg [i64 r1, i64 r2, oref 0 1 0 r4.length, oref 1 1 0 r5.length], b r3]) [oF 1 r4, oJ 1 r5, o0, o0, o0, o0, o0, o0, o0] (TOp.callBN (ls := [(r4.map f32), (r5.map i64)]) [0, 1] (CallAs.func ent25 rfl rfl) (Bors.cons (Bor.agg (bP (bP (bS bN)))) bN) rfl (K0w_ok a0 a1 a2 r1 r2 r3 r4 r5 hf1) (and_all (lts0_map (f := f32) (fun _ => rfl) _) (and_all (lts0_map (f := i64) (fun _ => rfl) _) rfl)) (and_all (noss_map (f := f32) (fun _ => rfl) _) (and_all (noss_map (f := i64) (fun _ => rfl) _) rfl)) rfl (by decide) (ns_of ⟨⟨_, rfl⟩, ⟨_, rfl⟩, trivial⟩))<|ym rfl (tup [agg [i64 r1, i64 r2, oref 0 1 0 r4.length, oref 1 1 0 r5.length], b r3])<|yl rfl (agg [i64 r1, i64 r2, oref 0 1 0 r4.length, oref 1 1 0 r5.length]) y3<|yl rfl (b false) (LOp.eqb y3 hc2)<|ye rfl (optr 2 1 0) ([oF 1 r4, oJ 1 r5, ⟨1, some [i64 0, i64 0, nilsl, nilsl]⟩, o0, o0, o0, o0, o0, o0]) (TOp.alloc_o (g := o0) 2 rfl zer41 zok41 rfl)<|ys (agg [i64 r1, i64 r2, oref 0 1 0 r4.length, oref 1 1 0 r5.length]) [i64 r1, i64 r2, oref 0 1 0 r4.length, oref 1 1 0 r5.length] ([oF 1 r4, oJ 1 r5, ⟨1, some [i64 r1, i64 r2, oref 0 1 0 r4.length, oref 1 1 0 r5.length]⟩, o0, o0, o0, o0, o0, o0]) siz41<|ya rfl (b false)<|zN ?_
  refine yS<|zQ<|ym rfl (b false)<|yl rfl (b true) y0<|ym rfl (b true)<|yR rfl<|yR rfl<|yR rfl<|yR rfl<|yl rfl (b true) yq<|ym rfl (b true)<|yR rfl<|yR rfl<|yR rfl<|yl rfl (b true) yq<|zN ?_
  refine RunC.wl (τ' := [(1, (sFc a3)), (2, i64 a4), (3, ptr (mXc a0 a1 a2)), (9, optr 2 1 0), (34, b true)]) (Γ' := [oF 1 r4, oJ 1 r5, ⟨1, some [i64 r1, i64 r2, oref 0 1 0 r4.length, oref 1 1 0 r5.length]⟩, o0, o0, o0, o0, o0, o0]) ⟨aR, aR, aR, aR, aR, trivial⟩ ⟨⟨rfl, .inr rfl⟩, ⟨rfl, .inr rfl⟩, ⟨rfl, .inr rfl⟩, ⟨rfl, .inr rfl⟩, ⟨rfl, .inr rfl⟩, ⟨rfl, .inr rfl⟩, ⟨rfl, .inr rfl⟩, ⟨rfl, .inr rfl⟩, ⟨rfl, .inr rfl⟩, trivial⟩<|yT<|zQ<|ya rfl nilsl<|ya rfl nilsl<|ya rfl (b false)<|zN ?_
  refine RunC.nil_slot (Γ' := [oF 1 r4, oJ 1 r5, ⟨1, some [i64 r1, i64 r2, oref 0 1 0 r4.length, oref 1 1 0 r5.length]⟩, ⟨1, some (([] : List F).map f32)⟩, o0, o0, o0, o0, o0]) 6 3 rfl rfl rfl<|RunC.nil_slot (Γ' := [oF 1 r4, oJ 1 r5, ⟨1, some [i64 r1, i64 r2, oref 0 1 0 r4.length, oref 1 1 0 r5.length]⟩, ⟨1, some (([] : List F).map f32)⟩, ⟨1, some (([] : List F).map f32)⟩, o0, o0, o0, o0]) 7 4 rfl rfl rfl<|RunC.ret ?_
  have hq := oI h
  obtain ⟨hq0, hq⟩ := Prod.mk.inj hq
  obtain ⟨hq1, hq⟩ := Prod.mk.inj hq
  subst q0
  subst q1
  subst q2
  exact yB (tup [oref 3 1 0 (([] : List F).length), oref 4 1 0 (([] : List F).length), b false]) [(3, 1), (4, 1)] (Res.eq (Res.three rfl (RV.tmp rfl) (RV.tmp rfl) (RV.tmp rfl)) (by first | rfl | (rw [(show ([] : List F).length = 0 from rfl)] <;> rfl))) (sA rfl (sA rfl trivial))
def K29 (a0 : F) (a1 : F) : Option (F) :=
 bsel (flt .f64 a0 a1) (
  olet (fop .sub .f64 a1 a0) fun (x1 : F) =>
  some x1) (
  olet (fop .sub .f64 a0 a1) fun (x2 : F) =>
  some x2)
theorem K29_ok (a0 : F) (a1 : F) (q0 : F) (h : K29 a0 a1 = some q0) : Ev Tryz.prog 40 [f64 a0, f64 a1] [] (f64 q0) [] := by
 refine yE Tryz.func40 0 29 0 [(0, f64 a0), (1, f64 a1)] [] rfl ?_
 unfold K29 at h
 refine zQ<|yl rfl (f64 (some 0)) (LOp.le (LOp.assign rfl rfl) (ALe.fl (by kernel_rfl) (by kernel_rfl)))<|zN ?_
 refine yS<|yS ?_
 rcases oB h with ⟨hc1, h⟩ | ⟨hc1, h⟩
 ·refine yW<|ym rfl (f64 a0)<|ym rfl (f64 a1)<|yl rfl (b true) (LOp.eqb (LOp.flt rfl (OpF.tmp rfl) (OpF.tmp rfl)) hc1)<|zN ?_
  refine yT<|yS ?_
  obtain ⟨x1, hx2, h⟩ := oL h
  refine yW<|ym rfl (f64 a1)<|ym rfl (f64 a0)<|yd rfl (f64 x1) (TOp.eqr (TOp.fop (.inr (.inl rfl)) rfl (OpF.tmp rfl) (OpF.tmp rfl)) (congrArg (f .f64) hx2))<|ya rfl (f64 x1)<|zN ?_
  refine RunC.ret ?_
  have hq := oI h
  subst q0
  exact bR rfl
 ·refine yW<|ym rfl (f64 a0)<|ym rfl (f64 a1)<|yl rfl (b false) (LOp.eqb (LOp.flt rfl (OpF.tmp rfl) (OpF.tmp rfl)) hc1)<|zN ?_
  refine yF<|RunC.skip<|yS ?_
  obtain ⟨x2, hx3, h⟩ := oL h
  refine yW<|ym rfl (f64 a0)<|ym rfl (f64 a1)<|yd rfl (f64 x2) (TOp.eqr (TOp.fop (.inr (.inl rfl)) rfl (OpF.tmp rfl) (OpF.tmp rfl)) (congrArg (f .f64) hx3))<|ya rfl (f64 x2)<|zN ?_
  refine RunC.ret ?_
  have hq := oI h
  subst q0
  exact bR rfl
def K2a_b1 (a0 : List F) (a1 : List F) (a2 : F) (v1 : Int) : Option (LR (Int) (Unit) (Bool)) :=
 bsel (decide (v1 < (a0.length : Int))) (
  obind (at? a0 v1) fun (e2 : F) =>
  olet (fwiden e2) fun (x3 : F) =>
  obind (at? a1 v1) fun (e4 : F) =>
  olet (fwiden e4) fun (x5 : F) =>
  obind (K29 x3 x5) fun (r6 : F) =>
  bsel (fle .f64 r6 a2) (
   olet (IntKind.i64.wrap (v1 + 1)) fun (x7 : Int) =>
   some (LR.next x7)) (
   some (LR.ret true))) (
  some (LR.out ()))
def K2a_s1 (a0 : List F) (a1 : List F) (a2 : F) : (Int) → Option (LR (Int) (Unit) (Bool)) := fun s => K2a_b1 a0 a1 a2 s
def K2a_k1  : Option (Bool) :=
 some false
def K2a (a0 : List F) (a1 : List F) (a2 : F) : Option (Bool) :=
 bsel (!decide ((a0.length : Int) = (a1.length : Int))) (
  some true) (
  obind (loopM (K2a_s1 a0 a1 a2) 0) fun z => osum z (fun _ => K2a_k1) (fun r => some r))
theorem K2a_ok (a0 : List F) (a1 : List F) (a2 : F) (q0 : Bool) (h : K2a a0 a1 a2 = some q0) : Ev Tryz.prog 11 [(sFc a0), (sFc a1), f64 a2] [] (b q0) [] := by
 refine yE Tryz.func11 0 67 0 [(0, (sFc a0)), (1, (sFc a1)), (2, f64 a2)] [] rfl ?_
 unfold K2a at h
 refine zQ<|ya rfl (b false)<|zN ?_
 refine yS<|yS ?_
 rcases oB h with ⟨hc1, h⟩ | ⟨hc1, h⟩
 ·refine yW<|ym rfl (sFc a0)<|yl rfl (i64 (a0.length : Int)) (LOp.len_sl und25 rfl rfl)<|ym rfl (sFc a1)<|yl rfl (i64 (a1.length : Int)) (LOp.len_sl und25 rfl rfl)<|yl rfl (b true) (LOp.eqb (LOp.neq rfl rfl rfl) hc1)<|zN ?_
  refine yT<|zQ<|ya rfl (b true)<|zN ?_
  refine RunC.ret ?_
  have hq := oI h
  subst q0
  exact bR rfl
 ·refine yW<|ym rfl (sFc a0)<|yl rfl (i64 (a0.length : Int)) (LOp.len_sl und25 rfl rfl)<|ym rfl (sFc a1)<|yl rfl (i64 (a1.length : Int)) (LOp.len_sl und25 rfl rfl)<|yl rfl (b false) (LOp.eqb (LOp.neq rfl rfl rfl) hc1)<|zN ?_
  refine yF<|RunC.skip<|yS<|zQ<|ym rfl (sFc a0)<|yl rfl (i64 (a0.length : Int)) (LOp.len_sl und25 rfl rfl)<|ym rfl (i64 0)<|zN ?_
  obtain ⟨z2, hz_2, h⟩ := oS h
  refine RunC.cutN (fun τ Γ => WeakLe τ [] ∧ DeadLe Γ [] ∧ z2 = .inl ()) ?_ ?_
  ·refine RunC.block (RunC.loop (RunL.loopM (x := z2) (K2a_s1 a0 a1 a2) (fun (s : Int) τ Γ => WeakLe τ [(0, (sFc a0)), (1, (sFc a1)), (2, f64 a2), (14, i64 (a0.length : Int)), (15, i64 s)] ∧ DeadLe Γ []) ?_ _ _ _ hz_2 ⟨⟨aR, aR, aR, aR, aR, trivial⟩, trivial⟩))
   rintro v1 τ2 Γ2 y2_ ⟨hw2, hd2⟩ h2_ ho2 hr2
   refine RunC.wl (τ' := [(0, (sFc a0)), (1, (sFc a1)), (2, f64 a2), (14, i64 (a0.length : Int)), (15, i64 v1)]) (Γ' := []) hw2 hd2 ?_
   replace h2_ : K2a_b1 a0 a1 a2 v1 = some y2_ := h2_
   unfold K2a_b1 at h2_
   refine yS ?_
   rcases oB h2_ with ⟨hc2, h2_⟩ | ⟨hc2, h2_⟩
   ·refine yW<|yl rfl (b true) (LOp.eqb (LOp.lss rfl rfl rfl) hc2)<|zN ?_
    refine yS<|yT<|RunC.skip<|yS<|RunC.block<|zQ<|ym rfl (i64 v1)<|ya rfl (i64 v1)<|zN ?_
    refine yS ?_
    obtain ⟨e2, he3, h2_⟩ := oS h2_
    obtain ⟨x3, hx4, h2_⟩ := oL h2_
    obtain ⟨e4, he5, h2_⟩ := oS h2_
    obtain ⟨x5, hx6, h2_⟩ := oL h2_
    obtain ⟨r6, hf7, h2_⟩ := oS h2_
    rcases oB h2_ with ⟨hc8, h2_⟩ | ⟨hc8, h2_⟩
    ·refine RunC.region_draw (Γ' := []) 14 mixed 
      (tm rfl (sFc a0) <|
      (tm rfl (i64 v1) <|
      (tl rfl (ptr [f32 e2]) (LOp.le (LOp.ix (f := f32) und25 siz30 rfl rfl rfl rfl he3) ALe.ptr) <|
      (tl rfl (f32 e2) (y2 agg30) <|
      (TR.d (r := f64 x3) (fs := []) rfl rfl (TOp.eqr (TOp.widen (src := 30) (dst := 35) ⟨_, pun30⟩ pun35 rfl (OpF.tmp rfl)) (congrArg (f .f64) hx4)) <|
      (tm rfl (sFc a1) <|
      (tm rfl (i64 v1) <|
      (tl rfl (ptr [f32 e4]) (LOp.le (LOp.ix (f := f32) und25 siz30 rfl rfl rfl rfl he5) ALe.ptr) <|
      (tl rfl (f32 e4) (y2 agg30) <|
      (TR.d (r := f64 x5) (fs := []) rfl rfl (TOp.eqr (TOp.widen (src := 30) (dst := 35) ⟨_, pun30⟩ pun35 rfl (OpF.tmp rfl)) (congrArg (f .f64) hx6)) <|
      (TR.d (r := f64 r6) (fs := []) rfl rfl (yc ent40 rfl rfl (bP bN0) (K29_ok x3 x5 r6 hf7)) <|
      (tm rfl (f64 a2) <|
      (tl rfl (b true) (LOp.eqb (LOp.fle rfl (OpF.tmp rfl) (OpF.tmp rfl)) hc8) <|
      (tl rfl (b false) (LOp.eqb (LOp.not rfl rfl) rfl) <|
      TR.nil)))))))))))))) rfl (by kernel_rfl) rfl fills_nil rfl ?_
     iterate 14 refine ROps.dropS ?_
     refine ROps.drop0<|zN ?_
     refine RunC.wl (τ' := [(0, (sFc a0)), (1, (sFc a1)), (2, f64 a2), (14, i64 (a0.length : Int)), (15, i64 v1), (31, b false)]) (Γ' := []) ⟨aR, aR, aR, aR, aR, aR, trivial⟩ trivial<|yF<|RunC.skip ?_
     obtain ⟨x7, hx9, h2_⟩ := oL h2_
     refine yW<|yl rfl (i64 x7) (LOp.eqr (LOp.add rfl rfl rfl) (congrArg (ik .i64) hx9))<|ym rfl (i64 x7)<|zN ?_
     cases oI h2_
     exact ⟨_, rfl, ⟨aR, aR, aR, aR, aR, trivial⟩, trivial⟩
    ·refine RunC.region_draw (Γ' := []) 14 mixed 
      (tm rfl (sFc a0) <|
      (tm rfl (i64 v1) <|
      (tl rfl (ptr [f32 e2]) (LOp.le (LOp.ix (f := f32) und25 siz30 rfl rfl rfl rfl he3) ALe.ptr) <|
      (tl rfl (f32 e2) (y2 agg30) <|
      (TR.d (r := f64 x3) (fs := []) rfl rfl (TOp.eqr (TOp.widen (src := 30) (dst := 35) ⟨_, pun30⟩ pun35 rfl (OpF.tmp rfl)) (congrArg (f .f64) hx4)) <|
      (tm rfl (sFc a1) <|
      (tm rfl (i64 v1) <|
      (tl rfl (ptr [f32 e4]) (LOp.le (LOp.ix (f := f32) und25 siz30 rfl rfl rfl rfl he5) ALe.ptr) <|
      (tl rfl (f32 e4) (y2 agg30) <|
      (TR.d (r := f64 x5) (fs := []) rfl rfl (TOp.eqr (TOp.widen (src := 30) (dst := 35) ⟨_, pun30⟩ pun35 rfl (OpF.tmp rfl)) (congrArg (f .f64) hx6)) <|
      (TR.d (r := f64 r6) (fs := []) rfl rfl (yc ent40 rfl rfl (bP bN0) (K29_ok x3 x5 r6 hf7)) <|
      (tm rfl (f64 a2) <|
      (tl rfl (b false) (LOp.eqb (LOp.fle rfl (OpF.tmp rfl) (OpF.tmp rfl)) hc8) <|
      (tl rfl (b true) (LOp.eqb (LOp.not rfl rfl) rfl) <|
      TR.nil)))))))))))))) rfl (by kernel_rfl) rfl fills_nil rfl ?_
     iterate 14 refine ROps.dropS ?_
     refine ROps.drop0<|zN ?_
     refine RunC.wl (τ' := [(0, (sFc a0)), (1, (sFc a1)), (2, f64 a2), (14, i64 (a0.length : Int)), (15, i64 v1), (31, b true)]) (Γ' := []) ⟨aR, aR, aR, aR, aR, aR, trivial⟩ trivial<|yT<|zQ<|ya rfl (b true)<|zN ?_
     refine RunC.ret ?_
     cases oI h2_
     have hx3_ := hr2 _ rfl
     subst hx3_
     have hq := oI h
     subst q0
     exact bR rfl
   ·refine yW<|yl rfl (b false) (LOp.eqb (LOp.lss rfl rfl rfl) hc2)<|zN ?_
    refine yS<|yF<|RunC.exit ?_
    cases oI h2_
    have hx := ho2 _ rfl
    exact ⟨trivial, trivial, hx⟩
  ·rintro τ4 Γ4 ⟨hw4, hd4, rfl⟩
   refine RunC.wl hw4 hd4 ?_
   replace h : K2a_k1 = some q0 := h
   unfold K2a_k1 at h
   refine zQ<|ya rfl (b false)<|zN ?_
   refine RunC.ret ?_
   have hq := oI h
   subst q0
   exact bR rfl
def K2b_b1 (a0 : Int) (a1 : Int) (a2 : Int) (a3 : Int) (a4 : List F) (L1 : List F) (v3 : Int) : Option (LR ((List F) × Int) ((List F)) ((List F))) :=
 bsel (decide (v3 < a0)) (
  obind (K0p a0 a1 L1 v3 a2) fun (r4 : F) =>
  obind (K0p a0 a1 L1 v3 a3) fun (r6 : F) =>
  obind (K0r a0 a1 v3 a2 r6 L1) fun (r7 : List F) =>
  need (decide (r7.length = a4.length)) <|
  obind (K0r a0 a1 v3 a3 r4 r7) fun (r8 : List F) =>
  need (decide (r8.length = a4.length)) <|
  olet (IntKind.i64.wrap (v3 + 1)) fun (x9 : Int) =>
  some (LR.next (r8, x9))) (
  some (LR.out L1))
def K2b_s1 (a0 : Int) (a1 : Int) (a2 : Int) (a3 : Int) (a4 : List F) : ((List F) × Int) → Option (LR ((List F) × Int) ((List F)) ((List F))) := fun s => K2b_b1 a0 a1 a2 a3 a4 s.1 s.2
def K2b_k1 (L10 : List F) : Option ((List F)) :=
 some L10
def K2b (a0 : Int) (a1 : Int) (a2 : Int) (a3 : Int) (a4 : List F) : Option ((List F)) :=
 obind (loopM (K2b_s1 a0 a1 a2 a3 a4) (a4, 0)) fun z => osum z (fun e => K2b_k1 e) (fun r => some r)
theorem K2b_ok (a0 : Int) (a1 : Int) (a2 : Int) (a3 : Int) (a4 : List F) (q0 : List F) (h : K2b a0 a1 a2 a3 a4 = some q0) : Ev Tryz.prog 49 [agg (oXc a0 a1 0 0 a4.length), i64 a2, i64 a3] [oF 0 a4] (tup []) [oF 0 q0] := by
 refine Ev.start Tryz.func49 rfl rfl 0 (τ := [(0, agg (oXc a0 a1 0 0 a4.length)), (1, i64 a2), (2, i64 a3)]) rfl (Γ' := [oF 0 a4]) rfl (n := 62) rfl (g := 1) rfl (by decide) ?_
 unfold K2b at h
 refine zQ<|yd rfl (ptr (oXc a0 a1 0 0 a4.length)) (TOp.box_s rfl rfl rfl)<|zN ?_
 refine zQ<|yl rfl (ptr (oXc a0 a1 0 0 a4.length)) (LOp.fap und27 rfl siz2 rfl rfl rfl)<|yl rfl (i64 a0) (y2 agg2)<|ym rfl (i64 0)<|zN ?_
 obtain ⟨z2, hz_2, h⟩ := oS h
 refine RunC.cutN (fun τ Γ => ∃ (L10 : List F), L10.length = a4.length ∧ WeakLe τ [] ∧ DeadLe Γ [oF 0 L10] ∧ z2 = .inl L10) ?_ ?_
 ·refine RunC.block (RunC.loop (RunL.loopM (x := z2) (K2b_s1 a0 a1 a2 a3 a4) (fun (s : (List F) × Int) τ Γ => s.1.length = a4.length ∧ WeakLe τ [(1, i64 a2), (2, i64 a3), (3, ptr (oXc a0 a1 0 0 a4.length)), (9, i64 a0), (10, i64 s.2)] ∧ DeadLe Γ [⟨0, some (s.1.map f32)⟩]) ?_ _ _ _ hz_2 ⟨rfl, ⟨aR, aR, aR, aR, aR, trivial⟩, ⟨⟨rfl, .inr rfl⟩, trivial⟩⟩))
  rintro ⟨L1, v3⟩ τ2 Γ2 y2_ ⟨hl2, hw2, hd2⟩ h2_ ho2 hr2
  refine RunC.wl (τ' := [(1, i64 a2), (2, i64 a3), (3, ptr (oXc a0 a1 0 0 a4.length)), (9, i64 a0), (10, i64 v3)]) (Γ' := [oF 0 L1]) hw2 hd2 ?_
  replace hl2 : L1.length = a4.length := hl2
  replace h2_ : K2b_b1 a0 a1 a2 a3 a4 L1 v3 = some y2_ := h2_
  unfold K2b_b1 at h2_
  refine yS ?_
  rcases oB h2_ with ⟨hc1, h2_⟩ | ⟨hc1, h2_⟩
  ·refine yW<|yl rfl (b true) (LOp.eqb (LOp.lss rfl rfl rfl) hc1)<|zN ?_
   refine yS<|yT<|RunC.skip<|yS<|RunC.block<|zQ<|ym rfl (i64 v3)<|ya rfl (i64 v3)<|zN ?_
   refine yS ?_
   obtain ⟨r4, hf2, h2_⟩ := oS h2_
   refine yW<|yl rfl (agg (oXc a0 a1 0 0 a4.length)) (yL agg27 siz27)<|ym rfl (i64 v3)<|ym rfl (i64 a2)<|yd rfl (f32 r4) (TOp.callB (CallAs.func ent46 rfl rfl) (Bors.cons (Bor.agg (bP (bP (Bors.cons (Bor.own (f := f32) (fun _ => rfl) rfl hl2) bN)))) (bP bN0)) rfl rfl (K0p_ok a0 a1 L1 v3 a2 r4 hf2))<|ya rfl (f32 r4)<|zN ?_
   refine yS ?_
   obtain ⟨r6, hf4, h2_⟩ := oS h2_
   obtain ⟨r7, hf5, h2_⟩ := oS h2_
   obtain ⟨hn6, h2_⟩ := need_some h2_
   refine RunC.region_draw (Γ' := [oF 0 L1]) 7 mixed 
    (tl rfl (agg (oXc a0 a1 0 0 a4.length)) (yL agg27 siz27) <|
    (tm rfl (i64 v3) <|
    (tm rfl (i64 a2) <|
    (tl rfl (agg (oXc a0 a1 0 0 a4.length)) (yL agg27 siz27) <|
    (tm rfl (i64 v3) <|
    (tm rfl (i64 a3) <|
    (TR.d (r := f32 r6) (fs := []) rfl rfl (TOp.callB (CallAs.func ent46 rfl rfl) (Bors.cons (Bor.agg (bP (bP (Bors.cons (Bor.own (f := f32) (fun _ => rfl) rfl hl2) bN)))) (bP bN0)) rfl rfl (K0p_ok a0 a1 L1 v3 a3 r6 hf4)) <|
    TR.nil))))))) rfl (by kernel_rfl) rfl fills_nil rfl ?_
   iterate 7 refine ROps.dropS ?_
   refine ROps.drop0<|ROps.callO (A := [agg (oXc a0 a1 0 0 a4.length), i64 v3, i64 a2, f32 r6]) (args := [agg (oXc a0 a1 0 0 L1.length), i64 v3, i64 a2, f32 r6]) (Γc := [oF 0 L1]) (Γc' := [oF 0 r7]) (r' := tup []) (Γ' := [oF 0 r7]) [(0, 0)] [] rfl (CallAs.func ent81 rfl rfl) rfl rfl (SelOk.of (ndB_ok rfl) (sA rfl trivial)) (live_of ⟨⟨_, _, rfl⟩, trivial⟩) (by simp [ren, rens, sigma, rens_f32, rens_f64, rens_i64, rens_ik, rens_str, rens_cp, hl2]) rfl (K0r_ok a0 a1 v3 a2 r6 L1 r7 hf5) rfl (news_of trivial) (ndB_ok rfl) (by simp [ren, rens, sigma, of_decide_eq_true hn6]) (by simp [backOb, sigma, ren, rens, rens_f32, rens_f64, rens_i64, rens_ik, rens_str, rens_cp] <;> omega)<|zN ?_
   refine RunC.wl (τ' := [(1, i64 a2), (2, i64 a3), (3, ptr (oXc a0 a1 0 0 a4.length)), (6, i64 v3), (7, f32 r4), (9, i64 a0), (10, i64 v3)]) (Γ' := [oF 0 r7]) ⟨aR, aR, aR, aR, aR, aR, aR, trivial⟩ ⟨⟨rfl, .inr rfl⟩, trivial⟩ ?_
   obtain ⟨r8, hf7, h2_⟩ := oS h2_
   obtain ⟨hn8, h2_⟩ := need_some h2_
   refine yW<|yl rfl (agg (oXc a0 a1 0 0 a4.length)) (yL agg27 siz27)<|ym rfl (i64 v3)<|ym rfl (i64 a3)<|ym rfl (f32 r4)<|ROps.callO (A := [agg (oXc a0 a1 0 0 a4.length), i64 v3, i64 a3, f32 r4]) (args := [agg (oXc a0 a1 0 0 r7.length), i64 v3, i64 a3, f32 r4]) (Γc := [oF 0 r7]) (Γc' := [oF 0 r8]) (r' := tup []) (Γ' := [oF 0 r8]) [(0, 0)] [] rfl (CallAs.func ent81 rfl rfl) rfl rfl (SelOk.of (ndB_ok rfl) (sA rfl trivial)) (live_of ⟨⟨_, _, rfl⟩, trivial⟩) (by simp [ren, rens, sigma, rens_f32, rens_f64, rens_i64, rens_ik, rens_str, rens_cp, (of_decide_eq_true hn6)]) rfl (K0r_ok a0 a1 v3 a3 r4 r7 r8 hf7) rfl (news_of trivial) (ndB_ok rfl) (by simp [ren, rens, sigma, of_decide_eq_true hn8]) (by simp [backOb, sigma, ren, rens, rens_f32, rens_f64, rens_i64, rens_ik, rens_str, rens_cp] <;> omega)<|zN ?_
   obtain ⟨x9, hx9, h2_⟩ := oL h2_
   refine yW<|yl rfl (i64 x9) (LOp.eqr (LOp.add rfl rfl rfl) (congrArg (ik .i64) hx9))<|ym rfl (i64 x9)<|zN ?_
   cases oI h2_
   exact ⟨_, rfl, (of_decide_eq_true hn8), ⟨aR, aR, aR, aR, aR, trivial⟩, ⟨⟨rfl, .inr rfl⟩, trivial⟩⟩
  ·refine yW<|yl rfl (b false) (LOp.eqb (LOp.lss rfl rfl rfl) hc1)<|zN ?_
   refine yS<|yF<|RunC.exit ?_
   cases oI h2_
   have hx := ho2 _ rfl
   exact ⟨L1, hl2, trivial, ⟨⟨rfl, .inr rfl⟩, trivial⟩, hx⟩
 ·rintro τ3 Γ3 ⟨L10, hl11, hw3, hd3, rfl⟩
  replace h : K2b_k1 L10 = some q0 := h
  unfold K2b_k1 at h
  refine bodyQ.wl hw3 hd3 ?_
  have hq := oI h
  subst q0
  exact yB (tup []) [(0, 0)] (Res.zero rfl) (SelL.arr (f := f32) (fun _ => rfl) rfl trivial)
def K2c_k20 (v21 : Int) (v26 : Int) (v27 : Int) : Option (LR (Int × Int × Int) (Int × Int) (Int × Int × Int × Bool × (List F) × (List Int) × (List Int))) :=
 olet (IntKind.i64.wrap (v21 + 1)) fun (x31 : Int) =>
 some (LR.next (v26, v27, x31))
def K2c_b21 (a0 : Int) (r3 : Int) (r4 : Int) (L8 : List F) (v18 : Int) (v19 : Int) (v20 : Int) (v21 : Int) : Option (LR (Int × Int × Int) (Int × Int) (Int × Int × Int × Bool × (List F) × (List Int) × (List Int))) :=
 bsel (decide (v21 < a0)) (
  obind (K0p r3 r4 L8 v18 v21) fun (r22 : F) =>
  obind (K0q r22) fun (r23 : F) =>
  obind (K0p r3 r4 L8 v19 v20) fun (r24 : F) =>
  obind (K0q r24) fun (r25 : F) =>
  bsel (flt .f32 r25 r23) (
   K2c_k20 v21 v18 v21) (
   K2c_k20 v21 v19 v20)) (
  some (LR.out (v19, v20)))
def K2c_s21 (a0 : Int) (r3 : Int) (r4 : Int) (L8 : List F) (v18 : Int) : (Int × Int × Int) → Option (LR (Int × Int × Int) (Int × Int) (Int × Int × Int × Bool × (List F) × (List Int) × (List Int))) := fun s => K2c_b21 a0 r3 r4 L8 v18 s.1 s.2.1 s.2.2
def K2c_k21 (v18 : Int) (v35 : Int) (v36 : Int) : Option (LR (Int × Int × Int) (Int × Int) (Int × Int × Int × Bool × (List F) × (List Int) × (List Int))) :=
 olet (IntKind.i64.wrap (v18 + 1)) fun (x37 : Int) =>
 some (LR.next (v35, v36, x37))
def K2c_b22 (a0 : Int) (r3 : Int) (r4 : Int) (L8 : List F) (v15 : Int) (v16 : Int) (v17 : Int) (v18 : Int) : Option (LR (Int × Int × Int) (Int × Int) (Int × Int × Int × Bool × (List F) × (List Int) × (List Int))) :=
 bsel (decide (v18 < a0)) (
  obind (loopM (K2c_s21 a0 r3 r4 L8 v18) (v16, v17, v15)) fun z => osum z (fun e => K2c_k21 v18 e.1 e.2) (fun r => some (LR.ret r))) (
  some (LR.out (v16, v17)))
def K2c_s22 (a0 : Int) (r3 : Int) (r4 : Int) (L8 : List F) (v15 : Int) : (Int × Int × Int) → Option (LR (Int × Int × Int) (Int × Int) (Int × Int × Int × Bool × (List F) × (List Int) × (List Int))) := fun s => K2c_b22 a0 r3 r4 L8 v15 s.1 s.2.1 s.2.2
def K2c_k22 (a3 : F) (r3 : Int) (r4 : Int) (r5 : List F) (r6 : List Int) (r7 : List Int) (L8 : List F) (L10 : List Int) (L12 : List Int) (v14 : Int) (v15 : Int) (v41 : Int) (v42 : Int) : Option (LR ((List F) × (List Int) × (List Int) × Int × Int) ((List F) × (List Int) × (List Int) × Int) (Int × Int × Int × Bool × (List F) × (List Int) × (List Int))) :=
 obind (K0p r3 r4 L8 v41 v42) fun (r43 : F) =>
 obind (K0q r43) fun (r44 : F) =>
 bsel (fle .f32 r44 a3) (
  some (LR.out (L8, L10, L12, v14))) (
  obind (K0s r3 r4 v41 v15 L8) fun (r45 : List F) =>
  need (decide (r45.length = r5.length)) <|
  obind (K0t v41 v15 L10) fun (r46 : List Int) =>
  need (decide (r46.length = r6.length)) <|
  obind (K2b r3 r4 v42 v15 r45) fun (r47 : List F) =>
  need (decide (r47.length = r5.length)) <|
  obind (K0t v42 v15 L12) fun (r48 : List Int) =>
  need (decide (r48.length = r7.length)) <|
  obind (K0v r3 r4 v15 r47) fun (r49 : List F) =>
  need (decide (r49.length = r5.length)) <|
  obind (K0k r3 r4 r49) fun (r50 : Bool) =>
  bsel r50 (
   olet (IntKind.i64.wrap (v14 + 1)) fun (x51 : Int) =>
   olet (IntKind.i64.wrap (v15 + 1)) fun (x52 : Int) =>
   some (LR.next (r49, r46, r48, x51, x52))) (
   some (LR.ret (0, 0, 0, false, ([] : List F), ([] : List Int), ([] : List Int)))))
def K2c_b23 (a0 : Int) (a3 : F) (r3 : Int) (r4 : Int) (r5 : List F) (r6 : List Int) (r7 : List Int) (L8 : List F) (L10 : List Int) (L12 : List Int) (v14 : Int) (v15 : Int) : Option (LR ((List F) × (List Int) × (List Int) × Int × Int) ((List F) × (List Int) × (List Int) × Int) (Int × Int × Int × Bool × (List F) × (List Int) × (List Int))) :=
 bsel (decide (v15 < a0)) (
  obind (loopM (K2c_s22 a0 r3 r4 L8 v15) (v15, v15, v15)) fun z => osum z (fun e => K2c_k22 a3 r3 r4 r5 r6 r7 L8 L10 L12 v14 v15 e.1 e.2) (fun r => some (LR.ret r))) (
  some (LR.out (L8, L10, L12, v14)))
def K2c_s23 (a0 : Int) (a3 : F) (r3 : Int) (r4 : Int) (r5 : List F) (r6 : List Int) (r7 : List Int) : ((List F) × (List Int) × (List Int) × Int × Int) → Option (LR ((List F) × (List Int) × (List Int) × Int × Int) ((List F) × (List Int) × (List Int) × Int) (Int × Int × Int × Bool × (List F) × (List Int) × (List Int))) := fun s => K2c_b23 a0 a3 r3 r4 r5 r6 r7 s.1 s.2.1 s.2.2.1 s.2.2.2.1 s.2.2.2.2
def K2c_k23 (r3 : Int) (r4 : Int) (L53 : List F) (L55 : List Int) (L57 : List Int) (v59 : Int) : Option (Int × Int × Int × Bool × (List F) × (List Int) × (List Int)) :=
 some (r3, r4, v59, true, L53, L55, L57)
def K2c (a0 : Int) (a1 : Int) (a2 : List F) (a3 : F) : Option (Int × Int × Int × Bool × (List F) × (List Int) × (List Int)) :=
 obind (K0l a0 a1 a2) fun (r1 : Bool) =>
 bsel r1 (
  obind (K0f a3) fun (r2 : Bool) =>
  bsel r2 (
   bsel (flt .f32 a3 (some 0)) (
    some (0, 0, 0, false, ([] : List F), ([] : List Int), ([] : List Int))) (
    obind3 (K0n a0 a1 a2) fun (r3 : Int) (r4 : Int) (r5 : List F) =>
    obind (K0o a0) fun (r6 : List Int) =>
    obind (K0o a0) fun (r7 : List Int) =>
    obind (loopM (K2c_s23 a0 a3 r3 r4 r5 r6 r7) (r5, r6, r7, 0, 0)) fun z => osum z (fun e => K2c_k23 r3 r4 e.1 e.2.1 e.2.2.1 e.2.2.2) (fun r => some r))) (
   some (0, 0, 0, false, ([] : List F), ([] : List Int), ([] : List Int)))) (
  some (0, 0, 0, false, ([] : List F), ([] : List Int), ([] : List Int)))
theorem K2c_ok (a0 : Int) (a1 : Int) (a2 : List F) (a3 : F) (q0 : Int) (q1 : Int) (q2 : Int) (q3 : Bool) (q4 : List F) (q5 : List Int) (q6 : List Int) (h : K2c a0 a1 a2 a3 = some (q0, q1, q2, q3, q4, q5, q6)) : Ev Tryz.prog 12 [agg (mXc a0 a1 a2), f32 a3] [] (tup [agg [i64 q0, i64 q1, oref 0 0 0 q4.length, oref 1 0 0 q5.length], oref 2 0 0 q6.length, i64 q2, b q3]) [oF 0 q4, oJ 0 q5, oJ 0 q6] := by
 refine yE Tryz.func12 8 229 0 [(0, agg (mXc a0 a1 a2)), (1, f32 a3)] [o0, o0, o0, o0, o0, o0, o0, o0] rfl ?_
 unfold K2c at h
 refine zQ<|yd rfl (ptr (mXc a0 a1 a2)) (TOp.box_s rfl rfl rfl)<|ye rfl (optr 0 1 0) ([⟨1, some [i64 0, i64 0, nilsl, nilsl]⟩, o0, o0, o0, o0, o0, o0, o0]) (TOp.alloc_o (g := o0) 0 rfl zer41 zok41 rfl)<|ya rfl nilsl<|ya rfl (i64 0)<|ya rfl (b false)<|zN ?_
 refine yS<|yS ?_
 obtain ⟨r1, hf1, h⟩ := oS h
 rcases oB h with ⟨hc2, h⟩ | ⟨hc2, h⟩
 ·obtain ⟨r2, hf3, h⟩ := oS h
  rcases oB h with ⟨hc4, h⟩ | ⟨hc4, h⟩
  ·rcases oB h with ⟨hc5, h⟩ | ⟨hc5, h⟩
   ·refine yW<|yl rfl (agg (mXc a0 a1 a2)) (yL agg27 siz27)<|yd rfl (b true) (TOp.eqb (TOp.callB (CallAs.func ent41 rfl rfl) (Bors.cons (Bor.agg (bP (bP (bS bN)))) bN) rfl rfl (K0l_ok a0 a1 a2 r1 hf1)) hc2)<|yl rfl (b false) y1<|ym rfl (b false)<|ym rfl (f32 a3)<|yd rfl (b true) (TOp.eqb (yc ent42 rfl rfl bN0 (K0f_ok a3 r2 hf3)) hc4)<|yl rfl (b false) y1<|yl rfl (b false) yp<|ym rfl (b false)<|ym rfl (f32 a3)<|yl rfl (b true) (LOp.eqb (LOp.flt rfl (OpF.tmp rfl) (OpF.const rfl (by kernel_rfl) (by kernel_rfl))) hc5)<|yl rfl (b true) yp<|zN ?_
    refine RunC.wl (τ' := [(1, f32 a3), (2, ptr (mXc a0 a1 a2)), (4, optr 0 1 0), (28, b true)]) (Γ' := [⟨1, some [i64 0, i64 0, nilsl, nilsl]⟩, o0, o0, o0, o0, o0, o0, o0]) ⟨aR, aR, aR, aR, trivial⟩ ⟨⟨rfl, .inr rfl⟩, ⟨rfl, .inr rfl⟩, ⟨rfl, .inr rfl⟩, ⟨rfl, .inr rfl⟩, ⟨rfl, .inr rfl⟩, ⟨rfl, .inr rfl⟩, ⟨rfl, .inr rfl⟩, ⟨rfl, .inr rfl⟩, trivial⟩<|yT<|zQ<|yl rfl (agg [i64 0, i64 0, nilsl, nilsl]) (LOp.build (qs := []) zer41 zok41 und41 plc41 rfl trivial rfl)<|ys (agg [i64 0, i64 0, nilsl, nilsl]) [i64 0, i64 0, nilsl, nilsl] ([⟨1, some [i64 0, i64 0, nilsl, nilsl]⟩, o0, o0, o0, o0, o0, o0, o0]) siz41<|ya rfl nilsl<|ya rfl (i64 0)<|ya rfl (b false)<|zN ?_
    refine RunC.nil_cell (l' := [i64 0, i64 0, oref 1 1 0 0, nilsl]) (Γ' := [⟨1, some [i64 0, i64 0, oref 1 1 0 0, nilsl]⟩, ⟨1, some (([] : List F).map f32)⟩, o0, o0, o0, o0, o0, o0]) 0 2 1 rfl rfl rfl rfl rfl<|RunC.nil_cell (l' := [i64 0, i64 0, oref 1 1 0 0, oref 2 1 0 0]) (Γ' := [⟨1, some [i64 0, i64 0, oref 1 1 0 0, oref 2 1 0 0]⟩, ⟨1, some (([] : List F).map f32)⟩, ⟨1, some (([] : List Int).map i64)⟩, o0, o0, o0, o0, o0]) 0 3 2 rfl rfl rfl rfl rfl<|RunC.nil_slot (Γ' := [⟨1, some [i64 0, i64 0, oref 1 1 0 0, oref 2 1 0 0]⟩, ⟨1, some (([] : List F).map f32)⟩, ⟨1, some (([] : List Int).map i64)⟩, ⟨1, some (([] : List Int).map i64)⟩, o0, o0, o0, o0]) 5 3 rfl rfl rfl<|RunC.ret ?_
    have hq := oI h
    obtain ⟨hq0, hq⟩ := Prod.mk.inj hq
    obtain ⟨hq1, hq⟩ := Prod.mk.inj hq
    obtain ⟨hq2, hq⟩ := Prod.mk.inj hq
    obtain ⟨hq3, hq⟩ := Prod.mk.inj hq
    obtain ⟨hq4, hq⟩ := Prod.mk.inj hq
    obtain ⟨hq5, hq⟩ := Prod.mk.inj hq
    subst q0
    subst q1
    subst q2
    subst q3
    subst q4
    subst q5
    subst q6
    exact yB (tup [agg [i64 0, i64 0, oref 1 1 0 (([] : List F).length), oref 2 1 0 (([] : List Int).length)], oref 3 1 0 (([] : List Int).length), i64 0, b false]) [(1, 1), (2, 1), (3, 1)] (Res.eq (Res.four rfl (RV.cell agg41 siz41 rfl rfl rfl rfl) (RV.tmp rfl) (RV.tmp rfl) (RV.tmp rfl)) (by first | rfl | (rw [(show ([] : List F).length = 0 from rfl), (show ([] : List Int).length = 0 from rfl)] <;> rfl))) (sA rfl (SelL.arr0 (f := i64) (fun _ => rfl) rfl (SelL.arr0 (f := i64) (fun _ => rfl) rfl trivial)))
   ·refine yW<|yl rfl (agg (mXc a0 a1 a2)) (yL agg27 siz27)<|yd rfl (b true) (TOp.eqb (TOp.callB (CallAs.func ent41 rfl rfl) (Bors.cons (Bor.agg (bP (bP (bS bN)))) bN) rfl rfl (K0l_ok a0 a1 a2 r1 hf1)) hc2)<|yl rfl (b false) y1<|ym rfl (b false)<|ym rfl (f32 a3)<|yd rfl (b true) (TOp.eqb (yc ent42 rfl rfl bN0 (K0f_ok a3 r2 hf3)) hc4)<|yl rfl (b false) y1<|yl rfl (b false) yp<|ym rfl (b false)<|ym rfl (f32 a3)<|yl rfl (b false) (LOp.eqb (LOp.flt rfl (OpF.tmp rfl) (OpF.const rfl (by kernel_rfl) (by kernel_rfl))) hc5)<|yl rfl (b false) yp<|zN ?_
    refine RunC.wl (τ' := [(1, f32 a3), (2, ptr (mXc a0 a1 a2)), (4, optr 0 1 0), (28, b false)]) (Γ' := [⟨1, some [i64 0, i64 0, nilsl, nilsl]⟩, o0, o0, o0, o0, o0, o0, o0]) ⟨aR, aR, aR, aR, trivial⟩ ⟨⟨rfl, .inr rfl⟩, ⟨rfl, .inr rfl⟩, ⟨rfl, .inr rfl⟩, ⟨rfl, .inr rfl⟩, ⟨rfl, .inr rfl⟩, ⟨rfl, .inr rfl⟩, ⟨rfl, .inr rfl⟩, ⟨rfl, .inr rfl⟩, trivial⟩<|yF<|RunC.skip<|zQ<|yl rfl (ptr (mXc a0 a1 a2)) (LOp.fap und27 rfl siz2 rfl rfl rfl)<|yl rfl (i64 a0) (y2 agg2)<|ya rfl (i64 a0)<|zN ?_
    refine yS ?_
    obtain ⟨r3, r4, r5, hf6, h⟩ := obind3_some h
    obtain ⟨r6, hf7, h⟩ := oS h
    obtain ⟨r7, hf8, h⟩ := oS h
    refine yW<|yl rfl (agg (mXc a0 a1 a2)) (yL agg27 siz27)<|ye rfl (agg (oXc r3 r4 1 1 r5.length)) ([⟨1, some [i64 0, i64 0, nilsl, nilsl]⟩, oF 1 r5, o0, o0, o0, o0, o0, o0]) (TOp.callBN (ls := [(r5.map f32)]) [1] (CallAs.func ent43 rfl rfl) (Bors.cons (Bor.agg (bP (bP (bS bN)))) bN) rfl (K0n_ok a0 a1 a2 r3 r4 r5 hf6) (and_all (lts0_map (f := f32) (fun _ => rfl) _) rfl) (and_all (noss_map (f := f32) (fun _ => rfl) _) rfl) rfl (by decide) (ns_of ⟨⟨_, rfl⟩, trivial⟩))<|ym rfl (i64 a0)<|ye rfl (oref 2 1 0 r6.length) ([⟨1, some [i64 0, i64 0, nilsl, nilsl]⟩, oF 1 r5, oJ 1 r6, o0, o0, o0, o0, o0]) (TOp.callBN (ls := [(r6.map i64)]) [2] (CallAs.func ent44 rfl rfl) bN0 rfl (K0o_ok a0 r6 hf7) (and_all (lts0_map (f := i64) (fun _ => rfl) _) rfl) (and_all (noss_map (f := i64) (fun _ => rfl) _) rfl) rfl (by decide) (ns_of ⟨⟨_, rfl⟩, trivial⟩))<|yl rfl (agg [i64 r3, i64 r4, oref 1 1 0 r5.length, oref 2 1 0 r6.length]) (LOp.build (qs := [(0, (oXc r3 r4 1 1 r5.length)), (1, [oref 2 1 0 r6.length])]) zer41 zok41 und41 plc41 rfl ⟨rfl, ⟨_, ALe.refl _, rfl⟩, ⟨rfl, ⟨_, ALe.refl _, rfl⟩, trivial⟩⟩ rfl)<|ym rfl (i64 a0)<|ye rfl (oref 3 1 0 r7.length) ([⟨1, some [i64 0, i64 0, nilsl, nilsl]⟩, oF 1 r5, oJ 1 r6, oJ 1 r7, o0, o0, o0, o0]) (TOp.callBN (ls := [(r7.map i64)]) [3] (CallAs.func ent44 rfl rfl) bN0 rfl (K0o_ok a0 r7 hf8) (and_all (lts0_map (f := i64) (fun _ => rfl) _) rfl) (and_all (noss_map (f := i64) (fun _ => rfl) _) rfl) rfl (by decide) (ns_of ⟨⟨_, rfl⟩, trivial⟩))<|ye rfl (optr 4 1 0) ([⟨1, some [i64 0, i64 0, nilsl, nilsl]⟩, oF 1 r5, oJ 1 r6, oJ 1 r7, ⟨1, some [i64 0, i64 0, nilsl, nilsl]⟩, o0, o0, o0]) (TOp.alloc_o (g := o0) 4 rfl zer41 zok41 rfl)<|ys (agg [i64 r3, i64 r4, oref 1 1 0 r5.length, oref 2 1 0 r6.length]) [i64 r3, i64 r4, oref 1 1 0 r5.length, oref 2 1 0 r6.length] ([⟨1, some [i64 0, i64 0, nilsl, nilsl]⟩, oF 1 r5, oJ 1 r6, oJ 1 r7, ⟨1, some [i64 r3, i64 r4, oref 1 1 0 r5.length, oref 2 1 0 r6.length]⟩, o0, o0, o0]) siz41<|ya rfl (oref 3 1 0 r7.length)<|zN ?_
    refine zQ<|ya rfl (i64 0)<|zN ?_
    refine yS<|zQ<|ym rfl (i64 a0)<|ym rfl (i64 0)<|zN ?_
    obtain ⟨z24, hz_24, h⟩ := oS h
    refine RunC.cutN (fun τ Γ => ∃ (L53 : List F) (L55 : List Int) (L57 : List Int) (v59 : Int), L53.length = r5.length ∧ L55.length = r6.length ∧ L57.length = r7.length ∧ WeakLe τ [(4, optr 0 1 0), (9, optr 4 1 0), (10, oref 3 1 0 r7.length), (11, i64 v59)] ∧ DeadLe Γ [⟨1, some [i64 0, i64 0, nilsl, nilsl]⟩, oF 1 L53, oJ 1 L55, oJ 1 L57, ⟨1, some [i64 r3, i64 r4, oref 1 1 0 r5.length, oref 2 1 0 r6.length]⟩, o0, o0, o0] ∧ z24 = .inl (L53, L55, L57, v59)) ?_ ?_
    ·refine RunC.block (RunC.loop (RunL.loopM (x := z24) (K2c_s23 a0 a3 r3 r4 r5 r6 r7) (fun (s : (List F) × (List Int) × (List Int) × Int × Int) τ Γ => s.1.length = r5.length ∧ s.2.1.length = r6.length ∧ s.2.2.1.length = r7.length ∧ WeakLe τ [(1, f32 a3), (4, optr 0 1 0), (8, i64 a0), (9, optr 4 1 0), (10, oref 3 1 0 r7.length), (11, i64 s.2.2.2.1), (39, i64 a0), (40, i64 s.2.2.2.2)] ∧ DeadLe Γ [⟨1, some [i64 0, i64 0, nilsl, nilsl]⟩, ⟨1, some (s.1.map f32)⟩, ⟨1, some (s.2.1.map i64)⟩, ⟨1, some (s.2.2.1.map i64)⟩, ⟨1, some [i64 r3, i64 r4, oref 1 1 0 r5.length, oref 2 1 0 r6.length]⟩, o0, o0, o0]) ?_ _ _ _ hz_24 ⟨rfl, rfl, rfl, ⟨aR, aR, aR, aR, aR, aR, aR, aR, trivial⟩, ⟨⟨rfl, .inr rfl⟩, ⟨rfl, .inr rfl⟩, ⟨rfl, .inr rfl⟩, ⟨rfl, .inr rfl⟩, ⟨rfl, .inr rfl⟩, ⟨rfl, .inr rfl⟩, ⟨rfl, .inr rfl⟩, ⟨rfl, .inr rfl⟩, trivial⟩⟩))
     rintro ⟨L8, L10, L12, v14, v15⟩ τ24 Γ24 y24_ ⟨hl9, hl11, hl13, hw24, hd24⟩ h24_ ho24 hr24
     refine RunC.wl (τ' := [(1, f32 a3), (4, optr 0 1 0), (8, i64 a0), (9, optr 4 1 0), (10, oref 3 1 0 r7.length), (11, i64 v14), (39, i64 a0), (40, i64 v15)]) (Γ' := [⟨1, some [i64 0, i64 0, nilsl, nilsl]⟩, oF 1 L8, oJ 1 L10, oJ 1 L12, ⟨1, some [i64 r3, i64 r4, oref 1 1 0 r5.length, oref 2 1 0 r6.length]⟩, o0, o0, o0]) hw24 hd24 ?_
     replace hl9 : L8.length = r5.length := hl9
     replace hl11 : L10.length = r6.length := hl11
     replace hl13 : L12.length = r7.length := hl13
     replace h24_ : K2c_b23 a0 a3 r3 r4 r5 r6 r7 L8 L10 L12 v14 v15 = some y24_ := h24_
     unfold K2c_b23 at h24_
     refine yS ?_
     rcases oB h24_ with ⟨hc9, h24_⟩ | ⟨hc9, h24_⟩
     ·refine yW<|yl rfl (b true) (LOp.eqb (LOp.lss rfl rfl rfl) hc9)<|zN ?_
      refine yS<|yT<|RunC.skip<|yS<|RunC.block<|zQ<|ym rfl (i64 v15)<|ya rfl (i64 v15)<|zN ?_
      refine zQ<|ym rfl (i64 v15)<|ym rfl (i64 v15)<|ya rfl (i64 v15)<|ya rfl (i64 v15)<|zN ?_
      refine yS<|zQ<|ym rfl (i64 v15)<|ya rfl (i64 v15)<|zN ?_
      obtain ⟨z25, hz_25, h24_⟩ := oS h24_
      refine RunC.cutN (fun τ Γ => ∃ (v41 : Int) (v42 : Int), L8.length = r5.length ∧ L10.length = r6.length ∧ L12.length = r7.length ∧ WeakLe τ [(1, f32 a3), (4, optr 0 1 0), (8, i64 a0), (9, optr 4 1 0), (10, oref 3 1 0 r7.length), (11, i64 v14), (12, i64 v15), (13, i64 v41), (14, i64 v42), (39, i64 a0), (40, i64 v15)] ∧ DeadLe Γ [⟨1, some [i64 0, i64 0, nilsl, nilsl]⟩, oF 1 L8, oJ 1 L10, oJ 1 L12, ⟨1, some [i64 r3, i64 r4, oref 1 1 0 r5.length, oref 2 1 0 r6.length]⟩, o0, o0, o0] ∧ z25 = .inl (v41, v42)) ?_ ?_
      ·refine RunC.block (RunC.loop (RunL.loopM (x := z25) (K2c_s22 a0 r3 r4 L8 v15) (fun (s : Int × Int × Int) τ Γ => WeakLe τ [(1, f32 a3), (4, optr 0 1 0), (8, i64 a0), (9, optr 4 1 0), (10, oref 3 1 0 r7.length), (11, i64 v14), (12, i64 v15), (13, i64 s.1), (14, i64 s.2.1), (15, i64 s.2.2), (39, i64 a0), (40, i64 v15)] ∧ DeadLe Γ [⟨1, some [i64 0, i64 0, nilsl, nilsl]⟩, oF 1 L8, oJ 1 L10, oJ 1 L12, ⟨1, some [i64 r3, i64 r4, oref 1 1 0 r5.length, oref 2 1 0 r6.length]⟩, o0, o0, o0]) ?_ _ _ _ hz_25 ⟨⟨aR, aR, aR, aR, aR, aR, aR, aR, aR, aR, aR, aR, trivial⟩, ⟨⟨rfl, .inr rfl⟩, ⟨rfl, .inr rfl⟩, ⟨rfl, .inr rfl⟩, ⟨rfl, .inr rfl⟩, ⟨rfl, .inr rfl⟩, ⟨rfl, .inr rfl⟩, ⟨rfl, .inr rfl⟩, ⟨rfl, .inr rfl⟩, trivial⟩⟩))
       rintro ⟨v16, v17, v18⟩ τ25 Γ25 y25_ ⟨hw25, hd25⟩ h25_ ho25 hr25
       refine RunC.wl (τ' := [(1, f32 a3), (4, optr 0 1 0), (8, i64 a0), (9, optr 4 1 0), (10, oref 3 1 0 r7.length), (11, i64 v14), (12, i64 v15), (13, i64 v16), (14, i64 v17), (15, i64 v18), (39, i64 a0), (40, i64 v15)]) (Γ' := [⟨1, some [i64 0, i64 0, nilsl, nilsl]⟩, oF 1 L8, oJ 1 L10, oJ 1 L12, ⟨1, some [i64 r3, i64 r4, oref 1 1 0 r5.length, oref 2 1 0 r6.length]⟩, o0, o0, o0]) hw25 hd25 ?_
       replace h25_ : K2c_b22 a0 r3 r4 L8 v15 v16 v17 v18 = some y25_ := h25_
       unfold K2c_b22 at h25_
       refine yS<|yS ?_
       rcases oB h25_ with ⟨hc10, h25_⟩ | ⟨hc10, h25_⟩
       ·refine yW<|ym rfl (i64 v18)<|ym rfl (i64 a0)<|yl rfl (b true) (LOp.eqb (LOp.lss rfl rfl rfl) hc10)<|zN ?_
        refine yT<|RunC.skip<|yS<|RunC.block<|zQ<|ym rfl (i64 v15)<|ya rfl (i64 v15)<|zN ?_
        obtain ⟨z26, hz_26, h25_⟩ := oS h25_
        refine RunC.cutN (fun τ Γ => ∃ (v35 : Int) (v36 : Int), L8.length = r5.length ∧ L10.length = r6.length ∧ L12.length = r7.length ∧ WeakLe τ [(1, f32 a3), (4, optr 0 1 0), (8, i64 a0), (9, optr 4 1 0), (10, oref 3 1 0 r7.length), (11, i64 v14), (12, i64 v15), (13, i64 v35), (14, i64 v36), (15, i64 v18), (39, i64 a0), (40, i64 v15)] ∧ DeadLe Γ [⟨1, some [i64 0, i64 0, nilsl, nilsl]⟩, oF 1 L8, oJ 1 L10, oJ 1 L12, ⟨1, some [i64 r3, i64 r4, oref 1 1 0 r5.length, oref 2 1 0 r6.length]⟩, o0, o0, o0] ∧ z26 = .inl (v35, v36)) ?_ ?_
        ·refine RunC.block (RunC.loop (RunL.loopM (x := z26) (K2c_s21 a0 r3 r4 L8 v18) (fun (s : Int × Int × Int) τ Γ => WeakLe τ [(1, f32 a3), (4, optr 0 1 0), (8, i64 a0), (9, optr 4 1 0), (10, oref 3 1 0 r7.length), (11, i64 v14), (12, i64 v15), (13, i64 s.1), (14, i64 s.2.1), (15, i64 v18), (16, i64 s.2.2), (39, i64 a0), (40, i64 v15)] ∧ DeadLe Γ [⟨1, some [i64 0, i64 0, nilsl, nilsl]⟩, oF 1 L8, oJ 1 L10, oJ 1 L12, ⟨1, some [i64 r3, i64 r4, oref 1 1 0 r5.length, oref 2 1 0 r6.length]⟩, o0, o0, o0]) ?_ _ _ _ hz_26 ⟨⟨aR, aR, aR, aR, aR, aR, aR, aR, aR, aR, aR, aR, aR, trivial⟩, ⟨⟨rfl, .inr rfl⟩, ⟨rfl, .inr rfl⟩, ⟨rfl, .inr rfl⟩, ⟨rfl, .inr rfl⟩, ⟨rfl, .inr rfl⟩, ⟨rfl, .inr rfl⟩, ⟨rfl, .inr rfl⟩, ⟨rfl, .inr rfl⟩, trivial⟩⟩))
         rintro ⟨v19, v20, v21⟩ τ26 Γ26 y26_ ⟨hw26, hd26⟩ h26_ ho26 hr26
         refine RunC.wl (τ' := [(1, f32 a3), (4, optr 0 1 0), (8, i64 a0), (9, optr 4 1 0), (10, oref 3 1 0 r7.length), (11, i64 v14), (12, i64 v15), (13, i64 v19), (14, i64 v20), (15, i64 v18), (16, i64 v21), (39, i64 a0), (40, i64 v15)]) (Γ' := [⟨1, some [i64 0, i64 0, nilsl, nilsl]⟩, oF 1 L8, oJ 1 L10, oJ 1 L12, ⟨1, some [i64 r3, i64 r4, oref 1 1 0 r5.length, oref 2 1 0 r6.length]⟩, o0, o0, o0]) hw26 hd26 ?_
         replace h26_ : K2c_b21 a0 r3 r4 L8 v18 v19 v20 v21 = some y26_ := h26_
         unfold K2c_b21 at h26_
         refine yS<|yS ?_
         rcases oB h26_ with ⟨hc11, h26_⟩ | ⟨hc11, h26_⟩
         ·refine yW<|ym rfl (i64 v21)<|ym rfl (i64 a0)<|yl rfl (b true) (LOp.eqb (LOp.lss rfl rfl rfl) hc11)<|zN ?_
          refine yT<|RunC.skip<|yS<|RunC.cutN (fun τ Γ => ∃ (v26 : Int) (v27 : Int), L8.length = r5.length ∧ L10.length = r6.length ∧ L12.length = r7.length ∧ WeakLe τ [(1, f32 a3), (4, optr 0 1 0), (8, i64 a0), (9, optr 4 1 0), (10, oref 3 1 0 r7.length), (11, i64 v14), (12, i64 v15), (13, i64 v26), (14, i64 v27), (15, i64 v18), (16, i64 v21), (39, i64 a0), (40, i64 v15)] ∧ DeadLe Γ [⟨1, some [i64 0, i64 0, nilsl, nilsl]⟩, oF 1 L8, oJ 1 L10, oJ 1 L12, ⟨1, some [i64 r3, i64 r4, oref 1 1 0 r5.length, oref 2 1 0 r6.length]⟩, o0, o0, o0] ∧ K2c_k20 v21 v26 v27 = some y26_) ?_ ?_
          ·refine RunC.block<|yS ?_
           obtain ⟨r22, hf12, h26_⟩ := oS h26_
           obtain ⟨r23, hf13, h26_⟩ := oS h26_
           obtain ⟨r24, hf14, h26_⟩ := oS h26_
           obtain ⟨r25, hf15, h26_⟩ := oS h26_
           rcases oB h26_ with ⟨hc16, h26_⟩ | ⟨hc16, h26_⟩
           ·refine RunC.region_draw (Γ' := [⟨1, some [i64 0, i64 0, nilsl, nilsl]⟩, oF 1 L8, oJ 1 L10, oJ 1 L12, ⟨1, some [i64 r3, i64 r4, oref 1 1 0 r5.length, oref 2 1 0 r6.length]⟩, o0, o0, o0]) 13 mixed 
             (tl rfl (optr 4 1 0) (LOp.fao und41 rfl siz27 rfl rfl rfl) <|
             (TR.d (r := agg (oXc r3 r4 1 1 r5.length)) (fs := []) rfl rfl (yA agg27 siz27) <|
             (tm rfl (i64 v18) <|
             (tm rfl (i64 v21) <|
             (TR.d (r := f32 r22) (fs := []) rfl rfl (TOp.callB (CallAs.func ent46 rfl rfl) (Bors.cons (Bor.agg (bP (bP (Bors.cons (Bor.own (f := f32) (fun _ => rfl) rfl hl9) bN)))) (bP bN0)) rfl rfl (K0p_ok r3 r4 L8 v18 v21 r22 hf12)) <|
             (TR.d (r := f32 r23) (fs := []) rfl rfl (yc ent45 rfl rfl bN0 (K0q_ok r22 r23 hf13)) <|
             (tl rfl (optr 4 1 0) (LOp.fao und41 rfl siz27 rfl rfl rfl) <|
             (TR.d (r := agg (oXc r3 r4 1 1 r5.length)) (fs := []) rfl rfl (yA agg27 siz27) <|
             (tm rfl (i64 v19) <|
             (tm rfl (i64 v20) <|
             (TR.d (r := f32 r24) (fs := []) rfl rfl (TOp.callB (CallAs.func ent46 rfl rfl) (Bors.cons (Bor.agg (bP (bP (Bors.cons (Bor.own (f := f32) (fun _ => rfl) rfl hl9) bN)))) (bP bN0)) rfl rfl (K0p_ok r3 r4 L8 v19 v20 r24 hf14)) <|
             (TR.d (r := f32 r25) (fs := []) rfl rfl (yc ent45 rfl rfl bN0 (K0q_ok r24 r25 hf15)) <|
             (tl rfl (b true) (LOp.eqb (LOp.fgt rfl (OpF.tmp rfl) (OpF.tmp rfl)) hc16) <|
             TR.nil))))))))))))) rfl (by kernel_rfl) rfl fills_nil rfl ?_
            iterate 13 refine ROps.dropS ?_
            refine ROps.drop0<|zN ?_
            refine RunC.wl (τ' := [(1, f32 a3), (4, optr 0 1 0), (8, i64 a0), (9, optr 4 1 0), (10, oref 3 1 0 r7.length), (11, i64 v14), (12, i64 v15), (13, i64 v19), (14, i64 v20), (15, i64 v18), (16, i64 v21), (39, i64 a0), (40, i64 v15), (69, b true)]) (Γ' := [⟨1, some [i64 0, i64 0, nilsl, nilsl]⟩, oF 1 L8, oJ 1 L10, oJ 1 L12, ⟨1, some [i64 r3, i64 r4, oref 1 1 0 r5.length, oref 2 1 0 r6.length]⟩, o0, o0, o0]) ⟨aR, aR, aR, aR, aR, aR, aR, aR, aR, aR, aR, aR, aR, aR, trivial⟩ ⟨⟨rfl, .inr rfl⟩, ⟨rfl, .inr rfl⟩, ⟨rfl, .inr rfl⟩, ⟨rfl, .inr rfl⟩, ⟨rfl, .inr rfl⟩, ⟨rfl, .inr rfl⟩, ⟨rfl, .inr rfl⟩, ⟨rfl, .inr rfl⟩, trivial⟩<|yT<|yW<|ym rfl (i64 v18)<|ym rfl (i64 v21)<|ya rfl (i64 v18)<|ya rfl (i64 v21)<|zN ?_
            exact ⟨v18, v21, hl9, hl11, hl13, ⟨aR, aR, aR, aR, aR, aR, aR, aR, aR, aR, aR, aR, aR, trivial⟩, ⟨⟨rfl, .inr rfl⟩, ⟨rfl, .inr rfl⟩, ⟨rfl, .inr rfl⟩, ⟨rfl, .inr rfl⟩, ⟨rfl, .inr rfl⟩, ⟨rfl, .inr rfl⟩, ⟨rfl, .inr rfl⟩, ⟨rfl, .inr rfl⟩, trivial⟩, h26_⟩
           ·refine RunC.region_draw (Γ' := [⟨1, some [i64 0, i64 0, nilsl, nilsl]⟩, oF 1 L8, oJ 1 L10, oJ 1 L12, ⟨1, some [i64 r3, i64 r4, oref 1 1 0 r5.length, oref 2 1 0 r6.length]⟩, o0, o0, o0]) 13 mixed 
             (tl rfl (optr 4 1 0) (LOp.fao und41 rfl siz27 rfl rfl rfl) <|
             (TR.d (r := agg (oXc r3 r4 1 1 r5.length)) (fs := []) rfl rfl (yA agg27 siz27) <|
             (tm rfl (i64 v18) <|
             (tm rfl (i64 v21) <|
             (TR.d (r := f32 r22) (fs := []) rfl rfl (TOp.callB (CallAs.func ent46 rfl rfl) (Bors.cons (Bor.agg (bP (bP (Bors.cons (Bor.own (f := f32) (fun _ => rfl) rfl hl9) bN)))) (bP bN0)) rfl rfl (K0p_ok r3 r4 L8 v18 v21 r22 hf12)) <|
             (TR.d (r := f32 r23) (fs := []) rfl rfl (yc ent45 rfl rfl bN0 (K0q_ok r22 r23 hf13)) <|
             (tl rfl (optr 4 1 0) (LOp.fao und41 rfl siz27 rfl rfl rfl) <|
             (TR.d (r := agg (oXc r3 r4 1 1 r5.length)) (fs := []) rfl rfl (yA agg27 siz27) <|
             (tm rfl (i64 v19) <|
             (tm rfl (i64 v20) <|
             (TR.d (r := f32 r24) (fs := []) rfl rfl (TOp.callB (CallAs.func ent46 rfl rfl) (Bors.cons (Bor.agg (bP (bP (Bors.cons (Bor.own (f := f32) (fun _ => rfl) rfl hl9) bN)))) (bP bN0)) rfl rfl (K0p_ok r3 r4 L8 v19 v20 r24 hf14)) <|
             (TR.d (r := f32 r25) (fs := []) rfl rfl (yc ent45 rfl rfl bN0 (K0q_ok r24 r25 hf15)) <|
             (tl rfl (b false) (LOp.eqb (LOp.fgt rfl (OpF.tmp rfl) (OpF.tmp rfl)) hc16) <|
             TR.nil))))))))))))) rfl (by kernel_rfl) rfl fills_nil rfl ?_
            iterate 13 refine ROps.dropS ?_
            refine ROps.drop0<|zN ?_
            refine RunC.wl (τ' := [(1, f32 a3), (4, optr 0 1 0), (8, i64 a0), (9, optr 4 1 0), (10, oref 3 1 0 r7.length), (11, i64 v14), (12, i64 v15), (13, i64 v19), (14, i64 v20), (15, i64 v18), (16, i64 v21), (39, i64 a0), (40, i64 v15), (69, b false)]) (Γ' := [⟨1, some [i64 0, i64 0, nilsl, nilsl]⟩, oF 1 L8, oJ 1 L10, oJ 1 L12, ⟨1, some [i64 r3, i64 r4, oref 1 1 0 r5.length, oref 2 1 0 r6.length]⟩, o0, o0, o0]) ⟨aR, aR, aR, aR, aR, aR, aR, aR, aR, aR, aR, aR, aR, aR, trivial⟩ ⟨⟨rfl, .inr rfl⟩, ⟨rfl, .inr rfl⟩, ⟨rfl, .inr rfl⟩, ⟨rfl, .inr rfl⟩, ⟨rfl, .inr rfl⟩, ⟨rfl, .inr rfl⟩, ⟨rfl, .inr rfl⟩, ⟨rfl, .inr rfl⟩, trivial⟩<|yF<|RunC.skip ?_
            exact ⟨v19, v20, hl9, hl11, hl13, ⟨aR, aR, aR, aR, aR, aR, aR, aR, aR, aR, aR, aR, aR, trivial⟩, ⟨⟨rfl, .inr rfl⟩, ⟨rfl, .inr rfl⟩, ⟨rfl, .inr rfl⟩, ⟨rfl, .inr rfl⟩, ⟨rfl, .inr rfl⟩, ⟨rfl, .inr rfl⟩, ⟨rfl, .inr rfl⟩, ⟨rfl, .inr rfl⟩, trivial⟩, h26_⟩
          ·rintro τ27 Γ27 ⟨v26, v27, hl28, hl29, hl30, hw27, hd27, h26_⟩
           refine RunC.wl hw27 hd27 ?_
           unfold K2c_k20 at h26_
           obtain ⟨x31, hx17, h26_⟩ := oL h26_
           refine yW<|ym rfl (i64 v21)<|yl rfl (i64 x31) (LOp.eqr (LOp.add rfl rfl rfl) (congrArg (ik .i64) hx17))<|ya rfl (i64 x31)<|zN ?_
           cases oI h26_
           exact ⟨_, rfl, ⟨aR, aR, aR, aR, aR, aR, aR, aR, aR, aR, aR, aR, aR, trivial⟩, ⟨⟨rfl, .inr rfl⟩, ⟨rfl, .inr rfl⟩, ⟨rfl, .inr rfl⟩, ⟨rfl, .inr rfl⟩, ⟨rfl, .inr rfl⟩, ⟨rfl, .inr rfl⟩, ⟨rfl, .inr rfl⟩, ⟨rfl, .inr rfl⟩, trivial⟩⟩
         ·refine yW<|ym rfl (i64 v21)<|ym rfl (i64 a0)<|yl rfl (b false) (LOp.eqb (LOp.lss rfl rfl rfl) hc11)<|zN ?_
          refine yF<|RunC.exit ?_
          cases oI h26_
          have hx := ho26 _ rfl
          exact ⟨v19, v20, hl9, hl11, hl13, ⟨aR, aR, aR, aR, aR, aR, aR, aR, aR, aR, aR, aR, trivial⟩, ⟨⟨rfl, .inr rfl⟩, ⟨rfl, .inr rfl⟩, ⟨rfl, .inr rfl⟩, ⟨rfl, .inr rfl⟩, ⟨rfl, .inr rfl⟩, ⟨rfl, .inr rfl⟩, ⟨rfl, .inr rfl⟩, ⟨rfl, .inr rfl⟩, trivial⟩, hx⟩
        ·rintro τ28 Γ28 ⟨v35, v36, hl32, hl33, hl34, hw28, hd28, rfl⟩
         refine RunC.wl hw28 hd28 ?_
         replace h25_ : K2c_k21 v18 v35 v36 = some y25_ := h25_
         unfold K2c_k21 at h25_
         obtain ⟨x37, hx18, h25_⟩ := oL h25_
         refine yW<|ym rfl (i64 v18)<|yl rfl (i64 x37) (LOp.eqr (LOp.add rfl rfl rfl) (congrArg (ik .i64) hx18))<|ya rfl (i64 x37)<|zN ?_
         cases oI h25_
         exact ⟨_, rfl, ⟨aR, aR, aR, aR, aR, aR, aR, aR, aR, aR, aR, aR, trivial⟩, ⟨⟨rfl, .inr rfl⟩, ⟨rfl, .inr rfl⟩, ⟨rfl, .inr rfl⟩, ⟨rfl, .inr rfl⟩, ⟨rfl, .inr rfl⟩, ⟨rfl, .inr rfl⟩, ⟨rfl, .inr rfl⟩, ⟨rfl, .inr rfl⟩, trivial⟩⟩
       ·refine yW<|ym rfl (i64 v18)<|ym rfl (i64 a0)<|yl rfl (b false) (LOp.eqb (LOp.lss rfl rfl rfl) hc10)<|zN ?_
        refine yF<|RunC.exit ?_
        cases oI h25_
        have hx := ho25 _ rfl
        exact ⟨v16, v17, hl9, hl11, hl13, ⟨aR, aR, aR, aR, aR, aR, aR, aR, aR, aR, aR, trivial⟩, ⟨⟨rfl, .inr rfl⟩, ⟨rfl, .inr rfl⟩, ⟨rfl, .inr rfl⟩, ⟨rfl, .inr rfl⟩, ⟨rfl, .inr rfl⟩, ⟨rfl, .inr rfl⟩, ⟨rfl, .inr rfl⟩, ⟨rfl, .inr rfl⟩, trivial⟩, hx⟩
      ·rintro τ29 Γ29 ⟨v41, v42, hl38, hl39, hl40, hw29, hd29, rfl⟩
       refine RunC.wl hw29 hd29 ?_
       replace h24_ : K2c_k22 a3 r3 r4 r5 r6 r7 L8 L10 L12 v14 v15 v41 v42 = some y24_ := h24_
       unfold K2c_k22 at h24_
       refine yS<|yS ?_
       obtain ⟨r43, hf19, h24_⟩ := oS h24_
       obtain ⟨r44, hf20, h24_⟩ := oS h24_
       rcases oB h24_ with ⟨hc21, h24_⟩ | ⟨hc21, h24_⟩
       ·refine yW<|yl rfl (optr 4 1 0) (LOp.fao und41 rfl siz27 rfl rfl rfl)<|yd rfl (agg (oXc r3 r4 1 1 r5.length)) (yA agg27 siz27)<|ym rfl (i64 v41)<|ym rfl (i64 v42)<|yd rfl (f32 r43) (TOp.callB (CallAs.func ent46 rfl rfl) (Bors.cons (Bor.agg (bP (bP (Bors.cons (Bor.own (f := f32) (fun _ => rfl) rfl hl38) bN)))) (bP bN0)) rfl rfl (K0p_ok r3 r4 L8 v41 v42 r43 hf19))<|yd rfl (f32 r44) (yc ent45 rfl rfl bN0 (K0q_ok r43 r44 hf20))<|ym rfl (f32 a3)<|yl rfl (b true) (LOp.eqb (LOp.fle rfl (OpF.tmp rfl) (OpF.tmp rfl)) hc21)<|zN ?_
        refine yT<|RunC.exit ?_
        cases oI h24_
        have hx := ho24 _ rfl
        exact ⟨L8, L10, L12, v14, hl38, hl39, hl40, ⟨aR, aR, aR, aR, trivial⟩, ⟨⟨rfl, .inr rfl⟩, ⟨rfl, .inr rfl⟩, ⟨rfl, .inr rfl⟩, ⟨rfl, .inr rfl⟩, ⟨rfl, .inr rfl⟩, ⟨rfl, .inr rfl⟩, ⟨rfl, .inr rfl⟩, ⟨rfl, .inr rfl⟩, trivial⟩, hx⟩
       ·refine yW<|yl rfl (optr 4 1 0) (LOp.fao und41 rfl siz27 rfl rfl rfl)<|yd rfl (agg (oXc r3 r4 1 1 r5.length)) (yA agg27 siz27)<|ym rfl (i64 v41)<|ym rfl (i64 v42)<|yd rfl (f32 r43) (TOp.callB (CallAs.func ent46 rfl rfl) (Bors.cons (Bor.agg (bP (bP (Bors.cons (Bor.own (f := f32) (fun _ => rfl) rfl hl38) bN)))) (bP bN0)) rfl rfl (K0p_ok r3 r4 L8 v41 v42 r43 hf19))<|yd rfl (f32 r44) (yc ent45 rfl rfl bN0 (K0q_ok r43 r44 hf20))<|ym rfl (f32 a3)<|yl rfl (b false) (LOp.eqb (LOp.fle rfl (OpF.tmp rfl) (OpF.tmp rfl)) hc21)<|zN ?_
        refine yF<|RunC.skip<|yS ?_
        obtain ⟨r45, hf22, h24_⟩ := oS h24_
        obtain ⟨hn23, h24_⟩ := need_some h24_
        refine yW<|yl rfl (optr 4 1 0) (LOp.fao und41 rfl siz27 rfl rfl rfl)<|yd rfl (agg (oXc r3 r4 1 1 r5.length)) (yA agg27 siz27)<|ym rfl (i64 v41)<|ym rfl (i64 v15)<|ROps.callO (A := [agg (oXc r3 r4 1 1 r5.length), i64 v41, i64 v15]) (args := [agg (oXc r3 r4 0 0 L8.length), i64 v41, i64 v15]) (Γc := [oF 0 L8]) (Γc' := [oF 0 r45]) (r' := tup []) (Γ' := [⟨1, some [i64 0, i64 0, nilsl, nilsl]⟩, oF 1 r45, oJ 1 L10, oJ 1 L12, ⟨1, some [i64 r3, i64 r4, oref 1 1 0 r5.length, oref 2 1 0 r6.length]⟩, o0, o0, o0]) [(1, 1)] [] rfl (CallAs.func ent47 rfl rfl) rfl rfl (SelOk.of (ndB_ok rfl) (sA rfl trivial)) (live_of ⟨⟨_, _, rfl⟩, trivial⟩) (by simp [ren, rens, sigma, rens_f32, rens_f64, rens_i64, rens_ik, rens_str, rens_cp, hl38]) rfl (K0s_ok r3 r4 v41 v15 L8 r45 hf22) rfl (news_of trivial) (ndB_ok rfl) (by simp [ren, rens, sigma, of_decide_eq_true hn23]) (by simp [backOb, sigma, ren, rens, rens_f32, rens_f64, rens_i64, rens_ik, rens_str, rens_cp] <;> omega)<|zN ?_
        refine RunC.wl (τ' := [(1, f32 a3), (4, optr 0 1 0), (8, i64 a0), (9, optr 4 1 0), (10, oref 3 1 0 r7.length), (11, i64 v14), (12, i64 v15), (13, i64 v41), (14, i64 v42), (39, i64 a0), (40, i64 v15)]) (Γ' := [⟨1, some [i64 0, i64 0, nilsl, nilsl]⟩, oF 1 r45, oJ 1 L10, oJ 1 L12, ⟨1, some [i64 r3, i64 r4, oref 1 1 0 r5.length, oref 2 1 0 r6.length]⟩, o0, o0, o0]) ⟨aR, aR, aR, aR, aR, aR, aR, aR, aR, aR, aR, trivial⟩ ⟨⟨rfl, .inr rfl⟩, ⟨rfl, .inr rfl⟩, ⟨rfl, .inr rfl⟩, ⟨rfl, .inr rfl⟩, ⟨rfl, .inr rfl⟩, ⟨rfl, .inr rfl⟩, ⟨rfl, .inr rfl⟩, ⟨rfl, .inr rfl⟩, trivial⟩<|yS ?_
        obtain ⟨r46, hf24, h24_⟩ := oS h24_
        obtain ⟨hn25, h24_⟩ := need_some h24_
        refine yW<|yl rfl (optr 4 1 3) (LOp.fao und41 rfl siz39 rfl rfl rfl)<|yd rfl (oref 2 1 0 r6.length) (TOp.load1_o rfl rfl agg39 rfl rfl)<|ym rfl (i64 v41)<|ym rfl (i64 v15)<|ROps.callO (A := [oref 2 1 0 r6.length, i64 v41, i64 v15]) (args := [oref 0 0 0 L10.length, i64 v41, i64 v15]) (Γc := [oJ 0 L10]) (Γc' := [oJ 0 r46]) (r' := tup []) (Γ' := [⟨1, some [i64 0, i64 0, nilsl, nilsl]⟩, oF 1 r45, oJ 1 r46, oJ 1 L12, ⟨1, some [i64 r3, i64 r4, oref 1 1 0 r5.length, oref 2 1 0 r6.length]⟩, o0, o0, o0]) [(2, 1)] [] rfl (CallAs.func ent48 rfl rfl) rfl rfl (SelOk.of (show List.Nodup [2] from by decide) (SelL.arr0 (f := i64) (fun _ => rfl) rfl trivial)) (live_of ⟨⟨_, _, rfl⟩, trivial⟩) (by simp [ren, rens, sigma, rens_f32, rens_f64, rens_i64, rens_ik, rens_str, rens_cp, hl39]) rfl (K0t_ok v41 v15 L10 r46 hf24) rfl (news_of trivial) (show List.Nodup [2] from by decide) (by simp [ren, rens, sigma, of_decide_eq_true hn25]) (by simp [backOb, sigma, ren, rens, rens_f32, rens_f64, rens_i64, rens_ik, rens_str, rens_cp] <;> omega)<|zN ?_
        refine yS ?_
        obtain ⟨r47, hf26, h24_⟩ := oS h24_
        obtain ⟨hn27, h24_⟩ := need_some h24_
        refine yW<|yl rfl (optr 4 1 0) (LOp.fao und41 rfl siz27 rfl rfl rfl)<|yd rfl (agg (oXc r3 r4 1 1 r5.length)) (yA agg27 siz27)<|ym rfl (i64 v42)<|ym rfl (i64 v15)<|ROps.callO (A := [agg (oXc r3 r4 1 1 r5.length), i64 v42, i64 v15]) (args := [agg (oXc r3 r4 0 0 r45.length), i64 v42, i64 v15]) (Γc := [oF 0 r45]) (Γc' := [oF 0 r47]) (r' := tup []) (Γ' := [⟨1, some [i64 0, i64 0, nilsl, nilsl]⟩, oF 1 r47, oJ 1 r46, oJ 1 L12, ⟨1, some [i64 r3, i64 r4, oref 1 1 0 r5.length, oref 2 1 0 r6.length]⟩, o0, o0, o0]) [(1, 1)] [] rfl (CallAs.func ent49 rfl rfl) rfl rfl (SelOk.of (ndB_ok rfl) (sA rfl trivial)) (live_of ⟨⟨_, _, rfl⟩, trivial⟩) (by simp [ren, rens, sigma, rens_f32, rens_f64, rens_i64, rens_ik, rens_str, rens_cp, (of_decide_eq_true hn23)]) rfl (K2b_ok r3 r4 v42 v15 r45 r47 hf26) rfl (news_of trivial) (ndB_ok rfl) (by simp [ren, rens, sigma, of_decide_eq_true hn27]) (by simp [backOb, sigma, ren, rens, rens_f32, rens_f64, rens_i64, rens_ik, rens_str, rens_cp] <;> omega)<|zN ?_
        refine yS ?_
        obtain ⟨r48, hf28, h24_⟩ := oS h24_
        obtain ⟨hn29, h24_⟩ := need_some h24_
        refine yW<|ym rfl (oref 3 1 0 r7.length)<|ym rfl (i64 v42)<|ym rfl (i64 v15)<|ROps.callO (A := [oref 3 1 0 r7.length, i64 v42, i64 v15]) (args := [oref 0 0 0 L12.length, i64 v42, i64 v15]) (Γc := [oJ 0 L12]) (Γc' := [oJ 0 r48]) (r' := tup []) (Γ' := [⟨1, some [i64 0, i64 0, nilsl, nilsl]⟩, oF 1 r47, oJ 1 r46, oJ 1 r48, ⟨1, some [i64 r3, i64 r4, oref 1 1 0 r5.length, oref 2 1 0 r6.length]⟩, o0, o0, o0]) [(3, 1)] [] rfl (CallAs.func ent48 rfl rfl) rfl rfl (SelOk.of (show List.Nodup [3] from by decide) (SelL.arr0 (f := i64) (fun _ => rfl) rfl trivial)) (live_of ⟨⟨_, _, rfl⟩, trivial⟩) (by simp [ren, rens, sigma, rens_f32, rens_f64, rens_i64, rens_ik, rens_str, rens_cp, hl40]) rfl (K0t_ok v42 v15 L12 r48 hf28) rfl (news_of trivial) (show List.Nodup [3] from by decide) (by simp [ren, rens, sigma, of_decide_eq_true hn29]) (by simp [backOb, sigma, ren, rens, rens_f32, rens_f64, rens_i64, rens_ik, rens_str, rens_cp] <;> omega)<|zN ?_
        refine RunC.wl (τ' := [(1, f32 a3), (4, optr 0 1 0), (8, i64 a0), (9, optr 4 1 0), (10, oref 3 1 0 r7.length), (11, i64 v14), (12, i64 v15), (39, i64 a0), (40, i64 v15)]) (Γ' := [⟨1, some [i64 0, i64 0, nilsl, nilsl]⟩, oF 1 r47, oJ 1 r46, oJ 1 r48, ⟨1, some [i64 r3, i64 r4, oref 1 1 0 r5.length, oref 2 1 0 r6.length]⟩, o0, o0, o0]) ⟨aR, aR, aR, aR, aR, aR, aR, aR, aR, trivial⟩ ⟨⟨rfl, .inr rfl⟩, ⟨rfl, .inr rfl⟩, ⟨rfl, .inr rfl⟩, ⟨rfl, .inr rfl⟩, ⟨rfl, .inr rfl⟩, ⟨rfl, .inr rfl⟩, ⟨rfl, .inr rfl⟩, ⟨rfl, .inr rfl⟩, trivial⟩<|yS ?_
        obtain ⟨r49, hf30, h24_⟩ := oS h24_
        obtain ⟨hn31, h24_⟩ := need_some h24_
        refine yW<|yl rfl (optr 4 1 0) (LOp.fao und41 rfl siz27 rfl rfl rfl)<|yd rfl (agg (oXc r3 r4 1 1 r5.length)) (yA agg27 siz27)<|ym rfl (i64 v15)<|ROps.callO (A := [agg (oXc r3 r4 1 1 r5.length), i64 v15]) (args := [agg (oXc r3 r4 0 0 r47.length), i64 v15]) (Γc := [oF 0 r47]) (Γc' := [oF 0 r49]) (r' := tup []) (Γ' := [⟨1, some [i64 0, i64 0, nilsl, nilsl]⟩, oF 1 r49, oJ 1 r46, oJ 1 r48, ⟨1, some [i64 r3, i64 r4, oref 1 1 0 r5.length, oref 2 1 0 r6.length]⟩, o0, o0, o0]) [(1, 1)] [] rfl (CallAs.func ent50 rfl rfl) rfl rfl (SelOk.of (ndB_ok rfl) (sA rfl trivial)) (live_of ⟨⟨_, _, rfl⟩, trivial⟩) (by simp [ren, rens, sigma, rens_f32, rens_f64, rens_i64, rens_ik, rens_str, rens_cp, (of_decide_eq_true hn27)]) rfl (K0v_ok r3 r4 v15 r47 r49 hf30) rfl (news_of trivial) (ndB_ok rfl) (by simp [ren, rens, sigma, of_decide_eq_true hn31]) (by simp [backOb, sigma, ren, rens, rens_f32, rens_f64, rens_i64, rens_ik, rens_str, rens_cp] <;> omega)<|zN ?_
        refine yS<|yS ?_
        obtain ⟨r50, hf32, h24_⟩ := oS h24_
        rcases oB h24_ with ⟨hc33, h24_⟩ | ⟨hc33, h24_⟩
        ·refine yW<|yl rfl (optr 4 1 0) (LOp.fao und41 rfl siz27 rfl rfl rfl)<|yd rfl (agg (oXc r3 r4 1 1 r5.length)) (yA agg27 siz27)<|yd rfl (b true) (TOp.eqb (TOp.callB (CallAs.func ent35 rfl rfl) (Bors.cons (Bor.agg (bP (bP (Bors.cons (Bor.own (f := f32) (fun _ => rfl) rfl (of_decide_eq_true hn31)) bN)))) bN) rfl rfl (K0k_ok r3 r4 r49 r50 hf32)) hc33)<|yl rfl (b false) y1<|zN ?_
         refine yF<|RunC.skip ?_
         obtain ⟨x51, hx34, h24_⟩ := oL h24_
         refine yW<|ym rfl (i64 v14)<|yl rfl (i64 x51) (LOp.eqr (LOp.add rfl rfl rfl) (congrArg (ik .i64) hx34))<|ya rfl (i64 x51)<|zN ?_
         obtain ⟨x52, hx35, h24_⟩ := oL h24_
         refine yW<|yl rfl (i64 x52) (LOp.eqr (LOp.add rfl rfl rfl) (congrArg (ik .i64) hx35))<|ym rfl (i64 x52)<|zN ?_
         cases oI h24_
         exact ⟨_, rfl, (of_decide_eq_true hn31), (of_decide_eq_true hn25), (of_decide_eq_true hn29), ⟨aR, aR, aR, aR, aR, aR, aR, aR, trivial⟩, ⟨⟨rfl, .inr rfl⟩, ⟨rfl, .inr rfl⟩, ⟨rfl, .inr rfl⟩, ⟨rfl, .inr rfl⟩, ⟨rfl, .inr rfl⟩, ⟨rfl, .inr rfl⟩, ⟨rfl, .inr rfl⟩, ⟨rfl, .inr rfl⟩, trivial⟩⟩
        ·refine yW<|yl rfl (optr 4 1 0) (LOp.fao und41 rfl siz27 rfl rfl rfl)<|yd rfl (agg (oXc r3 r4 1 1 r5.length)) (yA agg27 siz27)<|yd rfl (b false) (TOp.eqb (TOp.callB (CallAs.func ent35 rfl rfl) (Bors.cons (Bor.agg (bP (bP (Bors.cons (Bor.own (f := f32) (fun _ => rfl) rfl (of_decide_eq_true hn31)) bN)))) bN) rfl rfl (K0k_ok r3 r4 r49 r50 hf32)) hc33)<|yl rfl (b true) y0<|zN ?_
         refine yT<|zQ<|yl rfl (agg [i64 0, i64 0, nilsl, nilsl]) (LOp.build (qs := []) zer41 zok41 und41 plc41 rfl trivial rfl)<|ys (agg [i64 0, i64 0, nilsl, nilsl]) [i64 0, i64 0, nilsl, nilsl] ([⟨1, some [i64 0, i64 0, nilsl, nilsl]⟩, oF 1 r49, oJ 1 r46, oJ 1 r48, ⟨1, some [i64 r3, i64 r4, oref 1 1 0 r5.length, oref 2 1 0 r6.length]⟩, o0, o0, o0]) siz41<|ya rfl nilsl<|ya rfl (i64 0)<|ya rfl (b false)<|zN ?_
         refine RunC.nil_cell (l' := [i64 0, i64 0, oref 5 1 0 0, nilsl]) (Γ' := [⟨1, some [i64 0, i64 0, oref 5 1 0 0, nilsl]⟩, oF 1 r49, oJ 1 r46, oJ 1 r48, ⟨1, some [i64 r3, i64 r4, oref 1 1 0 r5.length, oref 2 1 0 r6.length]⟩, ⟨1, some (([] : List F).map f32)⟩, o0, o0]) 0 2 5 rfl rfl rfl rfl rfl<|RunC.nil_cell (l' := [i64 0, i64 0, oref 5 1 0 0, oref 6 1 0 0]) (Γ' := [⟨1, some [i64 0, i64 0, oref 5 1 0 0, oref 6 1 0 0]⟩, oF 1 r49, oJ 1 r46, oJ 1 r48, ⟨1, some [i64 r3, i64 r4, oref 1 1 0 r5.length, oref 2 1 0 r6.length]⟩, ⟨1, some (([] : List F).map f32)⟩, ⟨1, some (([] : List Int).map i64)⟩, o0]) 0 3 6 rfl rfl rfl rfl rfl<|RunC.nil_slot (Γ' := [⟨1, some [i64 0, i64 0, oref 5 1 0 0, oref 6 1 0 0]⟩, oF 1 r49, oJ 1 r46, oJ 1 r48, ⟨1, some [i64 r3, i64 r4, oref 1 1 0 r5.length, oref 2 1 0 r6.length]⟩, ⟨1, some (([] : List F).map f32)⟩, ⟨1, some (([] : List Int).map i64)⟩, ⟨1, some (([] : List Int).map i64)⟩]) 5 7 rfl rfl rfl<|RunC.ret ?_
         cases oI h24_
         have hx30_ := hr24 _ rfl
         subst hx30_
         have hq := oI h
         obtain ⟨hq0, hq⟩ := Prod.mk.inj hq
         obtain ⟨hq1, hq⟩ := Prod.mk.inj hq
         obtain ⟨hq2, hq⟩ := Prod.mk.inj hq
         obtain ⟨hq3, hq⟩ := Prod.mk.inj hq
         obtain ⟨hq4, hq⟩ := Prod.mk.inj hq
         obtain ⟨hq5, hq⟩ := Prod.mk.inj hq
         subst q0
         subst q1
         subst q2
         subst q3
         subst q4
         subst q5
         subst q6
         exact yB (tup [agg [i64 0, i64 0, oref 5 1 0 (([] : List F).length), oref 6 1 0 (([] : List Int).length)], oref 7 1 0 (([] : List Int).length), i64 0, b false]) [(5, 1), (6, 1), (7, 1)] (Res.eq (Res.four rfl (RV.cell agg41 siz41 rfl rfl rfl rfl) (RV.tmp rfl) (RV.tmp rfl) (RV.tmp rfl)) (by first | rfl | (rw [(show ([] : List F).length = 0 from rfl), (show ([] : List Int).length = 0 from rfl)] <;> rfl))) (sA rfl (SelL.arr0 (f := i64) (fun _ => rfl) rfl (SelL.arr0 (f := i64) (fun _ => rfl) rfl trivial)))
     ·refine yW<|yl rfl (b false) (LOp.eqb (LOp.lss rfl rfl rfl) hc9)<|zN ?_
      refine yS<|yF<|RunC.exit ?_
      cases oI h24_
      have hx := ho24 _ rfl
      exact ⟨L8, L10, L12, v14, hl9, hl11, hl13, ⟨aR, aR, aR, aR, trivial⟩, ⟨⟨rfl, .inr rfl⟩, ⟨rfl, .inr rfl⟩, ⟨rfl, .inr rfl⟩, ⟨rfl, .inr rfl⟩, ⟨rfl, .inr rfl⟩, ⟨rfl, .inr rfl⟩, ⟨rfl, .inr rfl⟩, ⟨rfl, .inr rfl⟩, trivial⟩, hx⟩
    ·rintro τ31 Γ31 ⟨L53, L55, L57, v59, hl54, hl56, hl58, hw31, hd31, rfl⟩
     refine RunC.wl hw31 hd31 ?_
     replace h : K2c_k23 r3 r4 L53 L55 L57 v59 = some (q0, q1, q2, q3, q4, q5, q6) := h
     unfold K2c_k23 at h
     refine zQ<|yd rfl (agg [i64 r3, i64 r4, oref 1 1 0 r5.length, oref 2 1 0 r6.length]) (yA agg41 siz41)<|ym rfl (oref 3 1 0 r7.length)<|ym rfl (i64 v59)<|ys (agg [i64 r3, i64 r4, oref 1 1 0 r5.length, oref 2 1 0 r6.length]) [i64 r3, i64 r4, oref 1 1 0 r5.length, oref 2 1 0 r6.length] ([⟨1, some [i64 r3, i64 r4, oref 1 1 0 r5.length, oref 2 1 0 r6.length]⟩, oF 1 L53, oJ 1 L55, oJ 1 L57, ⟨1, some [i64 r3, i64 r4, oref 1 1 0 r5.length, oref 2 1 0 r6.length]⟩, o0, o0, o0]) siz41<|ya rfl (oref 3 1 0 r7.length)<|ya rfl (i64 v59)<|ya rfl (b true)<|zN ?_
     refine RunC.ret ?_
     have hq := oI h
     obtain ⟨hq0, hq⟩ := Prod.mk.inj hq
     obtain ⟨hq1, hq⟩ := Prod.mk.inj hq
     obtain ⟨hq2, hq⟩ := Prod.mk.inj hq
     obtain ⟨hq3, hq⟩ := Prod.mk.inj hq
     obtain ⟨hq4, hq⟩ := Prod.mk.inj hq
     obtain ⟨hq5, hq⟩ := Prod.mk.inj hq
     subst q0
     subst q1
     subst q2
     subst q3
     subst q4
     subst q5
     subst q6
     exact yB (tup [agg [i64 r3, i64 r4, oref 1 1 0 L53.length, oref 2 1 0 L55.length], oref 3 1 0 L57.length, i64 v59, b true]) [(1, 1), (2, 1), (3, 1)] (Res.eq (Res.four rfl (RV.cell agg41 siz41 rfl rfl rfl rfl) (RV.tmp rfl) (RV.tmp rfl) (RV.tmp rfl)) (by first | rfl | (rw [(show L53.length = r5.length from hl54), (show L55.length = r6.length from hl56), (show L57.length = r7.length from hl58)] <;> rfl))) (sA rfl (SelL.arr0 (f := i64) (fun _ => rfl) rfl (SelL.arr0 (f := i64) (fun _ => rfl) rfl trivial)))
  ·refine yW<|yl rfl (agg (mXc a0 a1 a2)) (yL agg27 siz27)<|yd rfl (b true) (TOp.eqb (TOp.callB (CallAs.func ent41 rfl rfl) (Bors.cons (Bor.agg (bP (bP (bS bN)))) bN) rfl rfl (K0l_ok a0 a1 a2 r1 hf1)) hc2)<|yl rfl (b false) y1<|ym rfl (b false)<|ym rfl (f32 a3)<|yd rfl (b false) (TOp.eqb (yc ent42 rfl rfl bN0 (K0f_ok a3 r2 hf3)) hc4)<|yl rfl (b true) y0<|yl rfl (b true) yp<|ym rfl (b true)<|yR rfl<|yR rfl<|yl rfl (b true) yq<|zN ?_
   refine RunC.wl (τ' := [(1, f32 a3), (2, ptr (mXc a0 a1 a2)), (4, optr 0 1 0), (28, b true)]) (Γ' := [⟨1, some [i64 0, i64 0, nilsl, nilsl]⟩, o0, o0, o0, o0, o0, o0, o0]) ⟨aR, aR, aR, aR, trivial⟩ ⟨⟨rfl, .inr rfl⟩, ⟨rfl, .inr rfl⟩, ⟨rfl, .inr rfl⟩, ⟨rfl, .inr rfl⟩, ⟨rfl, .inr rfl⟩, ⟨rfl, .inr rfl⟩, ⟨rfl, .inr rfl⟩, ⟨rfl, .inr rfl⟩, trivial⟩<|yT<|zQ<|yl rfl (agg [i64 0, i64 0, nilsl, nilsl]) (LOp.build (qs := []) zer41 zok41 und41 plc41 rfl trivial rfl)<|ys (agg [i64 0, i64 0, nilsl, nilsl]) [i64 0, i64 0, nilsl, nilsl] ([⟨1, some [i64 0, i64 0, nilsl, nilsl]⟩, o0, o0, o0, o0, o0, o0, o0]) siz41<|ya rfl nilsl<|ya rfl (i64 0)<|ya rfl (b false)<|zN ?_
   refine RunC.nil_cell (l' := [i64 0, i64 0, oref 1 1 0 0, nilsl]) (Γ' := [⟨1, some [i64 0, i64 0, oref 1 1 0 0, nilsl]⟩, ⟨1, some (([] : List F).map f32)⟩, o0, o0, o0, o0, o0, o0]) 0 2 1 rfl rfl rfl rfl rfl<|RunC.nil_cell (l' := [i64 0, i64 0, oref 1 1 0 0, oref 2 1 0 0]) (Γ' := [⟨1, some [i64 0, i64 0, oref 1 1 0 0, oref 2 1 0 0]⟩, ⟨1, some (([] : List F).map f32)⟩, ⟨1, some (([] : List Int).map i64)⟩, o0, o0, o0, o0, o0]) 0 3 2 rfl rfl rfl rfl rfl<|RunC.nil_slot (Γ' := [⟨1, some [i64 0, i64 0, oref 1 1 0 0, oref 2 1 0 0]⟩, ⟨1, some (([] : List F).map f32)⟩, ⟨1, some (([] : List Int).map i64)⟩, ⟨1, some (([] : List Int).map i64)⟩, o0, o0, o0, o0]) 5 3 rfl rfl rfl<|RunC.ret ?_
   have hq := oI h
   obtain ⟨hq0, hq⟩ := Prod.mk.inj hq
   obtain ⟨hq1, hq⟩ := Prod.mk.inj hq
   obtain ⟨hq2, hq⟩ := Prod.mk.inj hq
   obtain ⟨hq3, hq⟩ := Prod.mk.inj hq
   obtain ⟨hq4, hq⟩ := Prod.mk.inj hq
   obtain ⟨hq5, hq⟩ := Prod.mk.inj hq
   subst q0
   subst q1
   subst q2
   subst q3
   subst q4
   subst q5
   subst q6
   exact yB (tup [agg [i64 0, i64 0, oref 1 1 0 (([] : List F).length), oref 2 1 0 (([] : List Int).length)], oref 3 1 0 (([] : List Int).length), i64 0, b false]) [(1, 1), (2, 1), (3, 1)] (Res.eq (Res.four rfl (RV.cell agg41 siz41 rfl rfl rfl rfl) (RV.tmp rfl) (RV.tmp rfl) (RV.tmp rfl)) (by first | rfl | (rw [(show ([] : List F).length = 0 from rfl), (show ([] : List Int).length = 0 from rfl)] <;> rfl))) (sA rfl (SelL.arr0 (f := i64) (fun _ => rfl) rfl (SelL.arr0 (f := i64) (fun _ => rfl) rfl trivial)))
 ·refine yW<|yl rfl (agg (mXc a0 a1 a2)) (yL agg27 siz27)<|yd rfl (b false) (TOp.eqb (TOp.callB (CallAs.func ent41 rfl rfl) (Bors.cons (Bor.agg (bP (bP (bS bN)))) bN) rfl rfl (K0l_ok a0 a1 a2 r1 hf1)) hc2)<|yl rfl (b true) y0<|ym rfl (b true)<|yR rfl<|yR rfl<|yR rfl<|yl rfl (b true) yq<|ym rfl (b true)<|yR rfl<|yR rfl<|yl rfl (b true) yq<|zN ?_
  refine RunC.wl (τ' := [(1, f32 a3), (2, ptr (mXc a0 a1 a2)), (4, optr 0 1 0), (28, b true)]) (Γ' := [⟨1, some [i64 0, i64 0, nilsl, nilsl]⟩, o0, o0, o0, o0, o0, o0, o0]) ⟨aR, aR, aR, aR, trivial⟩ ⟨⟨rfl, .inr rfl⟩, ⟨rfl, .inr rfl⟩, ⟨rfl, .inr rfl⟩, ⟨rfl, .inr rfl⟩, ⟨rfl, .inr rfl⟩, ⟨rfl, .inr rfl⟩, ⟨rfl, .inr rfl⟩, ⟨rfl, .inr rfl⟩, trivial⟩<|yT<|zQ<|yl rfl (agg [i64 0, i64 0, nilsl, nilsl]) (LOp.build (qs := []) zer41 zok41 und41 plc41 rfl trivial rfl)<|ys (agg [i64 0, i64 0, nilsl, nilsl]) [i64 0, i64 0, nilsl, nilsl] ([⟨1, some [i64 0, i64 0, nilsl, nilsl]⟩, o0, o0, o0, o0, o0, o0, o0]) siz41<|ya rfl nilsl<|ya rfl (i64 0)<|ya rfl (b false)<|zN ?_
  refine RunC.nil_cell (l' := [i64 0, i64 0, oref 1 1 0 0, nilsl]) (Γ' := [⟨1, some [i64 0, i64 0, oref 1 1 0 0, nilsl]⟩, ⟨1, some (([] : List F).map f32)⟩, o0, o0, o0, o0, o0, o0]) 0 2 1 rfl rfl rfl rfl rfl<|RunC.nil_cell (l' := [i64 0, i64 0, oref 1 1 0 0, oref 2 1 0 0]) (Γ' := [⟨1, some [i64 0, i64 0, oref 1 1 0 0, oref 2 1 0 0]⟩, ⟨1, some (([] : List F).map f32)⟩, ⟨1, some (([] : List Int).map i64)⟩, o0, o0, o0, o0, o0]) 0 3 2 rfl rfl rfl rfl rfl<|RunC.nil_slot (Γ' := [⟨1, some [i64 0, i64 0, oref 1 1 0 0, oref 2 1 0 0]⟩, ⟨1, some (([] : List F).map f32)⟩, ⟨1, some (([] : List Int).map i64)⟩, ⟨1, some (([] : List Int).map i64)⟩, o0, o0, o0, o0]) 5 3 rfl rfl rfl<|RunC.ret ?_
  have hq := oI h
  obtain ⟨hq0, hq⟩ := Prod.mk.inj hq
  obtain ⟨hq1, hq⟩ := Prod.mk.inj hq
  obtain ⟨hq2, hq⟩ := Prod.mk.inj hq
  obtain ⟨hq3, hq⟩ := Prod.mk.inj hq
  obtain ⟨hq4, hq⟩ := Prod.mk.inj hq
  obtain ⟨hq5, hq⟩ := Prod.mk.inj hq
  subst q0
  subst q1
  subst q2
  subst q3
  subst q4
  subst q5
  subst q6
  exact yB (tup [agg [i64 0, i64 0, oref 1 1 0 (([] : List F).length), oref 2 1 0 (([] : List Int).length)], oref 3 1 0 (([] : List Int).length), i64 0, b false]) [(1, 1), (2, 1), (3, 1)] (Res.eq (Res.four rfl (RV.cell agg41 siz41 rfl rfl rfl rfl) (RV.tmp rfl) (RV.tmp rfl) (RV.tmp rfl)) (by first | rfl | (rw [(show ([] : List F).length = 0 from rfl), (show ([] : List Int).length = 0 from rfl)] <;> rfl))) (sA rfl (SelL.arr0 (f := i64) (fun _ => rfl) rfl (SelL.arr0 (f := i64) (fun _ => rfl) rfl trivial)))
def K2d (a0 : Int) (a1 : Int) (a2 : Int) : Option (Bool) :=
 bsel (decide (a1 ≤ a0)) (
  some (decide (a0 ≤ a2))) (
  some false)
theorem K2d_ok (a0 : Int) (a1 : Int) (a2 : Int) (q0 : Bool) (h : K2d a0 a1 a2 = some q0) : Ev Tryz.prog 82 [i64 a0, i64 a1, i64 a2] [] (b q0) [] := by
 refine yE Tryz.func82 0 31 0 [(0, i64 a0), (1, i64 a1), (2, i64 a2)] [] rfl ?_
 unfold K2d at h
 refine zQ<|ya rfl (b false)<|zN ?_
 refine yS ?_
 rcases oB h with ⟨hc1, h⟩ | ⟨hc1, h⟩
 ·refine yW<|ym rfl (i64 a0)<|ym rfl (i64 a1)<|yl rfl (b true) (LOp.eqb (LOp.geq rfl rfl rfl) hc1)<|ym rfl (b true)<|ym rfl (i64 a0)<|ym rfl (i64 a2)<|yl rfl (b (decide (a0 ≤ a2))) (LOp.leq rfl rfl rfl)<|yl rfl (b (decide (a0 ≤ a2))) yq<|ya rfl (b (decide (a0 ≤ a2)))<|zN ?_
  refine RunC.ret ?_
  have hq := oI h
  subst q0
  exact bR rfl
 ·refine yW<|ym rfl (i64 a0)<|ym rfl (i64 a1)<|yl rfl (b false) (LOp.eqb (LOp.geq rfl rfl rfl) hc1)<|ym rfl (b false)<|yR rfl<|yR rfl<|yR rfl<|yl rfl (b false) yp<|ya rfl (b false)<|zN ?_
  refine RunC.ret ?_
  have hq := oI h
  subst q0
  exact bR rfl
def K2e_b1 (a0 : List Int) (L1 : List Bool) (v3 : Int) : Option (LR ((List Bool) × Int) (Unit) (Bool)) :=
 bsel (decide (v3 < (a0.length : Int))) (
  obind (at? a0 v3) fun (e4 : Int) =>
  olet (IntKind.i64.wrap ((a0.length : Int) - 1)) fun (x5 : Int) =>
  obind (K2d e4 0 x5) fun (r6 : Bool) =>
  bsel r6 (
   obind (at? a0 v3) fun (e7 : Int) =>
   obind (at? L1 e7) fun (e8 : Bool) =>
   bsel e8 (
    some (LR.ret false)) (
    obind (at? a0 v3) fun (e9 : Int) =>
    obind (setAt? L1 e9 true) fun (L10 : List Bool) =>
    olet (IntKind.i64.wrap (v3 + 1)) fun (x11 : Int) =>
    some (LR.next (L10, x11)))) (
   some (LR.ret false))) (
  some (LR.out ()))
def K2e_s1 (a0 : List Int) : ((List Bool) × Int) → Option (LR ((List Bool) × Int) (Unit) (Bool)) := fun s => K2e_b1 a0 s.1 s.2
def K2e_k1  : Option (Bool) :=
 some true
def K2e (a0 : List Int) : Option (Bool) :=
 bsel (decide ((a0.length : Int) < 1)) (
  some false) (
  bsel (decide (12 < (a0.length : Int))) (
   some false) (
   need (mkok 1 (a0.length : Int)) <|
   obind (loopM (K2e_s1 a0) ((List.replicate (a0.length : Int).toNat false), 0)) fun z => osum z (fun _ => K2e_k1) (fun r => some r)))
theorem K2e_ok (a0 : List Int) (q0 : Bool) (h : K2e a0 = some q0) : Ev Tryz.prog 51 [sl a0.length (a0.map i64)] [] (b q0) [] := by
 refine yE Tryz.func51 1 93 0 [(0, sl a0.length (a0.map i64))] [o0] rfl ?_
 unfold K2e at h
 refine zQ<|ya rfl (b false)<|zN ?_
 refine yS<|yS ?_
 rcases oB h with ⟨hc1, h⟩ | ⟨hc1, h⟩
 ·refine yW<|ym rfl (sl a0.length (a0.map i64))<|yl rfl (i64 (a0.length : Int)) (LOp.len_sl und39 rfl rfl)<|yl rfl (b true) (LOp.eqb (LOp.lss rfl rfl rfl) hc1)<|ym rfl (b true)<|yR rfl<|yR rfl<|yR rfl<|yl rfl (b true) yq<|zN ?_
  refine yT<|zQ<|ya rfl (b false)<|zN ?_
  refine RunC.ret ?_
  have hq := oI h
  subst q0
  exact bR rfl
 ·rcases oB h with ⟨hc2, h⟩ | ⟨hc2, h⟩
  ·refine yW<|ym rfl (sl a0.length (a0.map i64))<|yl rfl (i64 (a0.length : Int)) (LOp.len_sl und39 rfl rfl)<|yl rfl (b false) (LOp.eqb (LOp.lss rfl rfl rfl) hc1)<|ym rfl (b false)<|ym rfl (sl a0.length (a0.map i64))<|yl rfl (i64 (a0.length : Int)) (LOp.len_sl und39 rfl rfl)<|yl rfl (b true) (LOp.eqb (LOp.gtr rfl rfl rfl) hc2)<|yl rfl (b true) yp<|zN ?_
   refine yT<|zQ<|ya rfl (b false)<|zN ?_
   refine RunC.ret ?_
   have hq := oI h
   subst q0
   exact bR rfl
  ·refine yW<|ym rfl (sl a0.length (a0.map i64))<|yl rfl (i64 (a0.length : Int)) (LOp.len_sl und39 rfl rfl)<|yl rfl (b false) (LOp.eqb (LOp.lss rfl rfl rfl) hc1)<|ym rfl (b false)<|ym rfl (sl a0.length (a0.map i64))<|yl rfl (i64 (a0.length : Int)) (LOp.len_sl und39 rfl rfl)<|yl rfl (b false) (LOp.eqb (LOp.gtr rfl rfl rfl) hc2)<|yl rfl (b false) yp<|zN ?_
   refine yF<|RunC.skip<|yS ?_
   obtain ⟨hm3, h⟩ := need_some h
   refine yW<|ym rfl (sl a0.length (a0.map i64))<|yl rfl (i64 (a0.length : Int)) (LOp.len_sl und39 rfl rfl)<|ye rfl (oref 0 1 0 ((a0.length : Int).toNat)) [⟨1, some ((List.replicate (a0.length : Int).toNat false).map b)⟩] (TOp.mkS (g := o0) (t := 103) (e := 4) (by_ := 1) (f := b) (zv := false) 0 rfl und103 tin4 rfl siz4 zer4 rfl zel4 rfl rfl rfl hm3)<|ya rfl (oref 0 1 0 ((a0.length : Int).toNat))<|zN ?_
   refine yS<|zQ<|ya rfl (i64 0)<|zN ?_
   obtain ⟨z2, hz_2, h⟩ := oS h
   refine RunC.cutN (fun τ Γ => WeakLe τ [] ∧ DeadLe Γ [⟨1, none⟩] ∧ z2 = .inl ()) ?_ ?_
   ·refine RunC.block (RunC.loop (RunL.loopM (x := z2) (K2e_s1 a0) (fun (s : (List Bool) × Int) τ Γ => s.1.length = (a0.length : Int).toNat ∧ WeakLe τ [(0, sl a0.length (a0.map i64)), (3, oref 0 1 0 ((a0.length : Int).toNat)), (4, i64 s.2)] ∧ DeadLe Γ [⟨1, some (s.1.map b)⟩]) ?_ _ _ _ hz_2 ⟨List.length_replicate, ⟨aR, aR, aR, trivial⟩, ⟨⟨rfl, .inr rfl⟩, trivial⟩⟩))
    rintro ⟨L1, v3⟩ τ2 Γ2 y2_ ⟨hl2, hw2, hd2⟩ h2_ ho2 hr2
    refine RunC.wl (τ' := [(0, sl a0.length (a0.map i64)), (3, oref 0 1 0 ((a0.length : Int).toNat)), (4, i64 v3)]) (Γ' := [⟨1, some (L1.map b)⟩]) hw2 hd2 ?_
    replace hl2 : L1.length = (a0.length : Int).toNat := hl2
    replace h2_ : K2e_b1 a0 L1 v3 = some y2_ := h2_
    unfold K2e_b1 at h2_
    refine yS<|yS ?_
    rcases oB h2_ with ⟨hc4, h2_⟩ | ⟨hc4, h2_⟩
    ·refine yW<|ym rfl (i64 v3)<|ym rfl (sl a0.length (a0.map i64))<|yl rfl (i64 (a0.length : Int)) (LOp.len_sl und39 rfl rfl)<|yl rfl (b true) (LOp.eqb (LOp.lss rfl rfl rfl) hc4)<|zN ?_
     refine yT<|RunC.skip<|yS<|RunC.block<|yS<|yS ?_
     obtain ⟨e4, he5, h2_⟩ := oS h2_
     obtain ⟨x5, hx6, h2_⟩ := oL h2_
     obtain ⟨r6, hf7, h2_⟩ := oS h2_
     rcases oB h2_ with ⟨hc8, h2_⟩ | ⟨hc8, h2_⟩
     ·obtain ⟨e7, he9, h2_⟩ := oS h2_
      obtain ⟨e8, he10, h2_⟩ := oS h2_
      rcases oB h2_ with ⟨hc11, h2_⟩ | ⟨hc11, h2_⟩
      ·refine yW<|ym rfl (sl a0.length (a0.map i64))<|ym rfl (i64 v3)<|yl rfl (ptr [i64 e4]) (LOp.le (LOp.ix (f := i64) und39 siz2 rfl rfl rfl rfl he5) ALe.ptr)<|yl rfl (i64 e4) (y2 agg2)<|ym rfl (sl a0.length (a0.map i64))<|yl rfl (i64 (a0.length : Int)) (LOp.len_sl und39 rfl rfl)<|yl rfl (i64 x5) (LOp.eqr (LOp.sub rfl rfl rfl) (congrArg (ik .i64) hx6))<|yd rfl (b true) (TOp.eqb (yc ent82 rfl rfl (bP (bP bN0)) (K2d_ok e4 0 x5 r6 hf7)) hc8)<|yl rfl (b false) y1<|ym rfl (b false)<|ym rfl (oref 0 1 0 ((a0.length : Int).toNat))<|ym rfl (sl a0.length (a0.map i64))<|ym rfl (i64 v3)<|yl rfl (ptr [i64 e7]) (LOp.le (LOp.ix (f := i64) und39 siz2 rfl rfl rfl rfl he9) ALe.ptr)<|yl rfl (i64 e7) (y2 agg2)<|yd rfl (optr 0 1 e7.toNat) (TOp.ixo und103 siz4 rfl rfl rfl (at_in he10 hl2) rfl)<|yd rfl (b true) (TOp.eqb (TOp.load1_o rfl (at_cell he10) agg4 rfl rfl) hc11)<|yl rfl (b true) yp<|zN ?_
       refine RunC.wl (τ' := [(0, sl a0.length (a0.map i64)), (3, oref 0 1 0 ((a0.length : Int).toNat)), (4, i64 v3), (32, oref 0 1 0 ((a0.length : Int).toNat)), (33, sl a0.length (a0.map i64)), (34, i64 v3), (35, ptr [i64 e7]), (36, i64 e7), (37, optr 0 1 e7.toNat), (38, b true), (39, b true)]) (Γ' := [⟨1, some (L1.map b)⟩]) ⟨aR, aR, aR, aR, aR, aR, aR, aR, aR, aR, aR, trivial⟩ ⟨⟨rfl, .inr rfl⟩, trivial⟩<|yT<|zQ<|ya rfl (b false)<|zN ?_
       refine RunC.ret ?_
       cases oI h2_
       have hx3_ := hr2 _ rfl
       subst hx3_
       have hq := oI h
       subst q0
       exact bR rfl
      ·refine yW<|ym rfl (sl a0.length (a0.map i64))<|ym rfl (i64 v3)<|yl rfl (ptr [i64 e4]) (LOp.le (LOp.ix (f := i64) und39 siz2 rfl rfl rfl rfl he5) ALe.ptr)<|yl rfl (i64 e4) (y2 agg2)<|ym rfl (sl a0.length (a0.map i64))<|yl rfl (i64 (a0.length : Int)) (LOp.len_sl und39 rfl rfl)<|yl rfl (i64 x5) (LOp.eqr (LOp.sub rfl rfl rfl) (congrArg (ik .i64) hx6))<|yd rfl (b true) (TOp.eqb (yc ent82 rfl rfl (bP (bP bN0)) (K2d_ok e4 0 x5 r6 hf7)) hc8)<|yl rfl (b false) y1<|ym rfl (b false)<|ym rfl (oref 0 1 0 ((a0.length : Int).toNat))<|ym rfl (sl a0.length (a0.map i64))<|ym rfl (i64 v3)<|yl rfl (ptr [i64 e7]) (LOp.le (LOp.ix (f := i64) und39 siz2 rfl rfl rfl rfl he9) ALe.ptr)<|yl rfl (i64 e7) (y2 agg2)<|yd rfl (optr 0 1 e7.toNat) (TOp.ixo und103 siz4 rfl rfl rfl (at_in he10 hl2) rfl)<|yd rfl (b false) (TOp.eqb (TOp.load1_o rfl (at_cell he10) agg4 rfl rfl) hc11)<|yl rfl (b false) yp<|zN ?_
       refine RunC.wl (τ' := [(0, sl a0.length (a0.map i64)), (3, oref 0 1 0 ((a0.length : Int).toNat)), (4, i64 v3), (32, oref 0 1 0 ((a0.length : Int).toNat)), (33, sl a0.length (a0.map i64)), (34, i64 v3), (35, ptr [i64 e7]), (36, i64 e7), (37, optr 0 1 e7.toNat), (38, b false), (39, b false)]) (Γ' := [⟨1, some (L1.map b)⟩]) ⟨aR, aR, aR, aR, aR, aR, aR, aR, aR, aR, aR, trivial⟩ ⟨⟨rfl, .inr rfl⟩, trivial⟩<|yF<|RunC.skip ?_
       obtain ⟨e9, he12, h2_⟩ := oS h2_
       obtain ⟨L10, he13, h2_⟩ := oS h2_
       refine yW<|ym rfl (oref 0 1 0 ((a0.length : Int).toNat))<|ym rfl (sl a0.length (a0.map i64))<|ym rfl (i64 v3)<|yl rfl (ptr [i64 e9]) (LOp.le (LOp.ix (f := i64) und39 siz2 rfl rfl rfl rfl he12) ALe.ptr)<|yl rfl (i64 e9) (y2 agg2)<|yd rfl (optr 0 1 e9.toNat) (TOp.ixo und103 siz4 rfl rfl rfl (set_in he13 hl2) rfl)<|ROps.st (f := b) (i := e9) (Γ' := [⟨1, some (L10.map b)⟩]) rfl siz4 rfl rfl rfl aR rfl rfl rfl he13 rfl<|zN ?_
       obtain ⟨x11, hx14, h2_⟩ := oL h2_
       refine yW<|ym rfl (i64 v3)<|yl rfl (i64 x11) (LOp.eqr (LOp.add rfl rfl rfl) (congrArg (ik .i64) hx14))<|ya rfl (i64 x11)<|zN ?_
       cases oI h2_
       exact ⟨_, rfl, ((setAt?_len he13).trans hl2), ⟨aR, aR, aR, trivial⟩, ⟨⟨rfl, .inr rfl⟩, trivial⟩⟩
     ·refine yW<|ym rfl (sl a0.length (a0.map i64))<|ym rfl (i64 v3)<|yl rfl (ptr [i64 e4]) (LOp.le (LOp.ix (f := i64) und39 siz2 rfl rfl rfl rfl he5) ALe.ptr)<|yl rfl (i64 e4) (y2 agg2)<|ym rfl (sl a0.length (a0.map i64))<|yl rfl (i64 (a0.length : Int)) (LOp.len_sl und39 rfl rfl)<|yl rfl (i64 x5) (LOp.eqr (LOp.sub rfl rfl rfl) (congrArg (ik .i64) hx6))<|yd rfl (b false) (TOp.eqb (yc ent82 rfl rfl (bP (bP bN0)) (K2d_ok e4 0 x5 r6 hf7)) hc8)<|yl rfl (b true) y0<|ym rfl (b true)<|yR rfl<|yR rfl<|yR rfl<|yR rfl<|yR rfl<|yR rfl<|yR rfl<|yl rfl (b true) yq<|zN ?_
      refine RunC.wl (τ' := [(0, sl a0.length (a0.map i64)), (3, oref 0 1 0 ((a0.length : Int).toNat)), (4, i64 v3), (39, b true)]) (Γ' := [⟨1, some (L1.map b)⟩]) ⟨aR, aR, aR, aR, trivial⟩ ⟨⟨rfl, .inr rfl⟩, trivial⟩<|yT<|zQ<|ya rfl (b false)<|zN ?_
      refine RunC.ret ?_
      cases oI h2_
      have hx4_ := hr2 _ rfl
      subst hx4_
      have hq := oI h
      subst q0
      exact bR rfl
    ·refine yW<|ym rfl (i64 v3)<|ym rfl (sl a0.length (a0.map i64))<|yl rfl (i64 (a0.length : Int)) (LOp.len_sl und39 rfl rfl)<|yl rfl (b false) (LOp.eqb (LOp.lss rfl rfl rfl) hc4)<|zN ?_
     refine yF<|RunC.exit ?_
     cases oI h2_
     have hx := ho2 _ rfl
     exact ⟨trivial, ⟨⟨rfl, .inl rfl⟩, trivial⟩, hx⟩
   ·rintro τ5 Γ5 ⟨hw5, hd5, rfl⟩
    refine RunC.wl hw5 hd5 ?_
    replace h : K2e_k1 = some q0 := h
    unfold K2e_k1 at h
    refine zQ<|ya rfl (b true)<|zN ?_
    refine RunC.ret ?_
    have hq := oI h
    subst q0
    exact bR rfl
def K2f (a0 : List Int) : Option (Bool) :=
 obind (K2e a0) fun (r1 : Bool) =>
 some r1
theorem K2f_ok (a0 : List Int) (q0 : Bool) (h : K2f a0 = some q0) : Ev Tryz.prog 13 [sl a0.length (a0.map i64)] [] (b q0) [] := by
 refine yE Tryz.func13 0 11 0 [(0, sl a0.length (a0.map i64))] [] rfl ?_
 unfold K2f at h
 refine zQ<|ya rfl (b false)<|zN ?_
 refine yS ?_
 obtain ⟨r1, hf1, h⟩ := oS h
 refine yW<|ym rfl (sl a0.length (a0.map i64))<|yd rfl (b r1) (yc ent51 rfl rfl (bS bN) (K2e_ok a0 r1 hf1))<|ya rfl (b r1)<|zN ?_
 refine RunC.ret ?_
 have hq := oI h
 subst q0
 exact bR rfl
def K2g (a0 : Int) (a1 : Int) : Option (Bool) :=
 obind (K2d a0 1 12) fun (r1 : Bool) =>
 bsel r1 (
  obind (K2d a1 1 12) fun (r2 : Bool) =>
  some r2) (
  some false)
theorem K2g_ok (a0 : Int) (a1 : Int) (q0 : Bool) (h : K2g a0 a1 = some q0) : Ev Tryz.prog 86 [i64 a0, i64 a1] [] (b q0) [] := by
 refine yE Tryz.func86 0 23 0 [(0, i64 a0), (1, i64 a1)] [] rfl ?_
 unfold K2g at h
 refine zQ<|ya rfl (b false)<|zN ?_
 refine yS ?_
 obtain ⟨r1, hf1, h⟩ := oS h
 rcases oB h with ⟨hc2, h⟩ | ⟨hc2, h⟩
 ·obtain ⟨r2, hf3, h⟩ := oS h
  refine yW<|ym rfl (i64 a0)<|yd rfl (b true) (TOp.eqb (yc ent82 rfl rfl (bP (bP bN0)) (K2d_ok a0 1 12 r1 hf1)) hc2)<|ym rfl (b true)<|ym rfl (i64 a1)<|yd rfl (b r2) (yc ent82 rfl rfl (bP (bP bN0)) (K2d_ok a1 1 12 r2 hf3))<|yl rfl (b r2) yq<|ya rfl (b r2)<|zN ?_
  refine RunC.ret ?_
  have hq := oI h
  subst q0
  exact bR rfl
 ·refine yW<|ym rfl (i64 a0)<|yd rfl (b false) (TOp.eqb (yc ent82 rfl rfl (bP (bP bN0)) (K2d_ok a0 1 12 r1 hf1)) hc2)<|ym rfl (b false)<|yR rfl<|yR rfl<|yl rfl (b false) yp<|ya rfl (b false)<|zN ?_
  refine RunC.ret ?_
  have hq := oI h
  subst q0
  exact bR rfl
def K2h (a0 : F) : Option (Bool) :=
 olet (fop .sub .f32 a0 a0) fun (x1 : F) =>
 some (feq .f32 x1 (some 0))
theorem K2h_ok (a0 : F) (q0 : Bool) (h : K2h a0 = some q0) : Ev Tryz.prog 104 [f32 a0] [] (b q0) [] := by
 refine yE Tryz.func104 0 15 0 [(0, f32 a0)] [] rfl ?_
 unfold K2h at h
 refine zQ<|ya rfl (b false)<|zN ?_
 refine yS ?_
 obtain ⟨x1, hx1, h⟩ := oL h
 refine yW<|ym rfl (f32 a0)<|ym rfl (f32 a0)<|yd rfl (f32 x1) (TOp.eqr (TOp.fop (.inr (.inl rfl)) rfl (OpF.tmp rfl) (OpF.tmp rfl)) (congrArg (f .f32) hx1))<|yl rfl (b (feq .f32 x1 (some 0))) (LOp.feq rfl (OpF.tmp rfl) (OpF.const rfl (by kernel_rfl) (by kernel_rfl)))<|ya rfl (b (feq .f32 x1 (some 0)))<|zN ?_
 refine RunC.ret ?_
 have hq := oI h
 subst q0
 exact bR rfl
def K2i_b1 (a0 : List F) (v1 : Int) : Option (LR (Int) (Unit) (Bool)) :=
 bsel (decide (v1 < (a0.length : Int))) (
  obind (at? a0 v1) fun (e2 : F) =>
  obind (K2h e2) fun (r3 : Bool) =>
  bsel r3 (
   olet (IntKind.i64.wrap (v1 + 1)) fun (x4 : Int) =>
   some (LR.next x4)) (
   some (LR.ret false))) (
  some (LR.out ()))
def K2i_s1 (a0 : List F) : (Int) → Option (LR (Int) (Unit) (Bool)) := fun s => K2i_b1 a0 s
def K2i_k1  : Option (Bool) :=
 some true
def K2i (a0 : List F) : Option (Bool) :=
 obind (loopM (K2i_s1 a0) 0) fun z => osum z (fun _ => K2i_k1) (fun r => some r)
theorem K2i_ok (a0 : List F) (q0 : Bool) (h : K2i a0 = some q0) : Ev Tryz.prog 87 [(sFc a0)] [] (b q0) [] := by
 refine yE Tryz.func87 0 33 0 [(0, (sFc a0))] [] rfl ?_
 unfold K2i at h
 refine zQ<|ya rfl (b false)<|zN ?_
 refine yS<|zQ<|ya rfl (i64 0)<|zN ?_
 obtain ⟨z2, hz_2, h⟩ := oS h
 refine RunC.cutN (fun τ Γ => WeakLe τ [] ∧ DeadLe Γ [] ∧ z2 = .inl ()) ?_ ?_
 ·refine RunC.block (RunC.loop (RunL.loopM (x := z2) (K2i_s1 a0) (fun (s : Int) τ Γ => WeakLe τ [(0, (sFc a0)), (3, i64 s)] ∧ DeadLe Γ []) ?_ _ _ _ hz_2 ⟨⟨aR, aR, trivial⟩, trivial⟩))
  rintro v1 τ2 Γ2 y2_ ⟨hw2, hd2⟩ h2_ ho2 hr2
  refine RunC.wl (τ' := [(0, (sFc a0)), (3, i64 v1)]) (Γ' := []) hw2 hd2 ?_
  replace h2_ : K2i_b1 a0 v1 = some y2_ := h2_
  unfold K2i_b1 at h2_
  refine yS<|yS ?_
  rcases oB h2_ with ⟨hc1, h2_⟩ | ⟨hc1, h2_⟩
  ·refine yW<|ym rfl (i64 v1)<|ym rfl (sFc a0)<|yl rfl (i64 (a0.length : Int)) (LOp.len_sl und25 rfl rfl)<|yl rfl (b true) (LOp.eqb (LOp.lss rfl rfl rfl) hc1)<|zN ?_
   refine yT<|RunC.skip<|yS<|RunC.block<|yS ?_
   obtain ⟨e2, he2, h2_⟩ := oS h2_
   obtain ⟨r3, hf3, h2_⟩ := oS h2_
   rcases oB h2_ with ⟨hc4, h2_⟩ | ⟨hc4, h2_⟩
   ·refine yW<|ym rfl (sFc a0)<|ym rfl (i64 v1)<|yl rfl (ptr [f32 e2]) (LOp.le (LOp.ix (f := f32) und25 siz30 rfl rfl rfl rfl he2) ALe.ptr)<|yl rfl (f32 e2) (y2 agg30)<|yd rfl (b true) (TOp.eqb (yc ent104 rfl rfl bN0 (K2h_ok e2 r3 hf3)) hc4)<|yl rfl (b false) y1<|zN ?_
    refine yF<|RunC.skip ?_
    obtain ⟨x4, hx5, h2_⟩ := oL h2_
    refine yW<|ym rfl (i64 v1)<|yl rfl (i64 x4) (LOp.eqr (LOp.add rfl rfl rfl) (congrArg (ik .i64) hx5))<|ya rfl (i64 x4)<|zN ?_
    cases oI h2_
    exact ⟨_, rfl, ⟨aR, aR, trivial⟩, trivial⟩
   ·refine yW<|ym rfl (sFc a0)<|ym rfl (i64 v1)<|yl rfl (ptr [f32 e2]) (LOp.le (LOp.ix (f := f32) und25 siz30 rfl rfl rfl rfl he2) ALe.ptr)<|yl rfl (f32 e2) (y2 agg30)<|yd rfl (b false) (TOp.eqb (yc ent104 rfl rfl bN0 (K2h_ok e2 r3 hf3)) hc4)<|yl rfl (b true) y0<|zN ?_
    refine yT<|zQ<|ya rfl (b false)<|zN ?_
    refine RunC.ret ?_
    cases oI h2_
    have hx3_ := hr2 _ rfl
    subst hx3_
    have hq := oI h
    subst q0
    exact bR rfl
  ·refine yW<|ym rfl (i64 v1)<|ym rfl (sFc a0)<|yl rfl (i64 (a0.length : Int)) (LOp.len_sl und25 rfl rfl)<|yl rfl (b false) (LOp.eqb (LOp.lss rfl rfl rfl) hc1)<|zN ?_
   refine yF<|RunC.exit ?_
   cases oI h2_
   have hx := ho2 _ rfl
   exact ⟨trivial, trivial, hx⟩
 ·rintro τ4 Γ4 ⟨hw4, hd4, rfl⟩
  refine RunC.wl hw4 hd4 ?_
  replace h : K2i_k1 = some q0 := h
  unfold K2i_k1 at h
  refine zQ<|ya rfl (b true)<|zN ?_
  refine RunC.ret ?_
  have hq := oI h
  subst q0
  exact bR rfl
def K2j (a0 : Int) (a1 : Int) (a2 : List F) : Option (Bool) :=
 obind (K2g a0 a1) fun (r1 : Bool) =>
 bsel r1 (
  olet (IntKind.i64.wrap (a0 * a1)) fun (x2 : Int) =>
  bsel (decide ((a2.length : Int) = x2)) (
   obind (K2i a2) fun (r3 : Bool) =>
   some r3) (
   some false)) (
  some false)
theorem K2j_ok (a0 : Int) (a1 : Int) (a2 : List F) (q0 : Bool) (h : K2j a0 a1 a2 = some q0) : Ev Tryz.prog 54 [ptr (mXc a0 a1 a2)] [] (b q0) [] := by
 refine yE Tryz.func54 0 73 0 [(0, ptr (mXc a0 a1 a2))] [] rfl ?_
 unfold K2j at h
 refine zQ<|ya rfl (b false)<|zN ?_
 refine yS ?_
 obtain ⟨r1, hf1, h⟩ := oS h
 rcases oB h with ⟨hc2, h⟩ | ⟨hc2, h⟩
 ·obtain ⟨x2, hx3, h⟩ := oL h
  rcases oB h with ⟨hc4, h⟩ | ⟨hc4, h⟩
  ·obtain ⟨r3, hf5, h⟩ := oS h
   refine RunC.region_draw (Γ' := []) 34 mixed 
    (tm rfl (ptr (mXc a0 a1 a2)) <|
    (tl rfl (ptr (mXc a0 a1 a2)) y4 <|
    (tl rfl (ptr (mXc a0 a1 a2)) (LOp.fap und27 rfl siz2 rfl rfl rfl) <|
    (tl rfl (i64 a0) (y2 agg2) <|
    (tm rfl (ptr (mXc a0 a1 a2)) <|
    (tl rfl (ptr (mXc a0 a1 a2)) y4 <|
    (tl rfl (ptr [i64 a1, (sFc a2)]) (LOp.fap und27 rfl siz2 rfl rfl rfl) <|
    (tl rfl (i64 a1) (y2 agg2) <|
    (TR.d (r := b true) (fs := []) rfl rfl (TOp.eqb (yc ent86 rfl rfl (bP bN0) (K2g_ok a0 a1 r1 hf1)) hc2) <|
    (tm rfl (b true) <|
    (tm rfl (ptr (mXc a0 a1 a2)) <|
    (tl rfl (ptr (mXc a0 a1 a2)) y4 <|
    (tl rfl (ptr [(sFc a2)]) (LOp.fap und27 rfl siz25 rfl rfl rfl) <|
    (tl rfl (sFc a2) (y2 agg25) <|
    (tl rfl (i64 (a2.length : Int)) (LOp.len_sl und25 rfl rfl) <|
    (tm rfl (ptr (mXc a0 a1 a2)) <|
    (tl rfl (ptr (mXc a0 a1 a2)) y4 <|
    (tl rfl (ptr (mXc a0 a1 a2)) (LOp.fap und27 rfl siz2 rfl rfl rfl) <|
    (tl rfl (i64 a0) (y2 agg2) <|
    (tm rfl (ptr (mXc a0 a1 a2)) <|
    (tl rfl (ptr (mXc a0 a1 a2)) y4 <|
    (tl rfl (ptr [i64 a1, (sFc a2)]) (LOp.fap und27 rfl siz2 rfl rfl rfl) <|
    (tl rfl (i64 a1) (y2 agg2) <|
    (tl rfl (i64 x2) (LOp.eqr (LOp.mul rfl rfl rfl) (congrArg (ik .i64) hx3)) <|
    (tl rfl (b true) (LOp.eqb (LOp.eql rfl rfl rfl) hc4) <|
    (tl rfl (b true) yq <|
    (tm rfl (b true) <|
    (tm rfl (ptr (mXc a0 a1 a2)) <|
    (tl rfl (ptr (mXc a0 a1 a2)) y4 <|
    (tl rfl (ptr [(sFc a2)]) (LOp.fap und27 rfl siz25 rfl rfl rfl) <|
    (tl rfl (sFc a2) (y2 agg25) <|
    (TR.d (r := b r3) (fs := []) rfl rfl (yc ent87 rfl rfl (bS bN) (K2i_ok a2 r3 hf5)) <|
    (tl rfl (b r3) yq <|
    (tl rfl (b r3) (LOp.assign rfl rfl) <|
    TR.nil)))))))))))))))))))))))))))))))))) rfl (by kernel_rfl) rfl fills_nil rfl ?_
   iterate 34 refine ROps.dropS ?_
   refine ROps.drop0<|zN ?_
   refine RunC.ret ?_
   have hq := oI h
   subst q0
   exact bR rfl
  ·refine RunC.region_draw (Γ' := []) 34 mixed 
    (tm rfl (ptr (mXc a0 a1 a2)) <|
    (tl rfl (ptr (mXc a0 a1 a2)) y4 <|
    (tl rfl (ptr (mXc a0 a1 a2)) (LOp.fap und27 rfl siz2 rfl rfl rfl) <|
    (tl rfl (i64 a0) (y2 agg2) <|
    (tm rfl (ptr (mXc a0 a1 a2)) <|
    (tl rfl (ptr (mXc a0 a1 a2)) y4 <|
    (tl rfl (ptr [i64 a1, (sFc a2)]) (LOp.fap und27 rfl siz2 rfl rfl rfl) <|
    (tl rfl (i64 a1) (y2 agg2) <|
    (TR.d (r := b true) (fs := []) rfl rfl (TOp.eqb (yc ent86 rfl rfl (bP bN0) (K2g_ok a0 a1 r1 hf1)) hc2) <|
    (tm rfl (b true) <|
    (tm rfl (ptr (mXc a0 a1 a2)) <|
    (tl rfl (ptr (mXc a0 a1 a2)) y4 <|
    (tl rfl (ptr [(sFc a2)]) (LOp.fap und27 rfl siz25 rfl rfl rfl) <|
    (tl rfl (sFc a2) (y2 agg25) <|
    (tl rfl (i64 (a2.length : Int)) (LOp.len_sl und25 rfl rfl) <|
    (tm rfl (ptr (mXc a0 a1 a2)) <|
    (tl rfl (ptr (mXc a0 a1 a2)) y4 <|
    (tl rfl (ptr (mXc a0 a1 a2)) (LOp.fap und27 rfl siz2 rfl rfl rfl) <|
    (tl rfl (i64 a0) (y2 agg2) <|
    (tm rfl (ptr (mXc a0 a1 a2)) <|
    (tl rfl (ptr (mXc a0 a1 a2)) y4 <|
    (tl rfl (ptr [i64 a1, (sFc a2)]) (LOp.fap und27 rfl siz2 rfl rfl rfl) <|
    (tl rfl (i64 a1) (y2 agg2) <|
    (tl rfl (i64 x2) (LOp.eqr (LOp.mul rfl rfl rfl) (congrArg (ik .i64) hx3)) <|
    (tl rfl (b false) (LOp.eqb (LOp.eql rfl rfl rfl) hc4) <|
    (tl rfl (b false) yq <|
    (tm rfl (b false) <|
    (ts rfl <|
    (ts rfl <|
    (ts rfl <|
    (ts rfl <|
    (ts rfl <|
    (tl rfl (b false) yp <|
    (tl rfl (b false) (LOp.assign rfl rfl) <|
    TR.nil)))))))))))))))))))))))))))))))))) rfl (by kernel_rfl) rfl fills_nil rfl ?_
   iterate 34 refine ROps.dropS ?_
   refine ROps.drop0<|zN ?_
   refine RunC.ret ?_
   have hq := oI h
   subst q0
   exact bR rfl
 ·refine RunC.region_draw (Γ' := []) 34 mixed 
   (tm rfl (ptr (mXc a0 a1 a2)) <|
   (tl rfl (ptr (mXc a0 a1 a2)) y4 <|
   (tl rfl (ptr (mXc a0 a1 a2)) (LOp.fap und27 rfl siz2 rfl rfl rfl) <|
   (tl rfl (i64 a0) (y2 agg2) <|
   (tm rfl (ptr (mXc a0 a1 a2)) <|
   (tl rfl (ptr (mXc a0 a1 a2)) y4 <|
   (tl rfl (ptr [i64 a1, (sFc a2)]) (LOp.fap und27 rfl siz2 rfl rfl rfl) <|
   (tl rfl (i64 a1) (y2 agg2) <|
   (TR.d (r := b false) (fs := []) rfl rfl (TOp.eqb (yc ent86 rfl rfl (bP bN0) (K2g_ok a0 a1 r1 hf1)) hc2) <|
   (tm rfl (b false) <|
   (ts rfl <|
   (ts rfl <|
   (ts rfl <|
   (ts rfl <|
   (ts rfl <|
   (ts rfl <|
   (ts rfl <|
   (ts rfl <|
   (ts rfl <|
   (ts rfl <|
   (ts rfl <|
   (ts rfl <|
   (ts rfl <|
   (ts rfl <|
   (ts rfl <|
   (tl rfl (b false) yp <|
   (tm rfl (b false) <|
   (ts rfl <|
   (ts rfl <|
   (ts rfl <|
   (ts rfl <|
   (ts rfl <|
   (tl rfl (b false) yp <|
   (tl rfl (b false) (LOp.assign rfl rfl) <|
   TR.nil)))))))))))))))))))))))))))))))))) rfl (by kernel_rfl) rfl fills_nil rfl ?_
  iterate 34 refine ROps.dropS ?_
  refine ROps.drop0<|zN ?_
  refine RunC.ret ?_
  have hq := oI h
  subst q0
  exact bR rfl
def K2k (a0 : Int) (a1 : Int) (a2 : List F) : Option (Bool) :=
 obind (K2j a0 a1 a2) fun (r1 : Bool) =>
 bsel r1 (
  some (decide (a0 = a1))) (
  some false)
theorem K2k_ok (a0 : Int) (a1 : Int) (a2 : List F) (q0 : Bool) (h : K2k a0 a1 a2 = some q0) : Ev Tryz.prog 83 [ptr (mXc a0 a1 a2)] [] (b q0) [] := by
 refine yE Tryz.func83 0 33 0 [(0, ptr (mXc a0 a1 a2))] [] rfl ?_
 unfold K2k at h
 refine zQ<|ya rfl (b false)<|zN ?_
 refine yS ?_
 obtain ⟨r1, hf1, h⟩ := oS h
 rcases oB h with ⟨hc2, h⟩ | ⟨hc2, h⟩
 ·refine RunC.region_draw (Γ' := []) 14 mixed 
   (tm rfl (ptr (mXc a0 a1 a2)) <|
   (TR.d (r := b true) (fs := []) rfl rfl (TOp.eqb (TOp.callB (CallAs.func ent54 rfl rfl) (Bors.cons (Bor.ptr (bP (bP (bS bN)))) bN) rfl rfl (K2j_ok a0 a1 a2 r1 hf1)) hc2) <|
   (tm rfl (b true) <|
   (tm rfl (ptr (mXc a0 a1 a2)) <|
   (tl rfl (ptr (mXc a0 a1 a2)) y4 <|
   (tl rfl (ptr (mXc a0 a1 a2)) (LOp.fap und27 rfl siz2 rfl rfl rfl) <|
   (tl rfl (i64 a0) (y2 agg2) <|
   (tm rfl (ptr (mXc a0 a1 a2)) <|
   (tl rfl (ptr (mXc a0 a1 a2)) y4 <|
   (tl rfl (ptr [i64 a1, (sFc a2)]) (LOp.fap und27 rfl siz2 rfl rfl rfl) <|
   (tl rfl (i64 a1) (y2 agg2) <|
   (tl rfl (b (decide (a0 = a1))) (LOp.eql rfl rfl rfl) <|
   (tl rfl (b (decide (a0 = a1))) yq <|
   (tl rfl (b (decide (a0 = a1))) (LOp.assign rfl rfl) <|
   TR.nil)))))))))))))) rfl (by kernel_rfl) rfl fills_nil rfl ?_
  iterate 14 refine ROps.dropS ?_
  refine ROps.drop0<|zN ?_
  refine RunC.ret ?_
  have hq := oI h
  subst q0
  exact bR rfl
 ·refine RunC.region_draw (Γ' := []) 14 mixed 
   (tm rfl (ptr (mXc a0 a1 a2)) <|
   (TR.d (r := b false) (fs := []) rfl rfl (TOp.eqb (TOp.callB (CallAs.func ent54 rfl rfl) (Bors.cons (Bor.ptr (bP (bP (bS bN)))) bN) rfl rfl (K2j_ok a0 a1 a2 r1 hf1)) hc2) <|
   (tm rfl (b false) <|
   (ts rfl <|
   (ts rfl <|
   (ts rfl <|
   (ts rfl <|
   (ts rfl <|
   (ts rfl <|
   (ts rfl <|
   (ts rfl <|
   (ts rfl <|
   (tl rfl (b false) yp <|
   (tl rfl (b false) (LOp.assign rfl rfl) <|
   TR.nil)))))))))))))) rfl (by kernel_rfl) rfl fills_nil rfl ?_
  iterate 14 refine ROps.dropS ?_
  refine ROps.drop0<|zN ?_
  refine RunC.ret ?_
  have hq := oI h
  subst q0
  exact bR rfl
def K2l (a0 : Int) (a1 : Int) (a2 : List F) (a3 : Int) (a4 : Int) : Option (F) :=
 olet (IntKind.i64.wrap (a3 * a1)) fun (x1 : Int) =>
 olet (IntKind.i64.wrap (x1 + a4)) fun (x2 : Int) =>
 obind (at? a2 x2) fun (e3 : F) =>
 some e3
theorem K2l_ok (a0 : Int) (a1 : Int) (a2 : List F) (a3 : Int) (a4 : Int) (q0 : F) (h : K2l a0 a1 a2 a3 a4 = some q0) : Ev Tryz.prog 84 [ptr (mXc a0 a1 a2), i64 a3, i64 a4] [] (f32 q0) [] := by
 refine yE Tryz.func84 0 43 0 [(0, ptr (mXc a0 a1 a2)), (1, i64 a3), (2, i64 a4)] [] rfl ?_
 unfold K2l at h
 refine zQ<|yl rfl (f32 (some 0)) (LOp.le (LOp.assign rfl rfl) (ALe.fl (by kernel_rfl) (by kernel_rfl)))<|zN ?_
 refine yS ?_
 obtain ⟨x1, hx1, h⟩ := oL h
 obtain ⟨x2, hx2, h⟩ := oL h
 obtain ⟨e3, he3, h⟩ := oS h
 refine RunC.region_draw (Γ' := []) 15 mixed 
  (tm rfl (ptr (mXc a0 a1 a2)) <|
  (tl rfl (ptr (mXc a0 a1 a2)) y4 <|
  (tl rfl (ptr [(sFc a2)]) (LOp.fap und27 rfl siz25 rfl rfl rfl) <|
  (tl rfl (sFc a2) (y2 agg25) <|
  (tm rfl (i64 a3) <|
  (tm rfl (ptr (mXc a0 a1 a2)) <|
  (tl rfl (ptr (mXc a0 a1 a2)) y4 <|
  (tl rfl (ptr [i64 a1, (sFc a2)]) (LOp.fap und27 rfl siz2 rfl rfl rfl) <|
  (tl rfl (i64 a1) (y2 agg2) <|
  (tl rfl (i64 x1) (LOp.eqr (LOp.mul rfl rfl rfl) (congrArg (ik .i64) hx1)) <|
  (tm rfl (i64 a4) <|
  (tl rfl (i64 x2) (LOp.eqr (LOp.add rfl rfl rfl) (congrArg (ik .i64) hx2)) <|
  (tl rfl (ptr [f32 e3]) (LOp.le (LOp.ix (f := f32) und25 siz30 rfl rfl rfl rfl he3) ALe.ptr) <|
  (tl rfl (f32 e3) (y2 agg30) <|
  (tl rfl (f32 e3) (LOp.assign rfl rfl) <|
  TR.nil))))))))))))))) rfl (by kernel_rfl) rfl fills_nil rfl ?_
 iterate 15 refine ROps.dropS ?_
 refine ROps.drop0<|zN ?_
 refine RunC.ret ?_
 have hq := oI h
 subst q0
 exact bR rfl
end
end Go.Proofs.YtcifbefhglffhaaGreat
