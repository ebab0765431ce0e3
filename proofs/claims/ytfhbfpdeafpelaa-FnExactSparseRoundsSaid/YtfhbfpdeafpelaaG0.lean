/- Generated. -/
import Derived.Test.YtfhbfpdeafpelaaTys
namespace Go.Proofs.Ytfhbfpdeafpelaa
open Go Go.AM Go.AM.AV
set_option maxRecDepth 20000
set_option maxHeartbeats 4000000
set_option linter.unusedVariables false
set_option linter.unusedSimpArgs false
noncomputable section
def K00 (a0 : List Int) (a1 : Int) : Option (Int) :=
 olet (IntKind.i64.wrap (a1 - (a0.length : Int))) fun (x1 : Int) =>
 bsel (decide (x1 < 0)) (
  some (-1)) (
  some x1)
theorem K00_ok (a0 : List Int) (a1 : Int) (q0 : Int) (h : K00 a0 a1 = some q0) : Ev Try.prog 69 [sl a0.length (a0.map i64), i64 a1] [] (i64 q0) [] := by
 refine yE Try.func69 0 25 0 [(0, sl a0.length (a0.map i64)), (1, i64 a1)] [] rfl ?_
 unfold K00 at h
 refine zQ<|ya rfl (i64 0)<|zN ?_
 refine yS ?_
 obtain ⟨x1, hx1, h⟩ := oL h
 refine yW<|ym rfl (i64 a1)<|ym rfl (sl a0.length (a0.map i64))<|yl rfl (i64 (a0.length : Int)) (LOp.len_sl und22 rfl rfl)<|yl rfl (i64 x1) (LOp.eqr (LOp.sub rfl rfl rfl) (congrArg (ik .i64) hx1))<|ya rfl (i64 x1)<|zN ?_
 refine yS<|yS ?_
 rcases oB h with ⟨hc2, h⟩ | ⟨hc2, h⟩
 ·refine yW<|ym rfl (i64 x1)<|yl rfl (b true) (LOp.eqb (LOp.lss rfl rfl rfl) hc2)<|zN ?_
  refine yT<|zQ<|ya rfl (i64 (-1))<|zN ?_
  refine RunC.ret ?_
  have hq := oI h
  subst q0
  exact bR rfl
 ·refine yW<|ym rfl (i64 x1)<|yl rfl (b false) (LOp.eqb (LOp.lss rfl rfl rfl) hc2)<|zN ?_
  refine yF<|RunC.skip<|zQ<|ym rfl (i64 x1)<|ya rfl (i64 x1)<|zN ?_
  refine RunC.ret ?_
  have hq := oI h
  subst q0
  exact bR rfl
def K01 (a0 : List F) (a1 : Int) : Option (Int) :=
 olet (IntKind.i64.wrap (a1 - (a0.length : Int))) fun (x1 : Int) =>
 bsel (decide (x1 < 0)) (
  some (-1)) (
  some x1)
theorem K01_ok (a0 : List F) (a1 : Int) (q0 : Int) (h : K01 a0 a1 = some q0) : Ev Try.prog 70 [(sFc a0), i64 a1] [] (i64 q0) [] := by
 refine yE Try.func70 0 25 0 [(0, (sFc a0)), (1, i64 a1)] [] rfl ?_
 unfold K01 at h
 refine zQ<|ya rfl (i64 0)<|zN ?_
 refine yS ?_
 obtain ⟨x1, hx1, h⟩ := oL h
 refine yW<|ym rfl (i64 a1)<|ym rfl (sFc a0)<|yl rfl (i64 (a0.length : Int)) (LOp.len_sl und23 rfl rfl)<|yl rfl (i64 x1) (LOp.eqr (LOp.sub rfl rfl rfl) (congrArg (ik .i64) hx1))<|ya rfl (i64 x1)<|zN ?_
 refine yS<|yS ?_
 rcases oB h with ⟨hc2, h⟩ | ⟨hc2, h⟩
 ·refine yW<|ym rfl (i64 x1)<|yl rfl (b true) (LOp.eqb (LOp.lss rfl rfl rfl) hc2)<|zN ?_
  refine yT<|zQ<|ya rfl (i64 (-1))<|zN ?_
  refine RunC.ret ?_
  have hq := oI h
  subst q0
  exact bR rfl
 ·refine yW<|ym rfl (i64 x1)<|yl rfl (b false) (LOp.eqb (LOp.lss rfl rfl rfl) hc2)<|zN ?_
  refine yF<|RunC.skip<|zQ<|ym rfl (i64 x1)<|ya rfl (i64 x1)<|zN ?_
  refine RunC.ret ?_
  have hq := oI h
  subst q0
  exact bR rfl
def K02 (a0 : Int) (a1 : List Int) (a2 : List Int) (a3 : List F) (a4 : Int) : Option (Int) :=
 obind (K00 a1 a4) fun (r1 : Int) =>
 bsel (decide (r1 < 0)) (
  some (-1)) (
  obind (K00 a2 r1) fun (r2 : Int) =>
  bsel (decide (r2 < 0)) (
   some (-1)) (
   obind (K01 a3 r2) fun (r3 : Int) =>
   bsel (decide (r3 < 0)) (
    some (-1)) (
    some r3)))
theorem K02_ok (a0 : Int) (a1 : List Int) (a2 : List Int) (a3 : List F) (a4 : Int) (q0 : Int) (h : K02 a0 a1 a2 a3 a4 = some q0) : Ev Try.prog 8 [agg [i64 a0, sl a1.length (a1.map i64), sl a2.length (a2.map i64), (sFc a3)], i64 a4] [] (i64 q0) [] := by
 refine yE Try.func8 0 49 0 ([(0, agg [i64 a0, sl a1.length (a1.map i64), sl a2.length (a2.map i64), (sFc a3)]), (1, i64 a4)]) [] rfl ?_
 unfold K02 at h
 refine zQ<|yd rfl (ptr [i64 a0, sl a1.length (a1.map i64), sl a2.length (a2.map i64), (sFc a3)]) (TOp.box_s rfl rfl rfl)<|ya rfl (i64 0)<|zN ?_
 refine yS ?_
 obtain ⟨r1, hf1, h⟩ := oS h
 refine yW<|yl rfl (ptr [sl a1.length (a1.map i64), sl a2.length (a2.map i64), (sFc a3)]) (LOp.fap und25 rfl siz22 rfl rfl rfl)<|yl rfl (sl a1.length (a1.map i64)) (n2 agg22)<|ym rfl (i64 a4)<|yd rfl (i64 r1) (yc ent69 rfl rfl (bS bN0) (K00_ok a1 a4 r1 hf1))<|ya rfl (i64 r1)<|zN ?_
 refine yS<|yS ?_
 rcases oB h with ⟨hc2, h⟩ | ⟨hc2, h⟩
 ·refine yW<|ym rfl (i64 r1)<|yl rfl (b true) (LOp.eqb (LOp.lss rfl rfl rfl) hc2)<|zN ?_
  refine yT<|zQ<|ya rfl (i64 (-1))<|zN ?_
  refine RunC.ret ?_
  have hq := oI h
  subst q0
  exact bR rfl
 ·refine yW<|ym rfl (i64 r1)<|yl rfl (b false) (LOp.eqb (LOp.lss rfl rfl rfl) hc2)<|zN ?_
  refine yF<|RunC.skip<|yS ?_
  obtain ⟨r2, hf3, h⟩ := oS h
  refine yW<|yl rfl (ptr [sl a2.length (a2.map i64), (sFc a3)]) (LOp.fap und25 rfl siz22 rfl rfl rfl)<|yl rfl (sl a2.length (a2.map i64)) (n2 agg22)<|ym rfl (i64 r1)<|yd rfl (i64 r2) (yc ent69 rfl rfl (bS bN0) (K00_ok a2 r1 r2 hf3))<|ya rfl (i64 r2)<|zN ?_
  refine yS<|yS ?_
  rcases oB h with ⟨hc4, h⟩ | ⟨hc4, h⟩
  ·refine yW<|ym rfl (i64 r2)<|yl rfl (b true) (LOp.eqb (LOp.lss rfl rfl rfl) hc4)<|zN ?_
   refine RunC.wl (τ' := [(1, i64 r2), (2, ptr [i64 a0, sl a1.length (a1.map i64), sl a2.length (a2.map i64), (sFc a3)]), (16, b true)]) (Γ' := []) ⟨aR, aR, aR, trivial⟩ trivial<|yT<|zQ<|ya rfl (i64 (-1))<|zN ?_
   refine RunC.ret ?_
   have hq := oI h
   subst q0
   exact bR rfl
  ·refine yW<|ym rfl (i64 r2)<|yl rfl (b false) (LOp.eqb (LOp.lss rfl rfl rfl) hc4)<|zN ?_
   refine RunC.wl (τ' := [(1, i64 r2), (2, ptr [i64 a0, sl a1.length (a1.map i64), sl a2.length (a2.map i64), (sFc a3)]), (16, b false)]) (Γ' := []) ⟨aR, aR, aR, trivial⟩ trivial<|yF<|RunC.skip<|yS ?_
   obtain ⟨r3, hf5, h⟩ := oS h
   refine yW<|yl rfl (ptr [(sFc a3)]) (LOp.fap und25 rfl siz23 rfl rfl rfl)<|yl rfl (sFc a3) (n2 agg23)<|ym rfl (i64 r2)<|yd rfl (i64 r3) (yc ent70 rfl rfl (bS bN0) (K01_ok a3 r2 r3 hf5))<|ya rfl (i64 r3)<|zN ?_
   refine yS<|yS ?_
   rcases oB h with ⟨hc6, h⟩ | ⟨hc6, h⟩
   ·refine yW<|ym rfl (i64 r3)<|yl rfl (b true) (LOp.eqb (LOp.lss rfl rfl rfl) hc6)<|zN ?_
    refine yT<|zQ<|ya rfl (i64 (-1))<|zN ?_
    refine RunC.ret ?_
    have hq := oI h
    subst q0
    exact bR rfl
   ·refine yW<|ym rfl (i64 r3)<|yl rfl (b false) (LOp.eqb (LOp.lss rfl rfl rfl) hc6)<|zN ?_
    refine yF<|RunC.skip<|zQ<|ym rfl (i64 r3)<|ya rfl (i64 r3)<|zN ?_
    refine RunC.ret ?_
    have hq := oI h
    subst q0
    exact bR rfl
def K03_b1 (a0 : List Int) (L1 : List Int) (v3 : Int) : Option (LR ((List Int) × Int) ((List Int)) ((List Int))) :=
 bsel (decide (v3 < (a0.length : Int))) (
  obind (at? a0 v3) fun (e4 : Int) =>
  obind (setAt? L1 v3 e4) fun (L5 : List Int) =>
  olet (IntKind.i64.wrap (v3 + 1)) fun (x6 : Int) =>
  some (LR.next (L5, x6))) (
  some (LR.out L1))
def K03_s1 (a0 : List Int) : ((List Int) × Int) → Option (LR ((List Int) × Int) ((List Int)) ((List Int))) := fun s => K03_b1 a0 s.1 s.2
def K03_k1 (L7 : List Int) : Option ((List Int)) :=
 some L7
def K03 (a0 : List Int) : Option ((List Int)) :=
 need (mkok 8 (a0.length : Int)) <|
 obind (loopM (K03_s1 a0) ((List.replicate (a0.length : Int).toNat 0), 0)) fun z => osum z (fun e => K03_k1 e) (fun r => some r)
theorem K03_ok (a0 : List Int) (q0 : List Int) (h : K03 a0 = some q0) : Ev Try.prog 79 [sl a0.length (a0.map i64)] [] (oref 0 0 0 q0.length) [oJ 0 q0] := by
 refine yE Try.func79 1 45 0 [(0, sl a0.length (a0.map i64))] [o0] rfl ?_
 unfold K03 at h
 refine zQ<|ya rfl nilsl<|zN ?_
 refine yS ?_
 obtain ⟨hm1, h⟩ := need_some h
 refine yW<|ym rfl (sl a0.length (a0.map i64))<|yl rfl (i64 (a0.length : Int)) (LOp.len_sl und22 rfl rfl)<|ye rfl (oref 0 1 0 ((a0.length : Int).toNat)) [⟨1, some ((List.replicate (a0.length : Int).toNat 0).map i64)⟩] (TOp.mkS (g := o0) (t := 22) (e := 2) (by_ := 8) (f := i64) (zv := 0) 0 rfl und22 tin2 rfl siz2 zer2 rfl zel2 rfl rfl rfl hm1)<|ya rfl (oref 0 1 0 ((a0.length : Int).toNat))<|zN ?_
 refine yS<|zQ<|ya rfl (i64 0)<|zN ?_
 obtain ⟨z2, hz_2, h⟩ := oS h
 refine RunC.cutN (fun τ Γ => ∃ (L7 : List Int), L7.length = (a0.length : Int).toNat ∧ WeakLe τ [(3, oref 0 1 0 ((a0.length : Int).toNat))] ∧ DeadLe Γ [oJ 1 L7] ∧ z2 = .inl L7) ?_ ?_
 ·refine RunC.block (RunC.loop (RunL.loopM (x := z2) (K03_s1 a0) (fun (s : (List Int) × Int) τ Γ => s.1.length = (a0.length : Int).toNat ∧ WeakLe τ [(0, sl a0.length (a0.map i64)), (3, oref 0 1 0 ((a0.length : Int).toNat)), (4, i64 s.2)] ∧ DeadLe Γ [⟨1, some (s.1.map i64)⟩]) ?_ _ _ _ hz_2 ⟨List.length_replicate, ⟨aR, aR, aR, trivial⟩, ⟨⟨rfl, .inr rfl⟩, trivial⟩⟩))
  rintro ⟨L1, v3⟩ τ2 Γ2 y2_ ⟨hl2, hw2, hd2⟩ h2_ ho2 hr2
  refine RunC.wl (τ' := [(0, sl a0.length (a0.map i64)), (3, oref 0 1 0 ((a0.length : Int).toNat)), (4, i64 v3)]) (Γ' := [oJ 1 L1]) hw2 hd2 ?_
  replace hl2 : L1.length = (a0.length : Int).toNat := hl2
  replace h2_ : K03_b1 a0 L1 v3 = some y2_ := h2_
  unfold K03_b1 at h2_
  refine yS<|yS ?_
  rcases oB h2_ with ⟨hc2, h2_⟩ | ⟨hc2, h2_⟩
  ·refine yW<|ym rfl (i64 v3)<|ym rfl (sl a0.length (a0.map i64))<|yl rfl (i64 (a0.length : Int)) (LOp.len_sl und22 rfl rfl)<|yl rfl (b true) (LOp.eqb (LOp.lss rfl rfl rfl) hc2)<|zN ?_
   refine yT<|RunC.skip<|yS<|RunC.block ?_
   obtain ⟨e4, he3, h2_⟩ := oS h2_
   obtain ⟨L5, he4, h2_⟩ := oS h2_
   refine yW<|ym rfl (oref 0 1 0 ((a0.length : Int).toNat))<|ym rfl (i64 v3)<|ym rfl (sl a0.length (a0.map i64))<|ym rfl (i64 v3)<|yl rfl (ptr [i64 e4]) (LOp.le (LOp.ix (f := i64) und22 siz2 rfl rfl rfl rfl he3) ALe.ptr)<|yl rfl (i64 e4) (n2 agg2)<|yd rfl (optr 0 1 v3.toNat) (TOp.ixo und22 siz2 rfl rfl rfl (set_in he4 hl2) rfl)<|ROps.st (f := i64) (i := v3) (Γ' := [oJ 1 L5]) rfl siz2 rfl rfl rfl aR rfl rfl rfl he4 rfl<|zN ?_
   obtain ⟨x6, hx5, h2_⟩ := oL h2_
   refine yW<|ym rfl (i64 v3)<|yl rfl (i64 x6) (LOp.eqr (LOp.add rfl rfl rfl) (congrArg (ik .i64) hx5))<|ya rfl (i64 x6)<|zN ?_
   cases oI h2_
   exact ⟨_, rfl, ((setAt?_len he4).trans hl2), ⟨aR, aR, aR, trivial⟩, ⟨⟨rfl, .inr rfl⟩, trivial⟩⟩
  ·refine yW<|ym rfl (i64 v3)<|ym rfl (sl a0.length (a0.map i64))<|yl rfl (i64 (a0.length : Int)) (LOp.len_sl und22 rfl rfl)<|yl rfl (b false) (LOp.eqb (LOp.lss rfl rfl rfl) hc2)<|zN ?_
   refine yF<|RunC.exit ?_
   cases oI h2_
   have hx := ho2 _ rfl
   exact ⟨L1, hl2, ⟨aR, trivial⟩, ⟨⟨rfl, .inr rfl⟩, trivial⟩, hx⟩
 ·rintro τ3 Γ3 ⟨L7, hl8, hw3, hd3, rfl⟩
  refine RunC.wl hw3 hd3 ?_
  replace h : K03_k1 L7 = some q0 := h
  unfold K03_k1 at h
  refine zQ<|ym rfl (oref 0 1 0 ((a0.length : Int).toNat))<|ya rfl (oref 0 1 0 ((a0.length : Int).toNat))<|zN ?_
  refine RunC.ret ?_
  have hq := oI h
  subst q0
  exact yB (oref 0 1 0 L7.length) [(0, 1)] (Res.eq (Res.one rfl (RV.tmp rfl)) (by first | rfl | (rw [(show L7.length = (a0.length : Int).toNat from hl8)] <;> rfl))) (SelL.arr0 (f := i64) (fun _ => rfl) rfl trivial)
def K04_b1 (a0 : List F) (L1 : List F) (v3 : Int) : Option (LR ((List F) × Int) ((List F)) ((List F))) :=
 bsel (decide (v3 < (a0.length : Int))) (
  obind (at? a0 v3) fun (e4 : F) =>
  obind (setAt? L1 v3 e4) fun (L5 : List F) =>
  olet (IntKind.i64.wrap (v3 + 1)) fun (x6 : Int) =>
  some (LR.next (L5, x6))) (
  some (LR.out L1))
def K04_s1 (a0 : List F) : ((List F) × Int) → Option (LR ((List F) × Int) ((List F)) ((List F))) := fun s => K04_b1 a0 s.1 s.2
def K04_k1 (L7 : List F) : Option ((List F)) :=
 some L7
def K04 (a0 : List F) : Option ((List F)) :=
 need (mkok 4 (a0.length : Int)) <|
 obind (loopM (K04_s1 a0) ((List.replicate (a0.length : Int).toNat (some 0)), 0)) fun z => osum z (fun e => K04_k1 e) (fun r => some r)
theorem K04_ok (a0 : List F) (q0 : List F) (h : K04 a0 = some q0) : Ev Try.prog 11 [(sFc a0)] [] (oref 0 0 0 q0.length) [oF 0 q0] := by
 refine yE Try.func11 1 45 0 [(0, (sFc a0))] [o0] rfl ?_
 unfold K04 at h
 refine zQ<|ya rfl nilsl<|zN ?_
 refine yS ?_
 obtain ⟨hm1, h⟩ := need_some h
 refine yW<|ym rfl (sFc a0)<|yl rfl (i64 (a0.length : Int)) (LOp.len_sl und23 rfl rfl)<|ye rfl (oref 0 1 0 ((a0.length : Int).toNat)) [⟨1, some ((List.replicate (a0.length : Int).toNat (some 0)).map f32)⟩] (TOp.mkS (g := o0) (t := 23) (e := 26) (by_ := 4) (f := f32) (zv := some 0) 0 rfl und23 tin26 rfl siz26 zer26 rfl zel26 rfl rfl rfl hm1)<|ya rfl (oref 0 1 0 ((a0.length : Int).toNat))<|zN ?_
 refine yS<|zQ<|ya rfl (i64 0)<|zN ?_
 obtain ⟨z2, hz_2, h⟩ := oS h
 refine RunC.cutN (fun τ Γ => ∃ (L7 : List F), L7.length = (a0.length : Int).toNat ∧ WeakLe τ [(3, oref 0 1 0 ((a0.length : Int).toNat))] ∧ DeadLe Γ [oF 1 L7] ∧ z2 = .inl L7) ?_ ?_
 ·refine RunC.block (RunC.loop (RunL.loopM (x := z2) (K04_s1 a0) (fun (s : (List F) × Int) τ Γ => s.1.length = (a0.length : Int).toNat ∧ WeakLe τ [(0, (sFc a0)), (3, oref 0 1 0 ((a0.length : Int).toNat)), (4, i64 s.2)] ∧ DeadLe Γ [⟨1, some (s.1.map f32)⟩]) ?_ _ _ _ hz_2 ⟨List.length_replicate, ⟨aR, aR, aR, trivial⟩, ⟨⟨rfl, .inr rfl⟩, trivial⟩⟩))
  rintro ⟨L1, v3⟩ τ2 Γ2 y2_ ⟨hl2, hw2, hd2⟩ h2_ ho2 hr2
  refine RunC.wl (τ' := [(0, (sFc a0)), (3, oref 0 1 0 ((a0.length : Int).toNat)), (4, i64 v3)]) (Γ' := [oF 1 L1]) hw2 hd2 ?_
  replace hl2 : L1.length = (a0.length : Int).toNat := hl2
  replace h2_ : K04_b1 a0 L1 v3 = some y2_ := h2_
  unfold K04_b1 at h2_
  refine yS<|yS ?_
  rcases oB h2_ with ⟨hc2, h2_⟩ | ⟨hc2, h2_⟩
  ·refine yW<|ym rfl (i64 v3)<|ym rfl (sFc a0)<|yl rfl (i64 (a0.length : Int)) (LOp.len_sl und23 rfl rfl)<|yl rfl (b true) (LOp.eqb (LOp.lss rfl rfl rfl) hc2)<|zN ?_
   refine yT<|RunC.skip<|yS<|RunC.block ?_
   obtain ⟨e4, he3, h2_⟩ := oS h2_
   obtain ⟨L5, he4, h2_⟩ := oS h2_
   refine yW<|ym rfl (oref 0 1 0 ((a0.length : Int).toNat))<|ym rfl (i64 v3)<|ym rfl (sFc a0)<|ym rfl (i64 v3)<|yl rfl (ptr [f32 e4]) (LOp.le (LOp.ix (f := f32) und23 siz26 rfl rfl rfl rfl he3) ALe.ptr)<|yl rfl (f32 e4) (n2 agg26)<|yd rfl (optr 0 1 v3.toNat) (TOp.ixo und23 siz26 rfl rfl rfl (set_in he4 hl2) rfl)<|ROps.st (f := f32) (i := v3) (Γ' := [oF 1 L5]) rfl siz26 rfl rfl rfl aR rfl rfl rfl he4 rfl<|zN ?_
   obtain ⟨x6, hx5, h2_⟩ := oL h2_
   refine yW<|ym rfl (i64 v3)<|yl rfl (i64 x6) (LOp.eqr (LOp.add rfl rfl rfl) (congrArg (ik .i64) hx5))<|ya rfl (i64 x6)<|zN ?_
   cases oI h2_
   exact ⟨_, rfl, ((setAt?_len he4).trans hl2), ⟨aR, aR, aR, trivial⟩, ⟨⟨rfl, .inr rfl⟩, trivial⟩⟩
  ·refine yW<|ym rfl (i64 v3)<|ym rfl (sFc a0)<|yl rfl (i64 (a0.length : Int)) (LOp.len_sl und23 rfl rfl)<|yl rfl (b false) (LOp.eqb (LOp.lss rfl rfl rfl) hc2)<|zN ?_
   refine yF<|RunC.exit ?_
   cases oI h2_
   have hx := ho2 _ rfl
   exact ⟨L1, hl2, ⟨aR, trivial⟩, ⟨⟨rfl, .inr rfl⟩, trivial⟩, hx⟩
 ·rintro τ3 Γ3 ⟨L7, hl8, hw3, hd3, rfl⟩
  refine RunC.wl hw3 hd3 ?_
  replace h : K04_k1 L7 = some q0 := h
  unfold K04_k1 at h
  refine zQ<|ym rfl (oref 0 1 0 ((a0.length : Int).toNat))<|ya rfl (oref 0 1 0 ((a0.length : Int).toNat))<|zN ?_
  refine RunC.ret ?_
  have hq := oI h
  subst q0
  exact yB (oref 0 1 0 L7.length) [(0, 1)] (Res.eq (Res.one rfl (RV.tmp rfl)) (by first | rfl | (rw [(show L7.length = (a0.length : Int).toNat from hl8)] <;> rfl))) (sA rfl trivial)
def K05 (a0 : Int) (a1 : List Int) (a2 : List Int) (a3 : List F) : Option (Int × (List Int) × (List Int) × (List F)) :=
 obind (K03 a1) fun (r1 : List Int) =>
 obind (K03 a2) fun (r2 : List Int) =>
 obind (K04 a3) fun (r3 : List F) =>
 some (a0, r1, r2, r3)
theorem K05_ok (a0 : Int) (a1 : List Int) (a2 : List Int) (a3 : List F) (q0 : Int) (q1 : List Int) (q2 : List Int) (q3 : List F) (h : K05 a0 a1 a2 a3 = some (q0, q1, q2, q3)) : Ev Try.prog 10 [agg [i64 a0, sl a1.length (a1.map i64), sl a2.length (a2.map i64), (sFc a3)]] [] (agg [i64 q0, oref 0 0 0 q1.length, oref 1 0 0 q2.length, oref 2 0 0 q3.length]) [oJ 0 q1, oJ 0 q2, oF 0 q3] := by
 refine yE Try.func10 5 41 0 ([(0, agg [i64 a0, sl a1.length (a1.map i64), sl a2.length (a2.map i64), (sFc a3)])]) [o0, o0, o0, o0, o0] rfl ?_
 unfold K05 at h
 refine zQ<|yd rfl (ptr [i64 a0, sl a1.length (a1.map i64), sl a2.length (a2.map i64), (sFc a3)]) (TOp.box_s rfl rfl rfl)<|ye rfl (optr 0 1 0) ([⟨1, some [i64 0, nilsl, nilsl, nilsl]⟩, o0, o0, o0, o0]) (TOp.alloc_o (g := o0) 0 rfl zer30 zok30 rfl)<|zN ?_
 refine zQ<|ye rfl (optr 1 1 0) ([⟨1, some [i64 0, nilsl, nilsl, nilsl]⟩, ⟨1, some [i64 0, nilsl, nilsl, nilsl]⟩, o0, o0, o0]) (TOp.alloc_o (g := o0) 1 rfl zer30 zok30 rfl)<|zN ?_
 refine zQ<|yl rfl (ptr [i64 a0, sl a1.length (a1.map i64), sl a2.length (a2.map i64), (sFc a3)]) (LOp.fap und25 rfl siz2 rfl rfl rfl)<|yl rfl (i64 a0) (n2 agg2)<|yl rfl (optr 1 1 0) (LOp.fao und30 rfl siz2 rfl rfl rfl)<|ys (i64 a0) [i64 a0, nilsl, nilsl, nilsl] ([⟨1, some [i64 0, nilsl, nilsl, nilsl]⟩, ⟨1, some [i64 a0, nilsl, nilsl, nilsl]⟩, o0, o0, o0]) siz2<|zN ?_
 refine yS ?_
 obtain ⟨r1, hf1, h⟩ := oS h
 refine yW<|yl rfl (ptr [sl a1.length (a1.map i64), sl a2.length (a2.map i64), (sFc a3)]) (LOp.fap und25 rfl siz22 rfl rfl rfl)<|yl rfl (sl a1.length (a1.map i64)) (n2 agg22)<|ye rfl (oref 2 1 0 r1.length) ([⟨1, some [i64 0, nilsl, nilsl, nilsl]⟩, ⟨1, some [i64 a0, nilsl, nilsl, nilsl]⟩, oJ 1 r1, o0, o0]) (TOp.callBN (ls := [(r1.map i64)]) [2] (CallAs.func ent79 rfl rfl) (bS bN) rfl (K03_ok a1 r1 hf1) (and_all (lts0_map (f := i64) (fun _ => rfl) _) rfl) (and_all (noss_map (f := i64) (fun _ => rfl) _) rfl) rfl (by decide) (ns_of ⟨⟨_, rfl⟩, trivial⟩))<|yl rfl (optr 1 1 1) (LOp.fao und30 rfl siz22 rfl rfl rfl)<|ys (oref 2 1 0 r1.length) [i64 a0, oref 2 1 0 r1.length, nilsl, nilsl] ([⟨1, some [i64 0, nilsl, nilsl, nilsl]⟩, ⟨1, some [i64 a0, oref 2 1 0 r1.length, nilsl, nilsl]⟩, oJ 1 r1, o0, o0]) siz22<|zN ?_
 refine yS ?_
 obtain ⟨r2, hf2, h⟩ := oS h
 refine yW<|yl rfl (ptr [sl a2.length (a2.map i64), (sFc a3)]) (LOp.fap und25 rfl siz22 rfl rfl rfl)<|yl rfl (sl a2.length (a2.map i64)) (n2 agg22)<|ye rfl (oref 3 1 0 r2.length) ([⟨1, some [i64 0, nilsl, nilsl, nilsl]⟩, ⟨1, some [i64 a0, oref 2 1 0 r1.length, nilsl, nilsl]⟩, oJ 1 r1, oJ 1 r2, o0]) (TOp.callBN (ls := [(r2.map i64)]) [3] (CallAs.func ent79 rfl rfl) (bS bN) rfl (K03_ok a2 r2 hf2) (and_all (lts0_map (f := i64) (fun _ => rfl) _) rfl) (and_all (noss_map (f := i64) (fun _ => rfl) _) rfl) rfl (by decide) (ns_of ⟨⟨_, rfl⟩, trivial⟩))<|yl rfl (optr 1 1 2) (LOp.fao und30 rfl siz22 rfl rfl rfl)<|ys (oref 3 1 0 r2.length) [i64 a0, oref 2 1 0 r1.length, oref 3 1 0 r2.length, nilsl] ([⟨1, some [i64 0, nilsl, nilsl, nilsl]⟩, ⟨1, some [i64 a0, oref 2 1 0 r1.length, oref 3 1 0 r2.length, nilsl]⟩, oJ 1 r1, oJ 1 r2, o0]) siz22<|zN ?_
 refine yS ?_
 obtain ⟨r3, hf3, h⟩ := oS h
 refine yW<|yl rfl (ptr [(sFc a3)]) (LOp.fap und25 rfl siz23 rfl rfl rfl)<|yl rfl (sFc a3) (n2 agg23)<|ye rfl (oref 4 1 0 r3.length) ([⟨1, some [i64 0, nilsl, nilsl, nilsl]⟩, ⟨1, some [i64 a0, oref 2 1 0 r1.length, oref 3 1 0 r2.length, nilsl]⟩, oJ 1 r1, oJ 1 r2, oF 1 r3]) (TOp.callBN (ls := [(r3.map f32)]) [4] (CallAs.func ent11 rfl rfl) (bS bN) rfl (K04_ok a3 r3 hf3) (and_all (lts0_map (f := f32) (fun _ => rfl) _) rfl) (and_all (noss_map (f := f32) (fun _ => rfl) _) rfl) rfl (by decide) (ns_of ⟨⟨_, rfl⟩, trivial⟩))<|yl rfl (optr 1 1 3) (LOp.fao und30 rfl siz23 rfl rfl rfl)<|ys (oref 4 1 0 r3.length) [i64 a0, oref 2 1 0 r1.length, oref 3 1 0 r2.length, oref 4 1 0 r3.length] ([⟨1, some [i64 0, nilsl, nilsl, nilsl]⟩, ⟨1, some [i64 a0, oref 2 1 0 r1.length, oref 3 1 0 r2.length, oref 4 1 0 r3.length]⟩, oJ 1 r1, oJ 1 r2, oF 1 r3]) siz23<|zN ?_
 refine RunC.wl (τ' := [(2, optr 0 1 0), (3, optr 1 1 0)]) (Γ' := [⟨1, some [i64 0, nilsl, nilsl, nilsl]⟩, ⟨1, some [i64 a0, oref 2 1 0 r1.length, oref 3 1 0 r2.length, oref 4 1 0 r3.length]⟩, oJ 1 r1, oJ 1 r2, oF 1 r3]) ⟨aR, aR, trivial⟩ ⟨⟨rfl, .inr rfl⟩, ⟨rfl, .inr rfl⟩, ⟨rfl, .inr rfl⟩, ⟨rfl, .inr rfl⟩, ⟨rfl, .inr rfl⟩, trivial⟩<|zQ<|yd rfl (agg [i64 a0, oref 2 1 0 r1.length, oref 3 1 0 r2.length, oref 4 1 0 r3.length]) (yA agg30 siz30)<|ys (agg [i64 a0, oref 2 1 0 r1.length, oref 3 1 0 r2.length, oref 4 1 0 r3.length]) [i64 a0, oref 2 1 0 r1.length, oref 3 1 0 r2.length, oref 4 1 0 r3.length] ([⟨1, some [i64 a0, oref 2 1 0 r1.length, oref 3 1 0 r2.length, oref 4 1 0 r3.length]⟩, ⟨1, some [i64 a0, oref 2 1 0 r1.length, oref 3 1 0 r2.length, oref 4 1 0 r3.length]⟩, oJ 1 r1, oJ 1 r2, oF 1 r3]) siz30<|zN ?_
 refine RunC.ret ?_
 have hq := oI h
 obtain ⟨hq0, hq⟩ := Prod.mk.inj hq
 obtain ⟨hq1, hq⟩ := Prod.mk.inj hq
 obtain ⟨hq2, hq⟩ := Prod.mk.inj hq
 subst q0
 subst q1
 subst q2
 subst q3
 exact yB (agg [i64 a0, oref 2 1 0 r1.length, oref 3 1 0 r2.length, oref 4 1 0 r3.length]) [(2, 1), (3, 1), (4, 1)] (Res.one rfl (RV.cell agg30 siz30 rfl rfl rfl rfl)) (SelL.arr0 (f := i64) (fun _ => rfl) rfl (SelL.arr0 (f := i64) (fun _ => rfl) rfl (sA rfl trivial)))
def K06 (a0 : Int) (a1 : Int) (a2 : Int) : Option (Bool) :=
 bsel (decide (a1 ≤ a0)) (
  some (decide (a0 ≤ a2))) (
  some false)
theorem K06_ok (a0 : Int) (a1 : Int) (a2 : Int) (q0 : Bool) (h : K06 a0 a1 a2 = some q0) : Ev Try.prog 73 [i64 a0, i64 a1, i64 a2] [] (b q0) [] := by
 refine yE Try.func73 0 31 0 [(0, i64 a0), (1, i64 a1), (2, i64 a2)] [] rfl ?_
 unfold K06 at h
 refine zQ<|ya rfl (b false)<|zN ?_
 refine yS ?_
 rcases oB h with ⟨hc1, h⟩ | ⟨hc1, h⟩
 ·refine yW<|ym rfl (i64 a0)<|ym rfl (i64 a1)<|yl rfl (b true) (LOp.eqb (LOp.geq rfl rfl rfl) hc1)<|ym rfl (b true)<|ym rfl (i64 a0)<|ym rfl (i64 a2)<|yl rfl (b (decide (a0 ≤ a2))) (LOp.leq rfl rfl rfl)<|yl rfl (b (decide (a0 ≤ a2))) yq<|ya rfl (b (decide (a0 ≤ a2)))<|zN ?_
  refine RunC.ret ?_
  have hq := oI h
  subst q0
  exact bR rfl
 ·refine yW<|ym rfl (i64 a0)<|ym rfl (i64 a1)<|yl rfl (b false) (LOp.eqb (LOp.geq rfl rfl rfl) hc1)<|ym rfl (b false)<|yR rfl<|yR rfl<|yR rfl<|yl rfl (b false) yp<|ya rfl (b false)<|zN ?_
  refine RunC.ret ?_
  have hq := oI h
  subst q0
  exact bR rfl
def K07 (a0 : F) : Option (Bool) :=
 olet (fop .sub .f32 a0 a0) fun (x1 : F) =>
 some (feq .f32 x1 (some 0))
theorem K07_ok (a0 : F) (q0 : Bool) (h : K07 a0 = some q0) : Ev Try.prog 78 [f32 a0] [] (b q0) [] := by
 refine yE Try.func78 0 15 0 [(0, f32 a0)] [] rfl ?_
 unfold K07 at h
 refine zQ<|ya rfl (b false)<|zN ?_
 refine yS ?_
 obtain ⟨x1, hx1, h⟩ := oL h
 refine yW<|ym rfl (f32 a0)<|ym rfl (f32 a0)<|yd rfl (f32 x1) (TOp.eqr (TOp.fop (.inr (.inl rfl)) rfl (OpF.tmp rfl) (OpF.tmp rfl)) (congrArg (f .f32) hx1))<|yl rfl (b (feq .f32 x1 (some 0))) (LOp.feq rfl (OpF.tmp rfl) (OpF.const rfl (by kernel_rfl) (by kernel_rfl)))<|ya rfl (b (feq .f32 x1 (some 0)))<|zN ?_
 refine RunC.ret ?_
 have hq := oI h
 subst q0
 exact bR rfl
def K08_b1 (a0 : List F) (v1 : Int) : Option (LR (Int) (Unit) (Bool)) :=
 bsel (decide (v1 < (a0.length : Int))) (
  obind (at? a0 v1) fun (e2 : F) =>
  obind (K07 e2) fun (r3 : Bool) =>
  bsel r3 (
   olet (IntKind.i64.wrap (v1 + 1)) fun (x4 : Int) =>
   some (LR.next x4)) (
   some (LR.ret false))) (
  some (LR.out ()))
def K08_s1 (a0 : List F) : (Int) → Option (LR (Int) (Unit) (Bool)) := fun s => K08_b1 a0 s
def K08_k1  : Option (Bool) :=
 some true
def K08 (a0 : List F) : Option (Bool) :=
 obind (loopM (K08_s1 a0) 0) fun z => osum z (fun _ => K08_k1) (fun r => some r)
theorem K08_ok (a0 : List F) (q0 : Bool) (h : K08 a0 = some q0) : Ev Try.prog 77 [(sFc a0)] [] (b q0) [] := by
 refine yE Try.func77 0 33 0 [(0, (sFc a0))] [] rfl ?_
 unfold K08 at h
 refine zQ<|ya rfl (b false)<|zN ?_
 refine yS<|zQ<|ya rfl (i64 0)<|zN ?_
 obtain ⟨z2, hz_2, h⟩ := oS h
 refine RunC.cutN (fun τ Γ => WeakLe τ [] ∧ DeadLe Γ [] ∧ z2 = .inl ()) ?_ ?_
 ·refine RunC.block (RunC.loop (RunL.loopM (x := z2) (K08_s1 a0) (fun (s : Int) τ Γ => WeakLe τ [(0, (sFc a0)), (3, i64 s)] ∧ DeadLe Γ []) ?_ _ _ _ hz_2 ⟨⟨aR, aR, trivial⟩, trivial⟩))
  rintro v1 τ2 Γ2 y2_ ⟨hw2, hd2⟩ h2_ ho2 hr2
  refine RunC.wl (τ' := [(0, (sFc a0)), (3, i64 v1)]) (Γ' := []) hw2 hd2 ?_
  replace h2_ : K08_b1 a0 v1 = some y2_ := h2_
  unfold K08_b1 at h2_
  refine yS<|yS ?_
  rcases oB h2_ with ⟨hc1, h2_⟩ | ⟨hc1, h2_⟩
  ·refine yW<|ym rfl (i64 v1)<|ym rfl (sFc a0)<|yl rfl (i64 (a0.length : Int)) (LOp.len_sl und23 rfl rfl)<|yl rfl (b true) (LOp.eqb (LOp.lss rfl rfl rfl) hc1)<|zN ?_
   refine yT<|RunC.skip<|yS<|RunC.block<|yS ?_
   obtain ⟨e2, he2, h2_⟩ := oS h2_
   obtain ⟨r3, hf3, h2_⟩ := oS h2_
   rcases oB h2_ with ⟨hc4, h2_⟩ | ⟨hc4, h2_⟩
   ·refine yW<|ym rfl (sFc a0)<|ym rfl (i64 v1)<|yl rfl (ptr [f32 e2]) (LOp.le (LOp.ix (f := f32) und23 siz26 rfl rfl rfl rfl he2) ALe.ptr)<|yl rfl (f32 e2) (n2 agg26)<|yd rfl (b true) (TOp.eqb (yc ent78 rfl rfl bN0 (K07_ok e2 r3 hf3)) hc4)<|yl rfl (b false) n1<|zN ?_
    refine yF<|RunC.skip ?_
    obtain ⟨x4, hx5, h2_⟩ := oL h2_
    refine yW<|ym rfl (i64 v1)<|yl rfl (i64 x4) (LOp.eqr (LOp.add rfl rfl rfl) (congrArg (ik .i64) hx5))<|ya rfl (i64 x4)<|zN ?_
    cases oI h2_
    exact ⟨_, rfl, ⟨aR, aR, trivial⟩, trivial⟩
   ·refine yW<|ym rfl (sFc a0)<|ym rfl (i64 v1)<|yl rfl (ptr [f32 e2]) (LOp.le (LOp.ix (f := f32) und23 siz26 rfl rfl rfl rfl he2) ALe.ptr)<|yl rfl (f32 e2) (n2 agg26)<|yd rfl (b false) (TOp.eqb (yc ent78 rfl rfl bN0 (K07_ok e2 r3 hf3)) hc4)<|yl rfl (b true) n0<|zN ?_
    refine yT<|zQ<|ya rfl (b false)<|zN ?_
    refine RunC.ret ?_
    cases oI h2_
    have hx3_ := hr2 _ rfl
    subst hx3_
    have hq := oI h
    subst q0
    exact bR rfl
  ·refine yW<|ym rfl (i64 v1)<|ym rfl (sFc a0)<|yl rfl (i64 (a0.length : Int)) (LOp.len_sl und23 rfl rfl)<|yl rfl (b false) (LOp.eqb (LOp.lss rfl rfl rfl) hc1)<|zN ?_
   refine yF<|RunC.exit ?_
   cases oI h2_
   have hx := ho2 _ rfl
   exact ⟨trivial, trivial, hx⟩
 ·rintro τ4 Γ4 ⟨hw4, hd4, rfl⟩
  refine RunC.wl hw4 hd4 ?_
  replace h : K08_k1 = some q0 := h
  unfold K08_k1 at h
  refine zQ<|ya rfl (b true)<|zN ?_
  refine RunC.ret ?_
  have hq := oI h
  subst q0
  exact bR rfl
def K09_k5 (v13 : Int) (w23 : Bool) (v24 : Int) : Option (LR (Int) (Unit) (Bool)) :=
 olet (IntKind.i64.wrap (v13 + 1)) fun (x25 : Int) =>
 some (LR.next x25)
def K09_b6 (a0 : Int) (a1 : List Int) (a2 : List Int) (v6 : Int) (v13 : Int) : Option (LR (Int) (Unit) (Bool)) :=
 olet (IntKind.i64.wrap (v6 + 1)) fun (x14 : Int) =>
 obind (at? a1 x14) fun (e15 : Int) =>
 bsel (decide (v13 < e15)) (
  obind (at? a2 v13) fun (e16 : Int) =>
  olet (IntKind.i64.wrap (a0 - 1)) fun (x17 : Int) =>
  obind (K06 e16 0 x17) fun (r18 : Bool) =>
  bsel r18 (
   obind (at? a1 v6) fun (e19 : Int) =>
   bsel (decide (e19 < v13)) (
    obind (at? a2 v13) fun (e20 : Int) =>
    olet (IntKind.i64.wrap (v13 - 1)) fun (x21 : Int) =>
    obind (at? a2 x21) fun (e22 : Int) =>
    bsel (decide (e20 ≤ e22)) (
     some (LR.ret false)) (
     K09_k5 v13 true e19)) (
    K09_k5 v13 false e19)) (
   some (LR.ret false))) (
  some (LR.out ()))
def K09_s6 (a0 : Int) (a1 : List Int) (a2 : List Int) (v6 : Int) : (Int) → Option (LR (Int) (Unit) (Bool)) := fun s => K09_b6 a0 a1 a2 v6 s
def K09_k6 (v6 : Int) : Option (LR (Int) (Unit) (Bool)) :=
 olet (IntKind.i64.wrap (v6 + 1)) fun (x26 : Int) =>
 some (LR.next x26)
def K09_b7 (a0 : Int) (a1 : List Int) (a2 : List Int) (v6 : Int) : Option (LR (Int) (Unit) (Bool)) :=
 bsel (decide (v6 < a0)) (
  olet (IntKind.i64.wrap (v6 + 1)) fun (x7 : Int) =>
  obind (at? a1 x7) fun (e8 : Int) =>
  obind (at? a1 v6) fun (e9 : Int) =>
  bsel (decide (e8 < e9)) (
   some (LR.ret false)) (
   olet (IntKind.i64.wrap (v6 + 1)) fun (x10 : Int) =>
   obind (at? a1 x10) fun (e11 : Int) =>
   bsel (decide ((a2.length : Int) < e11)) (
    some (LR.ret false)) (
    obind (at? a1 v6) fun (e12 : Int) =>
    obind (loopM (K09_s6 a0 a1 a2 v6) e12) fun z => osum z (fun e => K09_k6 v6) (fun r => some (LR.ret r))))) (
  some (LR.out ()))
def K09_s7 (a0 : Int) (a1 : List Int) (a2 : List Int) : (Int) → Option (LR (Int) (Unit) (Bool)) := fun s => K09_b7 a0 a1 a2 s
def K09_k7  : Option (Bool) :=
 some true
def K09 (a0 : Int) (a1 : List Int) (a2 : List Int) (a3 : List F) : Option (Bool) :=
 obind (K06 a0 1 32) fun (r1 : Bool) =>
 bsel r1 (
  olet (IntKind.i64.wrap (a0 + 1)) fun (x2 : Int) =>
  bsel (!decide ((a1.length : Int) = x2)) (
   some false) (
   bsel (decide (512 < (a2.length : Int))) (
    some false) (
    bsel (!decide ((a3.length : Int) = (a2.length : Int))) (
     some false) (
     obind (K08 a3) fun (r3 : Bool) =>
     bsel r3 (
      obind (at? a1 0) fun (e4 : Int) =>
      bsel (!decide (e4 = 0)) (
       some false) (
       obind (at? a1 a0) fun (e5 : Int) =>
       bsel (!decide (e5 = (a2.length : Int))) (
        some false) (
        obind (loopM (K09_s7 a0 a1 a2) 0) fun z => osum z (fun _ => K09_k7) (fun r => some r)))) (
      some false))))) (
  some false)
theorem K09_ok (a0 : Int) (a1 : List Int) (a2 : List Int) (a3 : List F) (q0 : Bool) (h : K09 a0 a1 a2 a3 = some q0) : Ev Try.prog 111 [ptr [i64 a0, sl a1.length (a1.map i64), sl a2.length (a2.map i64), (sFc a3)]] [] (b q0) [] := by
 refine yE Try.func111 0 341 0 ([(0, ptr [i64 a0, sl a1.length (a1.map i64), sl a2.length (a2.map i64), (sFc a3)])]) [] rfl ?_
 unfold K09 at h
 refine zQ<|ya rfl (b false)<|zN ?_
 refine zQ<|ym rfl (ptr [i64 a0, sl a1.length (a1.map i64), sl a2.length (a2.map i64), (sFc a3)])<|yl rfl (ptr [i64 a0, sl a1.length (a1.map i64), sl a2.length (a2.map i64), (sFc a3)]) n4<|yl rfl (ptr [sl a2.length (a2.map i64), (sFc a3)]) (LOp.fap und30 rfl siz22 rfl rfl rfl)<|yl rfl (sl a2.length (a2.map i64)) (n2 agg22)<|yl rfl (i64 (a2.length : Int)) (LOp.len_sl und22 rfl rfl)<|ya rfl (i64 (a2.length : Int))<|zN ?_
 refine yS<|yS ?_
 obtain ⟨r1, hf1, h⟩ := oS h
 rcases oB h with ⟨hc2, h⟩ | ⟨hc2, h⟩
 ·obtain ⟨x2, hx3, h⟩ := oL h
  rcases oB h with ⟨hc4, h⟩ | ⟨hc4, h⟩
  ·refine RunC.region_draw (Γ' := []) 40 mixed 
    (tm rfl (ptr [i64 a0, sl a1.length (a1.map i64), sl a2.length (a2.map i64), (sFc a3)]) <|
    (tl rfl (ptr [i64 a0, sl a1.length (a1.map i64), sl a2.length (a2.map i64), (sFc a3)]) n4 <|
    (tl rfl (ptr [i64 a0, sl a1.length (a1.map i64), sl a2.length (a2.map i64), (sFc a3)]) (LOp.fap und30 rfl siz2 rfl rfl rfl) <|
    (tl rfl (i64 a0) (n2 agg2) <|
    (TR.d (r := b true) (fs := []) rfl rfl (TOp.eqb (yc ent73 rfl rfl (bP (bP bN0)) (K06_ok a0 1 32 r1 hf1)) hc2) <|
    (tl rfl (b false) (LOp.eqb (LOp.not rfl rfl) rfl) <|
    (tm rfl (b false) <|
    (tm rfl (ptr [i64 a0, sl a1.length (a1.map i64), sl a2.length (a2.map i64), (sFc a3)]) <|
    (tl rfl (ptr [i64 a0, sl a1.length (a1.map i64), sl a2.length (a2.map i64), (sFc a3)]) n4 <|
    (tl rfl (ptr [sl a1.length (a1.map i64), sl a2.length (a2.map i64), (sFc a3)]) (LOp.fap und30 rfl siz22 rfl rfl rfl) <|
    (tl rfl (sl a1.length (a1.map i64)) (n2 agg22) <|
    (tl rfl (i64 (a1.length : Int)) (LOp.len_sl und22 rfl rfl) <|
    (tm rfl (ptr [i64 a0, sl a1.length (a1.map i64), sl a2.length (a2.map i64), (sFc a3)]) <|
    (tl rfl (ptr [i64 a0, sl a1.length (a1.map i64), sl a2.length (a2.map i64), (sFc a3)]) n4 <|
    (tl rfl (ptr [i64 a0, sl a1.length (a1.map i64), sl a2.length (a2.map i64), (sFc a3)]) (LOp.fap und30 rfl siz2 rfl rfl rfl) <|
    (tl rfl (i64 a0) (n2 agg2) <|
    (tl rfl (i64 x2) (LOp.eqr (LOp.add rfl rfl rfl) (congrArg (ik .i64) hx3)) <|
    (tl rfl (b true) (LOp.eqb (LOp.neq rfl rfl rfl) hc4) <|
    (tl rfl (b true) yp <|
    (tm rfl (b true) <|
    (ts rfl <|
    (ts rfl <|
    (tl rfl (b true) yq <|
    (tm rfl (b true) <|
    (ts rfl <|
    (ts rfl <|
    (ts rfl <|
    (ts rfl <|
    (ts rfl <|
    (ts rfl <|
    (ts rfl <|
    (tl rfl (b true) yq <|
    (tm rfl (b true) <|
    (ts rfl <|
    (ts rfl <|
    (ts rfl <|
    (ts rfl <|
    (ts rfl <|
    (ts rfl <|
    (tl rfl (b true) yq <|
    TR.nil)))))))))))))))))))))))))))))))))))))))) rfl (by kernel_rfl) rfl fills_nil rfl ?_
   iterate 40 refine ROps.dropS ?_
   refine ROps.drop0<|zN ?_
   refine yT<|zQ<|ya rfl (b false)<|zN ?_
   refine RunC.ret ?_
   have hq := oI h
   subst q0
   exact bR rfl
  ·rcases oB h with ⟨hc5, h⟩ | ⟨hc5, h⟩
   ·refine RunC.region_draw (Γ' := []) 40 mixed 
     (tm rfl (ptr [i64 a0, sl a1.length (a1.map i64), sl a2.length (a2.map i64), (sFc a3)]) <|
     (tl rfl (ptr [i64 a0, sl a1.length (a1.map i64), sl a2.length (a2.map i64), (sFc a3)]) n4 <|
     (tl rfl (ptr [i64 a0, sl a1.length (a1.map i64), sl a2.length (a2.map i64), (sFc a3)]) (LOp.fap und30 rfl siz2 rfl rfl rfl) <|
     (tl rfl (i64 a0) (n2 agg2) <|
     (TR.d (r := b true) (fs := []) rfl rfl (TOp.eqb (yc ent73 rfl rfl (bP (bP bN0)) (K06_ok a0 1 32 r1 hf1)) hc2) <|
     (tl rfl (b false) (LOp.eqb (LOp.not rfl rfl) rfl) <|
     (tm rfl (b false) <|
     (tm rfl (ptr [i64 a0, sl a1.length (a1.map i64), sl a2.length (a2.map i64), (sFc a3)]) <|
     (tl rfl (ptr [i64 a0, sl a1.length (a1.map i64), sl a2.length (a2.map i64), (sFc a3)]) n4 <|
     (tl rfl (ptr [sl a1.length (a1.map i64), sl a2.length (a2.map i64), (sFc a3)]) (LOp.fap und30 rfl siz22 rfl rfl rfl) <|
     (tl rfl (sl a1.length (a1.map i64)) (n2 agg22) <|
     (tl rfl (i64 (a1.length : Int)) (LOp.len_sl und22 rfl rfl) <|
     (tm rfl (ptr [i64 a0, sl a1.length (a1.map i64), sl a2.length (a2.map i64), (sFc a3)]) <|
     (tl rfl (ptr [i64 a0, sl a1.length (a1.map i64), sl a2.length (a2.map i64), (sFc a3)]) n4 <|
     (tl rfl (ptr [i64 a0, sl a1.length (a1.map i64), sl a2.length (a2.map i64), (sFc a3)]) (LOp.fap und30 rfl siz2 rfl rfl rfl) <|
     (tl rfl (i64 a0) (n2 agg2) <|
     (tl rfl (i64 x2) (LOp.eqr (LOp.add rfl rfl rfl) (congrArg (ik .i64) hx3)) <|
     (tl rfl (b false) (LOp.eqb (LOp.neq rfl rfl rfl) hc4) <|
     (tl rfl (b false) yp <|
     (tm rfl (b false) <|
     (tm rfl (i64 (a2.length : Int)) <|
     (tl rfl (b true) (LOp.eqb (LOp.gtr rfl rfl rfl) hc5) <|
     (tl rfl (b true) yp <|
     (tm rfl (b true) <|
     (ts rfl <|
     (ts rfl <|
     (ts rfl <|
     (ts rfl <|
     (ts rfl <|
     (ts rfl <|
     (ts rfl <|
     (tl rfl (b true) yq <|
     (tm rfl (b true) <|
     (ts rfl <|
     (ts rfl <|
     (ts rfl <|
     (ts rfl <|
     (ts rfl <|
     (ts rfl <|
     (tl rfl (b true) yq <|
     TR.nil)))))))))))))))))))))))))))))))))))))))) rfl (by kernel_rfl) rfl fills_nil rfl ?_
    iterate 40 refine ROps.dropS ?_
    refine ROps.drop0<|zN ?_
    refine yT<|zQ<|ya rfl (b false)<|zN ?_
    refine RunC.ret ?_
    have hq := oI h
    subst q0
    exact bR rfl
   ·rcases oB h with ⟨hc6, h⟩ | ⟨hc6, h⟩
    ·refine RunC.region_draw (Γ' := []) 40 mixed 
      (tm rfl (ptr [i64 a0, sl a1.length (a1.map i64), sl a2.length (a2.map i64), (sFc a3)]) <|
      (tl rfl (ptr [i64 a0, sl a1.length (a1.map i64), sl a2.length (a2.map i64), (sFc a3)]) n4 <|
      (tl rfl (ptr [i64 a0, sl a1.length (a1.map i64), sl a2.length (a2.map i64), (sFc a3)]) (LOp.fap und30 rfl siz2 rfl rfl rfl) <|
      (tl rfl (i64 a0) (n2 agg2) <|
      (TR.d (r := b true) (fs := []) rfl rfl (TOp.eqb (yc ent73 rfl rfl (bP (bP bN0)) (K06_ok a0 1 32 r1 hf1)) hc2) <|
      (tl rfl (b false) (LOp.eqb (LOp.not rfl rfl) rfl) <|
      (tm rfl (b false) <|
      (tm rfl (ptr [i64 a0, sl a1.length (a1.map i64), sl a2.length (a2.map i64), (sFc a3)]) <|
      (tl rfl (ptr [i64 a0, sl a1.length (a1.map i64), sl a2.length (a2.map i64), (sFc a3)]) n4 <|
      (tl rfl (ptr [sl a1.length (a1.map i64), sl a2.length (a2.map i64), (sFc a3)]) (LOp.fap und30 rfl siz22 rfl rfl rfl) <|
      (tl rfl (sl a1.length (a1.map i64)) (n2 agg22) <|
      (tl rfl (i64 (a1.length : Int)) (LOp.len_sl und22 rfl rfl) <|
      (tm rfl (ptr [i64 a0, sl a1.length (a1.map i64), sl a2.length (a2.map i64), (sFc a3)]) <|
      (tl rfl (ptr [i64 a0, sl a1.length (a1.map i64), sl a2.length (a2.map i64), (sFc a3)]) n4 <|
      (tl rfl (ptr [i64 a0, sl a1.length (a1.map i64), sl a2.length (a2.map i64), (sFc a3)]) (LOp.fap und30 rfl siz2 rfl rfl rfl) <|
      (tl rfl (i64 a0) (n2 agg2) <|
      (tl rfl (i64 x2) (LOp.eqr (LOp.add rfl rfl rfl) (congrArg (ik .i64) hx3)) <|
      (tl rfl (b false) (LOp.eqb (LOp.neq rfl rfl rfl) hc4) <|
      (tl rfl (b false) yp <|
      (tm rfl (b false) <|
      (tm rfl (i64 (a2.length : Int)) <|
      (tl rfl (b false) (LOp.eqb (LOp.gtr rfl rfl rfl) hc5) <|
      (tl rfl (b false) yp <|
      (tm rfl (b false) <|
      (tm rfl (ptr [i64 a0, sl a1.length (a1.map i64), sl a2.length (a2.map i64), (sFc a3)]) <|
      (tl rfl (ptr [i64 a0, sl a1.length (a1.map i64), sl a2.length (a2.map i64), (sFc a3)]) n4 <|
      (tl rfl (ptr [(sFc a3)]) (LOp.fap und30 rfl siz23 rfl rfl rfl) <|
      (tl rfl (sFc a3) (n2 agg23) <|
      (tl rfl (i64 (a3.length : Int)) (LOp.len_sl und23 rfl rfl) <|
      (tm rfl (i64 (a2.length : Int)) <|
      (tl rfl (b true) (LOp.eqb (LOp.neq rfl rfl rfl) hc6) <|
      (tl rfl (b true) yp <|
      (tm rfl (b true) <|
      (ts rfl <|
      (ts rfl <|
      (ts rfl <|
      (ts rfl <|
      (ts rfl <|
      (ts rfl <|
      (tl rfl (b true) yq <|
      TR.nil)))))))))))))))))))))))))))))))))))))))) rfl (by kernel_rfl) rfl fills_nil rfl ?_
     iterate 40 refine ROps.dropS ?_
     refine ROps.drop0<|zN ?_
     refine yT<|zQ<|ya rfl (b false)<|zN ?_
     refine RunC.ret ?_
     have hq := oI h
     subst q0
     exact bR rfl
    ·obtain ⟨r3, hf7, h⟩ := oS h
     rcases oB h with ⟨hc8, h⟩ | ⟨hc8, h⟩
     ·refine RunC.region_draw (Γ' := []) 40 mixed 
       (tm rfl (ptr [i64 a0, sl a1.length (a1.map i64), sl a2.length (a2.map i64), (sFc a3)]) <|
       (tl rfl (ptr [i64 a0, sl a1.length (a1.map i64), sl a2.length (a2.map i64), (sFc a3)]) n4 <|
       (tl rfl (ptr [i64 a0, sl a1.length (a1.map i64), sl a2.length (a2.map i64), (sFc a3)]) (LOp.fap und30 rfl siz2 rfl rfl rfl) <|
       (tl rfl (i64 a0) (n2 agg2) <|
       (TR.d (r := b true) (fs := []) rfl rfl (TOp.eqb (yc ent73 rfl rfl (bP (bP bN0)) (K06_ok a0 1 32 r1 hf1)) hc2) <|
       (tl rfl (b false) (LOp.eqb (LOp.not rfl rfl) rfl) <|
       (tm rfl (b false) <|
       (tm rfl (ptr [i64 a0, sl a1.length (a1.map i64), sl a2.length (a2.map i64), (sFc a3)]) <|
       (tl rfl (ptr [i64 a0, sl a1.length (a1.map i64), sl a2.length (a2.map i64), (sFc a3)]) n4 <|
       (tl rfl (ptr [sl a1.length (a1.map i64), sl a2.length (a2.map i64), (sFc a3)]) (LOp.fap und30 rfl siz22 rfl rfl rfl) <|
       (tl rfl (sl a1.length (a1.map i64)) (n2 agg22) <|
       (tl rfl (i64 (a1.length : Int)) (LOp.len_sl und22 rfl rfl) <|
       (tm rfl (ptr [i64 a0, sl a1.length (a1.map i64), sl a2.length (a2.map i64), (sFc a3)]) <|
       (tl rfl (ptr [i64 a0, sl a1.length (a1.map i64), sl a2.length (a2.map i64), (sFc a3)]) n4 <|
       (tl rfl (ptr [i64 a0, sl a1.length (a1.map i64), sl a2.length (a2.map i64), (sFc a3)]) (LOp.fap und30 rfl siz2 rfl rfl rfl) <|
       (tl rfl (i64 a0) (n2 agg2) <|
       (tl rfl (i64 x2) (LOp.eqr (LOp.add rfl rfl rfl) (congrArg (ik .i64) hx3)) <|
       (tl rfl (b false) (LOp.eqb (LOp.neq rfl rfl rfl) hc4) <|
       (tl rfl (b false) yp <|
       (tm rfl (b false) <|
       (tm rfl (i64 (a2.length : Int)) <|
       (tl rfl (b false) (LOp.eqb (LOp.gtr rfl rfl rfl) hc5) <|
       (tl rfl (b false) yp <|
       (tm rfl (b false) <|
       (tm rfl (ptr [i64 a0, sl a1.length (a1.map i64), sl a2.length (a2.map i64), (sFc a3)]) <|
       (tl rfl (ptr [i64 a0, sl a1.length (a1.map i64), sl a2.length (a2.map i64), (sFc a3)]) n4 <|
       (tl rfl (ptr [(sFc a3)]) (LOp.fap und30 rfl siz23 rfl rfl rfl) <|
       (tl rfl (sFc a3) (n2 agg23) <|
       (tl rfl (i64 (a3.length : Int)) (LOp.len_sl und23 rfl rfl) <|
       (tm rfl (i64 (a2.length : Int)) <|
       (tl rfl (b false) (LOp.eqb (LOp.neq rfl rfl rfl) hc6) <|
       (tl rfl (b false) yp <|
       (tm rfl (b false) <|
       (tm rfl (ptr [i64 a0, sl a1.length (a1.map i64), sl a2.length (a2.map i64), (sFc a3)]) <|
       (tl rfl (ptr [i64 a0, sl a1.length (a1.map i64), sl a2.length (a2.map i64), (sFc a3)]) n4 <|
       (tl rfl (ptr [(sFc a3)]) (LOp.fap und30 rfl siz23 rfl rfl rfl) <|
       (tl rfl (sFc a3) (n2 agg23) <|
       (TR.d (r := b true) (fs := []) rfl rfl (TOp.eqb (yc ent77 rfl rfl (bS bN) (K08_ok a3 r3 hf7)) hc8) <|
       (tl rfl (b false) (LOp.eqb (LOp.not rfl rfl) rfl) <|
       (tl rfl (b false) yp <|
       TR.nil)))))))))))))))))))))))))))))))))))))))) rfl (by kernel_rfl) rfl fills_nil rfl ?_
      iterate 40 refine ROps.dropS ?_
      refine ROps.drop0<|zN ?_
      refine yF<|RunC.skip<|yS<|yS ?_
      obtain ⟨e4, he9, h⟩ := oS h
      rcases oB h with ⟨hc10, h⟩ | ⟨hc10, h⟩
      ·refine RunC.region_draw (Γ' := []) 21 mixed 
        (tm rfl (ptr [i64 a0, sl a1.length (a1.map i64), sl a2.length (a2.map i64), (sFc a3)]) <|
        (tl rfl (ptr [i64 a0, sl a1.length (a1.map i64), sl a2.length (a2.map i64), (sFc a3)]) n4 <|
        (tl rfl (ptr [sl a1.length (a1.map i64), sl a2.length (a2.map i64), (sFc a3)]) (LOp.fap und30 rfl siz22 rfl rfl rfl) <|
        (tl rfl (sl a1.length (a1.map i64)) (n2 agg22) <|
        (tl rfl (ptr [i64 e4]) (LOp.le (LOp.ix (f := i64) und22 siz2 rfl rfl rfl rfl he9) ALe.ptr) <|
        (tl rfl (i64 e4) (n2 agg2) <|
        (tl rfl (b true) (LOp.eqb (LOp.neq rfl rfl rfl) hc10) <|
        (tm rfl (b true) <|
        (ts rfl <|
        (ts rfl <|
        (ts rfl <|
        (ts rfl <|
        (ts rfl <|
        (ts rfl <|
        (ts rfl <|
        (ts rfl <|
        (ts rfl <|
        (ts rfl <|
        (ts rfl <|
        (ts rfl <|
        (tl rfl (b true) yq <|
        TR.nil))))))))))))))))))))) rfl (by kernel_rfl) rfl fills_nil rfl ?_
       iterate 21 refine ROps.dropS ?_
       refine ROps.drop0<|zN ?_
       refine RunC.wl (τ' := [(0, ptr [i64 a0, sl a1.length (a1.map i64), sl a2.length (a2.map i64), (sFc a3)]), (3, i64 (a2.length : Int)), (71, b true)]) (Γ' := []) ⟨aR, aR, aR, trivial⟩ trivial<|yT<|zQ<|ya rfl (b false)<|zN ?_
       refine RunC.ret ?_
       have hq := oI h
       subst q0
       exact bR rfl
      ·obtain ⟨e5, he11, h⟩ := oS h
       rcases oB h with ⟨hc12, h⟩ | ⟨hc12, h⟩
       ·refine RunC.region_draw (Γ' := []) 21 mixed 
         (tm rfl (ptr [i64 a0, sl a1.length (a1.map i64), sl a2.length (a2.map i64), (sFc a3)]) <|
         (tl rfl (ptr [i64 a0, sl a1.length (a1.map i64), sl a2.length (a2.map i64), (sFc a3)]) n4 <|
         (tl rfl (ptr [sl a1.length (a1.map i64), sl a2.length (a2.map i64), (sFc a3)]) (LOp.fap und30 rfl siz22 rfl rfl rfl) <|
         (tl rfl (sl a1.length (a1.map i64)) (n2 agg22) <|
         (tl rfl (ptr [i64 e4]) (LOp.le (LOp.ix (f := i64) und22 siz2 rfl rfl rfl rfl he9) ALe.ptr) <|
         (tl rfl (i64 e4) (n2 agg2) <|
         (tl rfl (b false) (LOp.eqb (LOp.neq rfl rfl rfl) hc10) <|
         (tm rfl (b false) <|
         (tm rfl (ptr [i64 a0, sl a1.length (a1.map i64), sl a2.length (a2.map i64), (sFc a3)]) <|
         (tl rfl (ptr [i64 a0, sl a1.length (a1.map i64), sl a2.length (a2.map i64), (sFc a3)]) n4 <|
         (tl rfl (ptr [sl a1.length (a1.map i64), sl a2.length (a2.map i64), (sFc a3)]) (LOp.fap und30 rfl siz22 rfl rfl rfl) <|
         (tl rfl (sl a1.length (a1.map i64)) (n2 agg22) <|
         (tm rfl (ptr [i64 a0, sl a1.length (a1.map i64), sl a2.length (a2.map i64), (sFc a3)]) <|
         (tl rfl (ptr [i64 a0, sl a1.length (a1.map i64), sl a2.length (a2.map i64), (sFc a3)]) n4 <|
         (tl rfl (ptr [i64 a0, sl a1.length (a1.map i64), sl a2.length (a2.map i64), (sFc a3)]) (LOp.fap und30 rfl siz2 rfl rfl rfl) <|
         (tl rfl (i64 a0) (n2 agg2) <|
         (tl rfl (ptr [i64 e5]) (LOp.le (LOp.ix (f := i64) und22 siz2 rfl rfl rfl rfl he11) ALe.ptr) <|
         (tl rfl (i64 e5) (n2 agg2) <|
         (tm rfl (i64 (a2.length : Int)) <|
         (tl rfl (b true) (LOp.eqb (LOp.neq rfl rfl rfl) hc12) <|
         (tl rfl (b true) yp <|
         TR.nil))))))))))))))))))))) rfl (by kernel_rfl) rfl fills_nil rfl ?_
        iterate 21 refine ROps.dropS ?_
        refine ROps.drop0<|zN ?_
        refine RunC.wl (τ' := [(0, ptr [i64 a0, sl a1.length (a1.map i64), sl a2.length (a2.map i64), (sFc a3)]), (3, i64 (a2.length : Int)), (71, b true)]) (Γ' := []) ⟨aR, aR, aR, trivial⟩ trivial<|yT<|zQ<|ya rfl (b false)<|zN ?_
        refine RunC.ret ?_
        have hq := oI h
        subst q0
        exact bR rfl
       ·refine RunC.region_draw (Γ' := []) 21 mixed 
         (tm rfl (ptr [i64 a0, sl a1.length (a1.map i64), sl a2.length (a2.map i64), (sFc a3)]) <|
         (tl rfl (ptr [i64 a0, sl a1.length (a1.map i64), sl a2.length (a2.map i64), (sFc a3)]) n4 <|
         (tl rfl (ptr [sl a1.length (a1.map i64), sl a2.length (a2.map i64), (sFc a3)]) (LOp.fap und30 rfl siz22 rfl rfl rfl) <|
         (tl rfl (sl a1.length (a1.map i64)) (n2 agg22) <|
         (tl rfl (ptr [i64 e4]) (LOp.le (LOp.ix (f := i64) und22 siz2 rfl rfl rfl rfl he9) ALe.ptr) <|
         (tl rfl (i64 e4) (n2 agg2) <|
         (tl rfl (b false) (LOp.eqb (LOp.neq rfl rfl rfl) hc10) <|
         (tm rfl (b false) <|
         (tm rfl (ptr [i64 a0, sl a1.length (a1.map i64), sl a2.length (a2.map i64), (sFc a3)]) <|
         (tl rfl (ptr [i64 a0, sl a1.length (a1.map i64), sl a2.length (a2.map i64), (sFc a3)]) n4 <|
         (tl rfl (ptr [sl a1.length (a1.map i64), sl a2.length (a2.map i64), (sFc a3)]) (LOp.fap und30 rfl siz22 rfl rfl rfl) <|
         (tl rfl (sl a1.length (a1.map i64)) (n2 agg22) <|
         (tm rfl (ptr [i64 a0, sl a1.length (a1.map i64), sl a2.length (a2.map i64), (sFc a3)]) <|
         (tl rfl (ptr [i64 a0, sl a1.length (a1.map i64), sl a2.length (a2.map i64), (sFc a3)]) n4 <|
         (tl rfl (ptr [i64 a0, sl a1.length (a1.map i64), sl a2.length (a2.map i64), (sFc a3)]) (LOp.fap und30 rfl siz2 rfl rfl rfl) <|
         (tl rfl (i64 a0) (n2 agg2) <|
         (tl rfl (ptr [i64 e5]) (LOp.le (LOp.ix (f := i64) und22 siz2 rfl rfl rfl rfl he11) ALe.ptr) <|
         (tl rfl (i64 e5) (n2 agg2) <|
         (tm rfl (i64 (a2.length : Int)) <|
         (tl rfl (b false) (LOp.eqb (LOp.neq rfl rfl rfl) hc12) <|
         (tl rfl (b false) yp <|
         TR.nil))))))))))))))))))))) rfl (by kernel_rfl) rfl fills_nil rfl ?_
        iterate 21 refine ROps.dropS ?_
        refine ROps.drop0<|zN ?_
        refine RunC.wl (τ' := [(0, ptr [i64 a0, sl a1.length (a1.map i64), sl a2.length (a2.map i64), (sFc a3)]), (3, i64 (a2.length : Int)), (71, b false)]) (Γ' := []) ⟨aR, aR, aR, trivial⟩ trivial<|yF<|RunC.skip<|yS<|zQ<|ya rfl (i64 0)<|zN ?_
        obtain ⟨z8, hz_8, h⟩ := oS h
        refine RunC.cutN (fun τ Γ => WeakLe τ [] ∧ DeadLe Γ [] ∧ z8 = .inl ()) ?_ ?_
        ·refine RunC.block (RunC.loop (RunL.loopM (x := z8) (K09_s7 a0 a1 a2) (fun (s : Int) τ Γ => WeakLe τ [(0, ptr [i64 a0, sl a1.length (a1.map i64), sl a2.length (a2.map i64), (sFc a3)]), (3, i64 (a2.length : Int)), (4, i64 s)] ∧ DeadLe Γ []) ?_ _ _ _ hz_8 ⟨⟨aR, aR, aR, trivial⟩, trivial⟩))
         rintro v6 τ8 Γ8 y8_ ⟨hw8, hd8⟩ h8_ ho8 hr8
         refine RunC.wl (τ' := [(0, ptr [i64 a0, sl a1.length (a1.map i64), sl a2.length (a2.map i64), (sFc a3)]), (3, i64 (a2.length : Int)), (4, i64 v6)]) (Γ' := []) hw8 hd8 ?_
         replace h8_ : K09_b7 a0 a1 a2 v6 = some y8_ := h8_
         unfold K09_b7 at h8_
         refine yS<|yS ?_
         rcases oB h8_ with ⟨hc13, h8_⟩ | ⟨hc13, h8_⟩
         ·refine yW<|ym rfl (i64 v6)<|ym rfl (ptr [i64 a0, sl a1.length (a1.map i64), sl a2.length (a2.map i64), (sFc a3)])<|yl rfl (ptr [i64 a0, sl a1.length (a1.map i64), sl a2.length (a2.map i64), (sFc a3)]) n4<|yl rfl (ptr [i64 a0, sl a1.length (a1.map i64), sl a2.length (a2.map i64), (sFc a3)]) (LOp.fap und30 rfl siz2 rfl rfl rfl)<|yl rfl (i64 a0) (n2 agg2)<|yl rfl (b true) (LOp.eqb (LOp.lss rfl rfl rfl) hc13)<|zN ?_
          refine yT<|RunC.skip<|yS<|RunC.block<|yS<|yS ?_
          obtain ⟨x7, hx14, h8_⟩ := oL h8_
          obtain ⟨e8, he15, h8_⟩ := oS h8_
          obtain ⟨e9, he16, h8_⟩ := oS h8_
          rcases oB h8_ with ⟨hc17, h8_⟩ | ⟨hc17, h8_⟩
          ·refine RunC.region_draw (Γ' := []) 28 mixed 
            (tm rfl (ptr [i64 a0, sl a1.length (a1.map i64), sl a2.length (a2.map i64), (sFc a3)]) <|
            (tl rfl (ptr [i64 a0, sl a1.length (a1.map i64), sl a2.length (a2.map i64), (sFc a3)]) n4 <|
            (tl rfl (ptr [sl a1.length (a1.map i64), sl a2.length (a2.map i64), (sFc a3)]) (LOp.fap und30 rfl siz22 rfl rfl rfl) <|
            (tl rfl (sl a1.length (a1.map i64)) (n2 agg22) <|
            (tm rfl (i64 v6) <|
            (tl rfl (i64 x7) (LOp.eqr (LOp.add rfl rfl rfl) (congrArg (ik .i64) hx14)) <|
            (tl rfl (ptr [i64 e8]) (LOp.le (LOp.ix (f := i64) und22 siz2 rfl rfl rfl rfl he15) ALe.ptr) <|
            (tl rfl (i64 e8) (n2 agg2) <|
            (tm rfl (ptr [i64 a0, sl a1.length (a1.map i64), sl a2.length (a2.map i64), (sFc a3)]) <|
            (tl rfl (ptr [i64 a0, sl a1.length (a1.map i64), sl a2.length (a2.map i64), (sFc a3)]) n4 <|
            (tl rfl (ptr [sl a1.length (a1.map i64), sl a2.length (a2.map i64), (sFc a3)]) (LOp.fap und30 rfl siz22 rfl rfl rfl) <|
            (tl rfl (sl a1.length (a1.map i64)) (n2 agg22) <|
            (tm rfl (i64 v6) <|
            (tl rfl (ptr [i64 e9]) (LOp.le (LOp.ix (f := i64) und22 siz2 rfl rfl rfl rfl he16) ALe.ptr) <|
            (tl rfl (i64 e9) (n2 agg2) <|
            (tl rfl (b true) (LOp.eqb (LOp.lss rfl rfl rfl) hc17) <|
            (tm rfl (b true) <|
            (ts rfl <|
            (ts rfl <|
            (ts rfl <|
            (ts rfl <|
            (ts rfl <|
            (ts rfl <|
            (ts rfl <|
            (ts rfl <|
            (ts rfl <|
            (ts rfl <|
            (tl rfl (b true) yq <|
            TR.nil)))))))))))))))))))))))))))) rfl (by kernel_rfl) rfl fills_nil rfl ?_
           iterate 28 refine ROps.dropS ?_
           refine ROps.drop0<|zN ?_
           refine yT<|zQ<|ya rfl (b false)<|zN ?_
           refine RunC.ret ?_
           cases oI h8_
           have hx9_ := hr8 _ rfl
           subst hx9_
           have hq := oI h
           subst q0
           exact bR rfl
          ·obtain ⟨x10, hx18, h8_⟩ := oL h8_
           obtain ⟨e11, he19, h8_⟩ := oS h8_
           rcases oB h8_ with ⟨hc20, h8_⟩ | ⟨hc20, h8_⟩
           ·refine RunC.region_draw (Γ' := []) 28 mixed 
             (tm rfl (ptr [i64 a0, sl a1.length (a1.map i64), sl a2.length (a2.map i64), (sFc a3)]) <|
             (tl rfl (ptr [i64 a0, sl a1.length (a1.map i64), sl a2.length (a2.map i64), (sFc a3)]) n4 <|
             (tl rfl (ptr [sl a1.length (a1.map i64), sl a2.length (a2.map i64), (sFc a3)]) (LOp.fap und30 rfl siz22 rfl rfl rfl) <|
             (tl rfl (sl a1.length (a1.map i64)) (n2 agg22) <|
             (tm rfl (i64 v6) <|
             (tl rfl (i64 x7) (LOp.eqr (LOp.add rfl rfl rfl) (congrArg (ik .i64) hx14)) <|
             (tl rfl (ptr [i64 e8]) (LOp.le (LOp.ix (f := i64) und22 siz2 rfl rfl rfl rfl he15) ALe.ptr) <|
             (tl rfl (i64 e8) (n2 agg2) <|
             (tm rfl (ptr [i64 a0, sl a1.length (a1.map i64), sl a2.length (a2.map i64), (sFc a3)]) <|
             (tl rfl (ptr [i64 a0, sl a1.length (a1.map i64), sl a2.length (a2.map i64), (sFc a3)]) n4 <|
             (tl rfl (ptr [sl a1.length (a1.map i64), sl a2.length (a2.map i64), (sFc a3)]) (LOp.fap und30 rfl siz22 rfl rfl rfl) <|
             (tl rfl (sl a1.length (a1.map i64)) (n2 agg22) <|
             (tm rfl (i64 v6) <|
             (tl rfl (ptr [i64 e9]) (LOp.le (LOp.ix (f := i64) und22 siz2 rfl rfl rfl rfl he16) ALe.ptr) <|
             (tl rfl (i64 e9) (n2 agg2) <|
             (tl rfl (b false) (LOp.eqb (LOp.lss rfl rfl rfl) hc17) <|
             (tm rfl (b false) <|
             (tm rfl (ptr [i64 a0, sl a1.length (a1.map i64), sl a2.length (a2.map i64), (sFc a3)]) <|
             (tl rfl (ptr [i64 a0, sl a1.length (a1.map i64), sl a2.length (a2.map i64), (sFc a3)]) n4 <|
             (tl rfl (ptr [sl a1.length (a1.map i64), sl a2.length (a2.map i64), (sFc a3)]) (LOp.fap und30 rfl siz22 rfl rfl rfl) <|
             (tl rfl (sl a1.length (a1.map i64)) (n2 agg22) <|
             (tm rfl (i64 v6) <|
             (tl rfl (i64 x10) (LOp.eqr (LOp.add rfl rfl rfl) (congrArg (ik .i64) hx18)) <|
             (tl rfl (ptr [i64 e11]) (LOp.le (LOp.ix (f := i64) und22 siz2 rfl rfl rfl rfl he19) ALe.ptr) <|
             (tl rfl (i64 e11) (n2 agg2) <|
             (tm rfl (i64 (a2.length : Int)) <|
             (tl rfl (b true) (LOp.eqb (LOp.gtr rfl rfl rfl) hc20) <|
             (tl rfl (b true) yp <|
             TR.nil)))))))))))))))))))))))))))) rfl (by kernel_rfl) rfl fills_nil rfl ?_
            iterate 28 refine ROps.dropS ?_
            refine ROps.drop0<|zN ?_
            refine yT<|zQ<|ya rfl (b false)<|zN ?_
            refine RunC.ret ?_
            cases oI h8_
            have hx10_ := hr8 _ rfl
            subst hx10_
            have hq := oI h
            subst q0
            exact bR rfl
           ·refine RunC.region_draw (Γ' := []) 28 mixed 
             (tm rfl (ptr [i64 a0, sl a1.length (a1.map i64), sl a2.length (a2.map i64), (sFc a3)]) <|
             (tl rfl (ptr [i64 a0, sl a1.length (a1.map i64), sl a2.length (a2.map i64), (sFc a3)]) n4 <|
             (tl rfl (ptr [sl a1.length (a1.map i64), sl a2.length (a2.map i64), (sFc a3)]) (LOp.fap und30 rfl siz22 rfl rfl rfl) <|
             (tl rfl (sl a1.length (a1.map i64)) (n2 agg22) <|
             (tm rfl (i64 v6) <|
             (tl rfl (i64 x7) (LOp.eqr (LOp.add rfl rfl rfl) (congrArg (ik .i64) hx14)) <|
             (tl rfl (ptr [i64 e8]) (LOp.le (LOp.ix (f := i64) und22 siz2 rfl rfl rfl rfl he15) ALe.ptr) <|
             (tl rfl (i64 e8) (n2 agg2) <|
             (tm rfl (ptr [i64 a0, sl a1.length (a1.map i64), sl a2.length (a2.map i64), (sFc a3)]) <|
             (tl rfl (ptr [i64 a0, sl a1.length (a1.map i64), sl a2.length (a2.map i64), (sFc a3)]) n4 <|
             (tl rfl (ptr [sl a1.length (a1.map i64), sl a2.length (a2.map i64), (sFc a3)]) (LOp.fap und30 rfl siz22 rfl rfl rfl) <|
             (tl rfl (sl a1.length (a1.map i64)) (n2 agg22) <|
             (tm rfl (i64 v6) <|
             (tl rfl (ptr [i64 e9]) (LOp.le (LOp.ix (f := i64) und22 siz2 rfl rfl rfl rfl he16) ALe.ptr) <|
             (tl rfl (i64 e9) (n2 agg2) <|
             (tl rfl (b false) (LOp.eqb (LOp.lss rfl rfl rfl) hc17) <|
             (tm rfl (b false) <|
             (tm rfl (ptr [i64 a0, sl a1.length (a1.map i64), sl a2.length (a2.map i64), (sFc a3)]) <|
             (tl rfl (ptr [i64 a0, sl a1.length (a1.map i64), sl a2.length (a2.map i64), (sFc a3)]) n4 <|
             (tl rfl (ptr [sl a1.length (a1.map i64), sl a2.length (a2.map i64), (sFc a3)]) (LOp.fap und30 rfl siz22 rfl rfl rfl) <|
             (tl rfl (sl a1.length (a1.map i64)) (n2 agg22) <|
             (tm rfl (i64 v6) <|
             (tl rfl (i64 x10) (LOp.eqr (LOp.add rfl rfl rfl) (congrArg (ik .i64) hx18)) <|
             (tl rfl (ptr [i64 e11]) (LOp.le (LOp.ix (f := i64) und22 siz2 rfl rfl rfl rfl he19) ALe.ptr) <|
             (tl rfl (i64 e11) (n2 agg2) <|
             (tm rfl (i64 (a2.length : Int)) <|
             (tl rfl (b false) (LOp.eqb (LOp.gtr rfl rfl rfl) hc20) <|
             (tl rfl (b false) yp <|
             TR.nil)))))))))))))))))))))))))))) rfl (by kernel_rfl) rfl fills_nil rfl ?_
            iterate 28 refine ROps.dropS ?_
            refine ROps.drop0<|zN ?_
            refine yF<|RunC.skip<|yS ?_
            obtain ⟨e12, he21, h8_⟩ := oS h8_
            refine yW<|ym rfl (ptr [i64 a0, sl a1.length (a1.map i64), sl a2.length (a2.map i64), (sFc a3)])<|yl rfl (ptr [i64 a0, sl a1.length (a1.map i64), sl a2.length (a2.map i64), (sFc a3)]) n4<|yl rfl (ptr [sl a1.length (a1.map i64), sl a2.length (a2.map i64), (sFc a3)]) (LOp.fap und30 rfl siz22 rfl rfl rfl)<|yl rfl (sl a1.length (a1.map i64)) (n2 agg22)<|ym rfl (i64 v6)<|yl rfl (ptr [i64 e12]) (LOp.le (LOp.ix (f := i64) und22 siz2 rfl rfl rfl rfl he21) ALe.ptr)<|yl rfl (i64 e12) (n2 agg2)<|ya rfl (i64 e12)<|zN ?_
            obtain ⟨z11, hz_11, h8_⟩ := oS h8_
            refine RunC.cutN (fun τ Γ => WeakLe τ [(0, ptr [i64 a0, sl a1.length (a1.map i64), sl a2.length (a2.map i64), (sFc a3)]), (3, i64 (a2.length : Int)), (4, i64 v6), (97, ptr [i64 a0, sl a1.length (a1.map i64), sl a2.length (a2.map i64), (sFc a3)]), (98, ptr [i64 a0, sl a1.length (a1.map i64), sl a2.length (a2.map i64), (sFc a3)]), (99, ptr [sl a1.length (a1.map i64), sl a2.length (a2.map i64), (sFc a3)]), (100, sl a1.length (a1.map i64)), (101, i64 v6), (102, i64 x10), (103, ptr [i64 e11]), (104, i64 e11), (105, i64 (a2.length : Int)), (106, b false)] ∧ DeadLe Γ [] ∧ z11 = .inl ()) ?_ ?_
            ·refine RunC.block (RunC.loop (RunL.loopM (x := z11) (K09_s6 a0 a1 a2 v6) (fun (s : Int) τ Γ => WeakLe τ [(0, ptr [i64 a0, sl a1.length (a1.map i64), sl a2.length (a2.map i64), (sFc a3)]), (3, i64 (a2.length : Int)), (4, i64 v6), (5, i64 s), (97, ptr [i64 a0, sl a1.length (a1.map i64), sl a2.length (a2.map i64), (sFc a3)]), (98, ptr [i64 a0, sl a1.length (a1.map i64), sl a2.length (a2.map i64), (sFc a3)]), (99, ptr [sl a1.length (a1.map i64), sl a2.length (a2.map i64), (sFc a3)]), (100, sl a1.length (a1.map i64)), (101, i64 v6), (102, i64 x10), (103, ptr [i64 e11]), (104, i64 e11), (105, i64 (a2.length : Int)), (106, b false)] ∧ DeadLe Γ []) ?_ _ _ _ hz_11 ⟨⟨aR, aR, aR, aR, aR, aR, aR, aR, aR, aR, aR, aR, aR, aR, trivial⟩, trivial⟩))
             rintro v13 τ11 Γ11 y11_ ⟨hw11, hd11⟩ h11_ ho11 hr11
             refine RunC.wl (τ' := [(0, ptr [i64 a0, sl a1.length (a1.map i64), sl a2.length (a2.map i64), (sFc a3)]), (3, i64 (a2.length : Int)), (4, i64 v6), (5, i64 v13), (97, ptr [i64 a0, sl a1.length (a1.map i64), sl a2.length (a2.map i64), (sFc a3)]), (98, ptr [i64 a0, sl a1.length (a1.map i64), sl a2.length (a2.map i64), (sFc a3)]), (99, ptr [sl a1.length (a1.map i64), sl a2.length (a2.map i64), (sFc a3)]), (100, sl a1.length (a1.map i64)), (101, i64 v6), (102, i64 x10), (103, ptr [i64 e11]), (104, i64 e11), (105, i64 (a2.length : Int)), (106, b false)]) (Γ' := []) hw11 hd11 ?_
             replace h11_ : K09_b6 a0 a1 a2 v6 v13 = some y11_ := h11_
             unfold K09_b6 at h11_
             refine yS<|yS ?_
             obtain ⟨x14, hx22, h11_⟩ := oL h11_
             obtain ⟨e15, he23, h11_⟩ := oS h11_
             rcases oB h11_ with ⟨hc24, h11_⟩ | ⟨hc24, h11_⟩
             ·refine yW<|ym rfl (i64 v13)<|ym rfl (ptr [i64 a0, sl a1.length (a1.map i64), sl a2.length (a2.map i64), (sFc a3)])<|yl rfl (ptr [i64 a0, sl a1.length (a1.map i64), sl a2.length (a2.map i64), (sFc a3)]) n4<|yl rfl (ptr [sl a1.length (a1.map i64), sl a2.length (a2.map i64), (sFc a3)]) (LOp.fap und30 rfl siz22 rfl rfl rfl)<|yl rfl (sl a1.length (a1.map i64)) (n2 agg22)<|ym rfl (i64 v6)<|yl rfl (i64 x14) (LOp.eqr (LOp.add rfl rfl rfl) (congrArg (ik .i64) hx22))<|yl rfl (ptr [i64 e15]) (LOp.le (LOp.ix (f := i64) und22 siz2 rfl rfl rfl rfl he23) ALe.ptr)<|yl rfl (i64 e15) (n2 agg2)<|yl rfl (b true) (LOp.eqb (LOp.lss rfl rfl rfl) hc24)<|zN ?_
              refine yT<|RunC.skip<|yS<|RunC.cutN (fun τ Γ => ∃ (w23 : Bool) (v24 : Int), WeakLe τ [(0, ptr [i64 a0, sl a1.length (a1.map i64), sl a2.length (a2.map i64), (sFc a3)]), (3, i64 (a2.length : Int)), (4, i64 v6), (5, i64 v13), (97, ptr [i64 a0, sl a1.length (a1.map i64), sl a2.length (a2.map i64), (sFc a3)]), (98, ptr [i64 a0, sl a1.length (a1.map i64), sl a2.length (a2.map i64), (sFc a3)]), (99, ptr [sl a1.length (a1.map i64), sl a2.length (a2.map i64), (sFc a3)]), (100, sl a1.length (a1.map i64)), (101, i64 v6), (102, i64 x10), (103, ptr [i64 e11]), (104, i64 e11), (105, i64 (a2.length : Int)), (106, b false), (142, i64 v13), (143, ptr [i64 a0, sl a1.length (a1.map i64), sl a2.length (a2.map i64), (sFc a3)]), (144, ptr [i64 a0, sl a1.length (a1.map i64), sl a2.length (a2.map i64), (sFc a3)]), (145, ptr [sl a1.length (a1.map i64), sl a2.length (a2.map i64), (sFc a3)]), (146, sl a1.length (a1.map i64)), (147, i64 v6), (148, ptr [i64 v24]), (149, i64 v24), (150, b w23), (151, b w23), (168, b false)] ∧ DeadLe Γ [] ∧ K09_k5 v13 w23 v24 = some y11_) ?_ ?_
              ·refine RunC.block<|yS ?_
               obtain ⟨e16, he25, h11_⟩ := oS h11_
               obtain ⟨x17, hx26, h11_⟩ := oL h11_
               obtain ⟨r18, hf27, h11_⟩ := oS h11_
               rcases oB h11_ with ⟨hc28, h11_⟩ | ⟨hc28, h11_⟩
               ·obtain ⟨e19, he29, h11_⟩ := oS h11_
                rcases oB h11_ with ⟨hc30, h11_⟩ | ⟨hc30, h11_⟩
                ·obtain ⟨e20, he31, h11_⟩ := oS h11_
                 obtain ⟨x21, hx32, h11_⟩ := oL h11_
                 obtain ⟨e22, he33, h11_⟩ := oS h11_
                 rcases oB h11_ with ⟨hc34, h11_⟩ | ⟨hc34, h11_⟩
                 ·refine RunC.region_draw (Γ' := []) 43 mixed 
                   (tm rfl (ptr [i64 a0, sl a1.length (a1.map i64), sl a2.length (a2.map i64), (sFc a3)]) <|
                   (tl rfl (ptr [i64 a0, sl a1.length (a1.map i64), sl a2.length (a2.map i64), (sFc a3)]) n4 <|
                   (tl rfl (ptr [sl a2.length (a2.map i64), (sFc a3)]) (LOp.fap und30 rfl siz22 rfl rfl rfl) <|
                   (tl rfl (sl a2.length (a2.map i64)) (n2 agg22) <|
                   (tm rfl (i64 v13) <|
                   (tl rfl (ptr [i64 e16]) (LOp.le (LOp.ix (f := i64) und22 siz2 rfl rfl rfl rfl he25) ALe.ptr) <|
                   (tl rfl (i64 e16) (n2 agg2) <|
                   (tm rfl (ptr [i64 a0, sl a1.length (a1.map i64), sl a2.length (a2.map i64), (sFc a3)]) <|
                   (tl rfl (ptr [i64 a0, sl a1.length (a1.map i64), sl a2.length (a2.map i64), (sFc a3)]) n4 <|
                   (tl rfl (ptr [i64 a0, sl a1.length (a1.map i64), sl a2.length (a2.map i64), (sFc a3)]) (LOp.fap und30 rfl siz2 rfl rfl rfl) <|
                   (tl rfl (i64 a0) (n2 agg2) <|
                   (tl rfl (i64 x17) (LOp.eqr (LOp.sub rfl rfl rfl) (congrArg (ik .i64) hx26)) <|
                   (TR.d (r := b true) (fs := []) rfl rfl (TOp.eqb (yc ent73 rfl rfl (bP (bP bN0)) (K06_ok e16 0 x17 r18 hf27)) hc28) <|
                   (tl rfl (b false) (LOp.eqb (LOp.not rfl rfl) rfl) <|
                   (tm rfl (b false) <|
                   (tm rfl (i64 v13) <|
                   (tm rfl (ptr [i64 a0, sl a1.length (a1.map i64), sl a2.length (a2.map i64), (sFc a3)]) <|
                   (tl rfl (ptr [i64 a0, sl a1.length (a1.map i64), sl a2.length (a2.map i64), (sFc a3)]) n4 <|
                   (tl rfl (ptr [sl a1.length (a1.map i64), sl a2.length (a2.map i64), (sFc a3)]) (LOp.fap und30 rfl siz22 rfl rfl rfl) <|
                   (tl rfl (sl a1.length (a1.map i64)) (n2 agg22) <|
                   (tm rfl (i64 v6) <|
                   (tl rfl (ptr [i64 e19]) (LOp.le (LOp.ix (f := i64) und22 siz2 rfl rfl rfl rfl he29) ALe.ptr) <|
                   (tl rfl (i64 e19) (n2 agg2) <|
                   (tl rfl (b true) (LOp.eqb (LOp.gtr rfl rfl rfl) hc30) <|
                   (tm rfl (b true) <|
                   (tm rfl (ptr [i64 a0, sl a1.length (a1.map i64), sl a2.length (a2.map i64), (sFc a3)]) <|
                   (tl rfl (ptr [i64 a0, sl a1.length (a1.map i64), sl a2.length (a2.map i64), (sFc a3)]) n4 <|
                   (tl rfl (ptr [sl a2.length (a2.map i64), (sFc a3)]) (LOp.fap und30 rfl siz22 rfl rfl rfl) <|
                   (tl rfl (sl a2.length (a2.map i64)) (n2 agg22) <|
                   (tm rfl (i64 v13) <|
                   (tl rfl (ptr [i64 e20]) (LOp.le (LOp.ix (f := i64) und22 siz2 rfl rfl rfl rfl he31) ALe.ptr) <|
                   (tl rfl (i64 e20) (n2 agg2) <|
                   (tm rfl (ptr [i64 a0, sl a1.length (a1.map i64), sl a2.length (a2.map i64), (sFc a3)]) <|
                   (tl rfl (ptr [i64 a0, sl a1.length (a1.map i64), sl a2.length (a2.map i64), (sFc a3)]) n4 <|
                   (tl rfl (ptr [sl a2.length (a2.map i64), (sFc a3)]) (LOp.fap und30 rfl siz22 rfl rfl rfl) <|
                   (tl rfl (sl a2.length (a2.map i64)) (n2 agg22) <|
                   (tm rfl (i64 v13) <|
                   (tl rfl (i64 x21) (LOp.eqr (LOp.sub rfl rfl rfl) (congrArg (ik .i64) hx32)) <|
                   (tl rfl (ptr [i64 e22]) (LOp.le (LOp.ix (f := i64) und22 siz2 rfl rfl rfl rfl he33) ALe.ptr) <|
                   (tl rfl (i64 e22) (n2 agg2) <|
                   (tl rfl (b true) (LOp.eqb (LOp.leq rfl rfl rfl) hc34) <|
                   (tl rfl (b true) yq <|
                   (tl rfl (b true) yp <|
                   TR.nil))))))))))))))))))))))))))))))))))))))))))) rfl (by kernel_rfl) rfl fills_nil rfl ?_
                  iterate 43 refine ROps.dropS ?_
                  refine ROps.drop0<|zN ?_
                  refine RunC.wl (τ' := [(0, ptr [i64 a0, sl a1.length (a1.map i64), sl a2.length (a2.map i64), (sFc a3)]), (3, i64 (a2.length : Int)), (4, i64 v6), (5, i64 v13), (97, ptr [i64 a0, sl a1.length (a1.map i64), sl a2.length (a2.map i64), (sFc a3)]), (98, ptr [i64 a0, sl a1.length (a1.map i64), sl a2.length (a2.map i64), (sFc a3)]), (99, ptr [sl a1.length (a1.map i64), sl a2.length (a2.map i64), (sFc a3)]), (100, sl a1.length (a1.map i64)), (101, i64 v6), (102, i64 x10), (103, ptr [i64 e11]), (104, i64 e11), (105, i64 (a2.length : Int)), (106, b false), (142, i64 v13), (143, ptr [i64 a0, sl a1.length (a1.map i64), sl a2.length (a2.map i64), (sFc a3)]), (144, ptr [i64 a0, sl a1.length (a1.map i64), sl a2.length (a2.map i64), (sFc a3)]), (145, ptr [sl a1.length (a1.map i64), sl a2.length (a2.map i64), (sFc a3)]), (146, sl a1.length (a1.map i64)), (147, i64 v6), (148, ptr [i64 e19]), (149, i64 e19), (150, b true), (151, b true), (152, ptr [i64 a0, sl a1.length (a1.map i64), sl a2.length (a2.map i64), (sFc a3)]), (153, ptr [i64 a0, sl a1.length (a1.map i64), sl a2.length (a2.map i64), (sFc a3)]), (154, ptr [sl a2.length (a2.map i64), (sFc a3)]), (155, sl a2.length (a2.map i64)), (156, i64 v13), (157, ptr [i64 e20]), (158, i64 e20), (159, ptr [i64 a0, sl a1.length (a1.map i64), sl a2.length (a2.map i64), (sFc a3)]), (160, ptr [i64 a0, sl a1.length (a1.map i64), sl a2.length (a2.map i64), (sFc a3)]), (161, ptr [sl a2.length (a2.map i64), (sFc a3)]), (162, sl a2.length (a2.map i64)), (163, i64 v13), (164, i64 x21), (165, ptr [i64 e22]), (166, i64 e22), (167, b true), (168, b true), (169, b true)]) (Γ' := []) ⟨aR, aR, aR, aR, aR, aR, aR, aR, aR, aR, aR, aR, aR, aR, aR, aR, aR, aR, aR, aR, aR, aR, aR, aR, aR, aR, aR, aR, aR, aR, aR, aR, aR, aR, aR, aR, aR, aR, aR, aR, aR, aR, trivial⟩ trivial<|yT<|zQ<|ya rfl (b false)<|zN ?_
                  refine RunC.ret ?_
                  cases oI h11_
                  have hx12_ := hr11 _ rfl
                  subst hx12_
                  cases oI h8_
                  have hx13_ := hr8 _ rfl
                  subst hx13_
                  have hq := oI h
                  subst q0
                  exact bR rfl
                 ·refine RunC.region_draw (Γ' := []) 43 mixed 
                   (tm rfl (ptr [i64 a0, sl a1.length (a1.map i64), sl a2.length (a2.map i64), (sFc a3)]) <|
                   (tl rfl (ptr [i64 a0, sl a1.length (a1.map i64), sl a2.length (a2.map i64), (sFc a3)]) n4 <|
                   (tl rfl (ptr [sl a2.length (a2.map i64), (sFc a3)]) (LOp.fap und30 rfl siz22 rfl rfl rfl) <|
                   (tl rfl (sl a2.length (a2.map i64)) (n2 agg22) <|
                   (tm rfl (i64 v13) <|
                   (tl rfl (ptr [i64 e16]) (LOp.le (LOp.ix (f := i64) und22 siz2 rfl rfl rfl rfl he25) ALe.ptr) <|
                   (tl rfl (i64 e16) (n2 agg2) <|
                   (tm rfl (ptr [i64 a0, sl a1.length (a1.map i64), sl a2.length (a2.map i64), (sFc a3)]) <|
                   (tl rfl (ptr [i64 a0, sl a1.length (a1.map i64), sl a2.length (a2.map i64), (sFc a3)]) n4 <|
                   (tl rfl (ptr [i64 a0, sl a1.length (a1.map i64), sl a2.length (a2.map i64), (sFc a3)]) (LOp.fap und30 rfl siz2 rfl rfl rfl) <|
                   (tl rfl (i64 a0) (n2 agg2) <|
                   (tl rfl (i64 x17) (LOp.eqr (LOp.sub rfl rfl rfl) (congrArg (ik .i64) hx26)) <|
                   (TR.d (r := b true) (fs := []) rfl rfl (TOp.eqb (yc ent73 rfl rfl (bP (bP bN0)) (K06_ok e16 0 x17 r18 hf27)) hc28) <|
                   (tl rfl (b false) (LOp.eqb (LOp.not rfl rfl) rfl) <|
                   (tm rfl (b false) <|
                   (tm rfl (i64 v13) <|
                   (tm rfl (ptr [i64 a0, sl a1.length (a1.map i64), sl a2.length (a2.map i64), (sFc a3)]) <|
                   (tl rfl (ptr [i64 a0, sl a1.length (a1.map i64), sl a2.length (a2.map i64), (sFc a3)]) n4 <|
                   (tl rfl (ptr [sl a1.length (a1.map i64), sl a2.length (a2.map i64), (sFc a3)]) (LOp.fap und30 rfl siz22 rfl rfl rfl) <|
                   (tl rfl (sl a1.length (a1.map i64)) (n2 agg22) <|
                   (tm rfl (i64 v6) <|
                   (tl rfl (ptr [i64 e19]) (LOp.le (LOp.ix (f := i64) und22 siz2 rfl rfl rfl rfl he29) ALe.ptr) <|
                   (tl rfl (i64 e19) (n2 agg2) <|
                   (tl rfl (b true) (LOp.eqb (LOp.gtr rfl rfl rfl) hc30) <|
                   (tm rfl (b true) <|
                   (tm rfl (ptr [i64 a0, sl a1.length (a1.map i64), sl a2.length (a2.map i64), (sFc a3)]) <|
                   (tl rfl (ptr [i64 a0, sl a1.length (a1.map i64), sl a2.length (a2.map i64), (sFc a3)]) n4 <|
                   (tl rfl (ptr [sl a2.length (a2.map i64), (sFc a3)]) (LOp.fap und30 rfl siz22 rfl rfl rfl) <|
                   (tl rfl (sl a2.length (a2.map i64)) (n2 agg22) <|
                   (tm rfl (i64 v13) <|
                   (tl rfl (ptr [i64 e20]) (LOp.le (LOp.ix (f := i64) und22 siz2 rfl rfl rfl rfl he31) ALe.ptr) <|
                   (tl rfl (i64 e20) (n2 agg2) <|
                   (tm rfl (ptr [i64 a0, sl a1.length (a1.map i64), sl a2.length (a2.map i64), (sFc a3)]) <|
                   (tl rfl (ptr [i64 a0, sl a1.length (a1.map i64), sl a2.length (a2.map i64), (sFc a3)]) n4 <|
                   (tl rfl (ptr [sl a2.length (a2.map i64), (sFc a3)]) (LOp.fap und30 rfl siz22 rfl rfl rfl) <|
                   (tl rfl (sl a2.length (a2.map i64)) (n2 agg22) <|
                   (tm rfl (i64 v13) <|
                   (tl rfl (i64 x21) (LOp.eqr (LOp.sub rfl rfl rfl) (congrArg (ik .i64) hx32)) <|
                   (tl rfl (ptr [i64 e22]) (LOp.le (LOp.ix (f := i64) und22 siz2 rfl rfl rfl rfl he33) ALe.ptr) <|
                   (tl rfl (i64 e22) (n2 agg2) <|
                   (tl rfl (b false) (LOp.eqb (LOp.leq rfl rfl rfl) hc34) <|
                   (tl rfl (b false) yq <|
                   (tl rfl (b false) yp <|
                   TR.nil))))))))))))))))))))))))))))))))))))))))))) rfl (by kernel_rfl) rfl fills_nil rfl ?_
                  iterate 43 refine ROps.dropS ?_
                  refine ROps.drop0<|zN ?_
                  refine RunC.wl (τ' := [(0, ptr [i64 a0, sl a1.length (a1.map i64), sl a2.length (a2.map i64), (sFc a3)]), (3, i64 (a2.length : Int)), (4, i64 v6), (5, i64 v13), (97, ptr [i64 a0, sl a1.length (a1.map i64), sl a2.length (a2.map i64), (sFc a3)]), (98, ptr [i64 a0, sl a1.length (a1.map i64), sl a2.length (a2.map i64), (sFc a3)]), (99, ptr [sl a1.length (a1.map i64), sl a2.length (a2.map i64), (sFc a3)]), (100, sl a1.length (a1.map i64)), (101, i64 v6), (102, i64 x10), (103, ptr [i64 e11]), (104, i64 e11), (105, i64 (a2.length : Int)), (106, b false), (142, i64 v13), (143, ptr [i64 a0, sl a1.length (a1.map i64), sl a2.length (a2.map i64), (sFc a3)]), (144, ptr [i64 a0, sl a1.length (a1.map i64), sl a2.length (a2.map i64), (sFc a3)]), (145, ptr [sl a1.length (a1.map i64), sl a2.length (a2.map i64), (sFc a3)]), (146, sl a1.length (a1.map i64)), (147, i64 v6), (148, ptr [i64 e19]), (149, i64 e19), (150, b true), (151, b true), (152, ptr [i64 a0, sl a1.length (a1.map i64), sl a2.length (a2.map i64), (sFc a3)]), (153, ptr [i64 a0, sl a1.length (a1.map i64), sl a2.length (a2.map i64), (sFc a3)]), (154, ptr [sl a2.length (a2.map i64), (sFc a3)]), (155, sl a2.length (a2.map i64)), (156, i64 v13), (157, ptr [i64 e20]), (158, i64 e20), (159, ptr [i64 a0, sl a1.length (a1.map i64), sl a2.length (a2.map i64), (sFc a3)]), (160, ptr [i64 a0, sl a1.length (a1.map i64), sl a2.length (a2.map i64), (sFc a3)]), (161, ptr [sl a2.length (a2.map i64), (sFc a3)]), (162, sl a2.length (a2.map i64)), (163, i64 v13), (164, i64 x21), (165, ptr [i64 e22]), (166, i64 e22), (167, b false), (168, b false), (169, b false)]) (Γ' := []) ⟨aR, aR, aR, aR, aR, aR, aR, aR, aR, aR, aR, aR, aR, aR, aR, aR, aR, aR, aR, aR, aR, aR, aR, aR, aR, aR, aR, aR, aR, aR, aR, aR, aR, aR, aR, aR, aR, aR, aR, aR, aR, aR, trivial⟩ trivial<|yF<|RunC.skip ?_
                  exact ⟨true, e19, ⟨aR, aR, aR, aR, aR, aR, aR, aR, aR, aR, aR, aR, aR, aR, aR, aR, aR, aR, aR, aR, aR, aR, aR, aR, aR, trivial⟩, trivial, h11_⟩
                ·refine RunC.region_draw (Γ' := []) 43 mixed 
                  (tm rfl (ptr [i64 a0, sl a1.length (a1.map i64), sl a2.length (a2.map i64), (sFc a3)]) <|
                  (tl rfl (ptr [i64 a0, sl a1.length (a1.map i64), sl a2.length (a2.map i64), (sFc a3)]) n4 <|
                  (tl rfl (ptr [sl a2.length (a2.map i64), (sFc a3)]) (LOp.fap und30 rfl siz22 rfl rfl rfl) <|
                  (tl rfl (sl a2.length (a2.map i64)) (n2 agg22) <|
                  (tm rfl (i64 v13) <|
                  (tl rfl (ptr [i64 e16]) (LOp.le (LOp.ix (f := i64) und22 siz2 rfl rfl rfl rfl he25) ALe.ptr) <|
                  (tl rfl (i64 e16) (n2 agg2) <|
                  (tm rfl (ptr [i64 a0, sl a1.length (a1.map i64), sl a2.length (a2.map i64), (sFc a3)]) <|
                  (tl rfl (ptr [i64 a0, sl a1.length (a1.map i64), sl a2.length (a2.map i64), (sFc a3)]) n4 <|
                  (tl rfl (ptr [i64 a0, sl a1.length (a1.map i64), sl a2.length (a2.map i64), (sFc a3)]) (LOp.fap und30 rfl siz2 rfl rfl rfl) <|
                  (tl rfl (i64 a0) (n2 agg2) <|
                  (tl rfl (i64 x17) (LOp.eqr (LOp.sub rfl rfl rfl) (congrArg (ik .i64) hx26)) <|
                  (TR.d (r := b true) (fs := []) rfl rfl (TOp.eqb (yc ent73 rfl rfl (bP (bP bN0)) (K06_ok e16 0 x17 r18 hf27)) hc28) <|
                  (tl rfl (b false) (LOp.eqb (LOp.not rfl rfl) rfl) <|
                  (tm rfl (b false) <|
                  (tm rfl (i64 v13) <|
                  (tm rfl (ptr [i64 a0, sl a1.length (a1.map i64), sl a2.length (a2.map i64), (sFc a3)]) <|
                  (tl rfl (ptr [i64 a0, sl a1.length (a1.map i64), sl a2.length (a2.map i64), (sFc a3)]) n4 <|
                  (tl rfl (ptr [sl a1.length (a1.map i64), sl a2.length (a2.map i64), (sFc a3)]) (LOp.fap und30 rfl siz22 rfl rfl rfl) <|
                  (tl rfl (sl a1.length (a1.map i64)) (n2 agg22) <|
                  (tm rfl (i64 v6) <|
                  (tl rfl (ptr [i64 e19]) (LOp.le (LOp.ix (f := i64) und22 siz2 rfl rfl rfl rfl he29) ALe.ptr) <|
                  (tl rfl (i64 e19) (n2 agg2) <|
                  (tl rfl (b false) (LOp.eqb (LOp.gtr rfl rfl rfl) hc30) <|
                  (tm rfl (b false) <|
                  (ts rfl <|
                  (ts rfl <|
                  (ts rfl <|
                  (ts rfl <|
                  (ts rfl <|
                  (ts rfl <|
                  (ts rfl <|
                  (ts rfl <|
                  (ts rfl <|
                  (ts rfl <|
                  (ts rfl <|
                  (ts rfl <|
                  (ts rfl <|
                  (ts rfl <|
                  (ts rfl <|
                  (ts rfl <|
                  (tl rfl (b false) yp <|
                  (tl rfl (b false) yp <|
                  TR.nil))))))))))))))))))))))))))))))))))))))))))) rfl (by kernel_rfl) rfl fills_nil rfl ?_
                 iterate 43 refine ROps.dropS ?_
                 refine ROps.drop0<|zN ?_
                 refine RunC.wl (τ' := [(0, ptr [i64 a0, sl a1.length (a1.map i64), sl a2.length (a2.map i64), (sFc a3)]), (3, i64 (a2.length : Int)), (4, i64 v6), (5, i64 v13), (97, ptr [i64 a0, sl a1.length (a1.map i64), sl a2.length (a2.map i64), (sFc a3)]), (98, ptr [i64 a0, sl a1.length (a1.map i64), sl a2.length (a2.map i64), (sFc a3)]), (99, ptr [sl a1.length (a1.map i64), sl a2.length (a2.map i64), (sFc a3)]), (100, sl a1.length (a1.map i64)), (101, i64 v6), (102, i64 x10), (103, ptr [i64 e11]), (104, i64 e11), (105, i64 (a2.length : Int)), (106, b false), (142, i64 v13), (143, ptr [i64 a0, sl a1.length (a1.map i64), sl a2.length (a2.map i64), (sFc a3)]), (144, ptr [i64 a0, sl a1.length (a1.map i64), sl a2.length (a2.map i64), (sFc a3)]), (145, ptr [sl a1.length (a1.map i64), sl a2.length (a2.map i64), (sFc a3)]), (146, sl a1.length (a1.map i64)), (147, i64 v6), (148, ptr [i64 e19]), (149, i64 e19), (150, b false), (151, b false), (168, b false), (169, b false)]) (Γ' := []) ⟨aR, aR, aR, aR, aR, aR, aR, aR, aR, aR, aR, aR, aR, aR, aR, aR, aR, aR, aR, aR, aR, aR, aR, aR, aR, aR, trivial⟩ trivial<|yF<|RunC.skip ?_
                 exact ⟨false, e19, ⟨aR, aR, aR, aR, aR, aR, aR, aR, aR, aR, aR, aR, aR, aR, aR, aR, aR, aR, aR, aR, aR, aR, aR, aR, aR, trivial⟩, trivial, h11_⟩
               ·refine RunC.region_draw (Γ' := []) 43 mixed 
                 (tm rfl (ptr [i64 a0, sl a1.length (a1.map i64), sl a2.length (a2.map i64), (sFc a3)]) <|
                 (tl rfl (ptr [i64 a0, sl a1.length (a1.map i64), sl a2.length (a2.map i64), (sFc a3)]) n4 <|
                 (tl rfl (ptr [sl a2.length (a2.map i64), (sFc a3)]) (LOp.fap und30 rfl siz22 rfl rfl rfl) <|
                 (tl rfl (sl a2.length (a2.map i64)) (n2 agg22) <|
                 (tm rfl (i64 v13) <|
                 (tl rfl (ptr [i64 e16]) (LOp.le (LOp.ix (f := i64) und22 siz2 rfl rfl rfl rfl he25) ALe.ptr) <|
                 (tl rfl (i64 e16) (n2 agg2) <|
                 (tm rfl (ptr [i64 a0, sl a1.length (a1.map i64), sl a2.length (a2.map i64), (sFc a3)]) <|
                 (tl rfl (ptr [i64 a0, sl a1.length (a1.map i64), sl a2.length (a2.map i64), (sFc a3)]) n4 <|
                 (tl rfl (ptr [i64 a0, sl a1.length (a1.map i64), sl a2.length (a2.map i64), (sFc a3)]) (LOp.fap und30 rfl siz2 rfl rfl rfl) <|
                 (tl rfl (i64 a0) (n2 agg2) <|
                 (tl rfl (i64 x17) (LOp.eqr (LOp.sub rfl rfl rfl) (congrArg (ik .i64) hx26)) <|
                 (TR.d (r := b false) (fs := []) rfl rfl (TOp.eqb (yc ent73 rfl rfl (bP (bP bN0)) (K06_ok e16 0 x17 r18 hf27)) hc28) <|
                 (tl rfl (b true) (LOp.eqb (LOp.not rfl rfl) rfl) <|
                 (tm rfl (b true) <|
                 (ts rfl <|
                 (ts rfl <|
                 (ts rfl <|
                 (ts rfl <|
                 (ts rfl <|
                 (ts rfl <|
                 (ts rfl <|
                 (ts rfl <|
                 (ts rfl <|
                 (ts rfl <|
                 (ts rfl <|
                 (ts rfl <|
                 (ts rfl <|
                 (ts rfl <|
                 (ts rfl <|
                 (ts rfl <|
                 (ts rfl <|
                 (ts rfl <|
                 (ts rfl <|
                 (ts rfl <|
                 (ts rfl <|
                 (ts rfl <|
                 (ts rfl <|
                 (ts rfl <|
                 (ts rfl <|
                 (ts rfl <|
                 (ts rfl <|
                 (tl rfl (b true) yq <|
                 TR.nil))))))))))))))))))))))))))))))))))))))))))) rfl (by kernel_rfl) rfl fills_nil rfl ?_
                iterate 43 refine ROps.dropS ?_
                refine ROps.drop0<|zN ?_
                refine RunC.wl (τ' := [(0, ptr [i64 a0, sl a1.length (a1.map i64), sl a2.length (a2.map i64), (sFc a3)]), (3, i64 (a2.length : Int)), (4, i64 v6), (5, i64 v13), (97, ptr [i64 a0, sl a1.length (a1.map i64), sl a2.length (a2.map i64), (sFc a3)]), (98, ptr [i64 a0, sl a1.length (a1.map i64), sl a2.length (a2.map i64), (sFc a3)]), (99, ptr [sl a1.length (a1.map i64), sl a2.length (a2.map i64), (sFc a3)]), (100, sl a1.length (a1.map i64)), (101, i64 v6), (102, i64 x10), (103, ptr [i64 e11]), (104, i64 e11), (105, i64 (a2.length : Int)), (106, b false), (169, b true)]) (Γ' := []) ⟨aR, aR, aR, aR, aR, aR, aR, aR, aR, aR, aR, aR, aR, aR, aR, trivial⟩ trivial<|yT<|zQ<|ya rfl (b false)<|zN ?_
                refine RunC.ret ?_
                cases oI h11_
                have hx14_ := hr11 _ rfl
                subst hx14_
                cases oI h8_
                have hx15_ := hr8 _ rfl
                subst hx15_
                have hq := oI h
                subst q0
                exact bR rfl
              ·rintro τ16 Γ16 ⟨w23, v24, hw16, hd16, h11_⟩
               refine RunC.wl hw16 hd16 ?_
               unfold K09_k5 at h11_
               obtain ⟨x25, hx35, h11_⟩ := oL h11_
               refine yW<|ym rfl (i64 v13)<|yl rfl (i64 x25) (LOp.eqr (LOp.add rfl rfl rfl) (congrArg (ik .i64) hx35))<|ya rfl (i64 x25)<|zN ?_
               cases oI h11_
               exact ⟨_, rfl, ⟨aR, aR, aR, aR, aR, aR, aR, aR, aR, aR, aR, aR, aR, aR, trivial⟩, trivial⟩
             ·refine yW<|ym rfl (i64 v13)<|ym rfl (ptr [i64 a0, sl a1.length (a1.map i64), sl a2.length (a2.map i64), (sFc a3)])<|yl rfl (ptr [i64 a0, sl a1.length (a1.map i64), sl a2.length (a2.map i64), (sFc a3)]) n4<|yl rfl (ptr [sl a1.length (a1.map i64), sl a2.length (a2.map i64), (sFc a3)]) (LOp.fap und30 rfl siz22 rfl rfl rfl)<|yl rfl (sl a1.length (a1.map i64)) (n2 agg22)<|ym rfl (i64 v6)<|yl rfl (i64 x14) (LOp.eqr (LOp.add rfl rfl rfl) (congrArg (ik .i64) hx22))<|yl rfl (ptr [i64 e15]) (LOp.le (LOp.ix (f := i64) und22 siz2 rfl rfl rfl rfl he23) ALe.ptr)<|yl rfl (i64 e15) (n2 agg2)<|yl rfl (b false) (LOp.eqb (LOp.lss rfl rfl rfl) hc24)<|zN ?_
              refine yF<|RunC.exit ?_
              cases oI h11_
              have hx := ho11 _ rfl
              exact ⟨⟨aR, aR, aR, aR, aR, aR, aR, aR, aR, aR, aR, aR, aR, trivial⟩, trivial, hx⟩
            ·rintro τ17 Γ17 ⟨hw17, hd17, rfl⟩
             refine RunC.wl hw17 hd17 ?_
             replace h8_ : K09_k6 v6 = some y8_ := h8_
             unfold K09_k6 at h8_
             obtain ⟨x26, hx36, h8_⟩ := oL h8_
             refine yW<|ym rfl (i64 v6)<|yl rfl (i64 x26) (LOp.eqr (LOp.add rfl rfl rfl) (congrArg (ik .i64) hx36))<|ya rfl (i64 x26)<|zN ?_
             cases oI h8_
             exact ⟨_, rfl, ⟨aR, aR, aR, trivial⟩, trivial⟩
         ·refine yW<|ym rfl (i64 v6)<|ym rfl (ptr [i64 a0, sl a1.length (a1.map i64), sl a2.length (a2.map i64), (sFc a3)])<|yl rfl (ptr [i64 a0, sl a1.length (a1.map i64), sl a2.length (a2.map i64), (sFc a3)]) n4<|yl rfl (ptr [i64 a0, sl a1.length (a1.map i64), sl a2.length (a2.map i64), (sFc a3)]) (LOp.fap und30 rfl siz2 rfl rfl rfl)<|yl rfl (i64 a0) (n2 agg2)<|yl rfl (b false) (LOp.eqb (LOp.lss rfl rfl rfl) hc13)<|zN ?_
          refine yF<|RunC.exit ?_
          cases oI h8_
          have hx := ho8 _ rfl
          exact ⟨trivial, trivial, hx⟩
        ·rintro τ18 Γ18 ⟨hw18, hd18, rfl⟩
         refine RunC.wl hw18 hd18 ?_
         replace h : K09_k7 = some q0 := h
         unfold K09_k7 at h
         refine zQ<|ya rfl (b true)<|zN ?_
         refine RunC.ret ?_
         have hq := oI h
         subst q0
         exact bR rfl
     ·refine RunC.region_draw (Γ' := []) 40 mixed 
       (tm rfl (ptr [i64 a0, sl a1.length (a1.map i64), sl a2.length (a2.map i64), (sFc a3)]) <|
       (tl rfl (ptr [i64 a0, sl a1.length (a1.map i64), sl a2.length (a2.map i64), (sFc a3)]) n4 <|
       (tl rfl (ptr [i64 a0, sl a1.length (a1.map i64), sl a2.length (a2.map i64), (sFc a3)]) (LOp.fap und30 rfl siz2 rfl rfl rfl) <|
       (tl rfl (i64 a0) (n2 agg2) <|
       (TR.d (r := b true) (fs := []) rfl rfl (TOp.eqb (yc ent73 rfl rfl (bP (bP bN0)) (K06_ok a0 1 32 r1 hf1)) hc2) <|
       (tl rfl (b false) (LOp.eqb (LOp.not rfl rfl) rfl) <|
       (tm rfl (b false) <|
       (tm rfl (ptr [i64 a0, sl a1.length (a1.map i64), sl a2.length (a2.map i64), (sFc a3)]) <|
       (tl rfl (ptr [i64 a0, sl a1.length (a1.map i64), sl a2.length (a2.map i64), (sFc a3)]) n4 <|
       (tl rfl (ptr [sl a1.length (a1.map i64), sl a2.length (a2.map i64), (sFc a3)]) (LOp.fap und30 rfl siz22 rfl rfl rfl) <|
       (tl rfl (sl a1.length (a1.map i64)) (n2 agg22) <|
       (tl rfl (i64 (a1.length : Int)) (LOp.len_sl und22 rfl rfl) <|
       (tm rfl (ptr [i64 a0, sl a1.length (a1.map i64), sl a2.length (a2.map i64), (sFc a3)]) <|
       (tl rfl (ptr [i64 a0, sl a1.length (a1.map i64), sl a2.length (a2.map i64), (sFc a3)]) n4 <|
       (tl rfl (ptr [i64 a0, sl a1.length (a1.map i64), sl a2.length (a2.map i64), (sFc a3)]) (LOp.fap und30 rfl siz2 rfl rfl rfl) <|
       (tl rfl (i64 a0) (n2 agg2) <|
       (tl rfl (i64 x2) (LOp.eqr (LOp.add rfl rfl rfl) (congrArg (ik .i64) hx3)) <|
       (tl rfl (b false) (LOp.eqb (LOp.neq rfl rfl rfl) hc4) <|
       (tl rfl (b false) yp <|
       (tm rfl (b false) <|
       (tm rfl (i64 (a2.length : Int)) <|
       (tl rfl (b false) (LOp.eqb (LOp.gtr rfl rfl rfl) hc5) <|
       (tl rfl (b false) yp <|
       (tm rfl (b false) <|
       (tm rfl (ptr [i64 a0, sl a1.length (a1.map i64), sl a2.length (a2.map i64), (sFc a3)]) <|
       (tl rfl (ptr [i64 a0, sl a1.length (a1.map i64), sl a2.length (a2.map i64), (sFc a3)]) n4 <|
       (tl rfl (ptr [(sFc a3)]) (LOp.fap und30 rfl siz23 rfl rfl rfl) <|
       (tl rfl (sFc a3) (n2 agg23) <|
       (tl rfl (i64 (a3.length : Int)) (LOp.len_sl und23 rfl rfl) <|
       (tm rfl (i64 (a2.length : Int)) <|
       (tl rfl (b false) (LOp.eqb (LOp.neq rfl rfl rfl) hc6) <|
       (tl rfl (b false) yp <|
       (tm rfl (b false) <|
       (tm rfl (ptr [i64 a0, sl a1.length (a1.map i64), sl a2.length (a2.map i64), (sFc a3)]) <|
       (tl rfl (ptr [i64 a0, sl a1.length (a1.map i64), sl a2.length (a2.map i64), (sFc a3)]) n4 <|
       (tl rfl (ptr [(sFc a3)]) (LOp.fap und30 rfl siz23 rfl rfl rfl) <|
       (tl rfl (sFc a3) (n2 agg23) <|
       (TR.d (r := b false) (fs := []) rfl rfl (TOp.eqb (yc ent77 rfl rfl (bS bN) (K08_ok a3 r3 hf7)) hc8) <|
       (tl rfl (b true) (LOp.eqb (LOp.not rfl rfl) rfl) <|
       (tl rfl (b true) yp <|
       TR.nil)))))))))))))))))))))))))))))))))))))))) rfl (by kernel_rfl) rfl fills_nil rfl ?_
      iterate 40 refine ROps.dropS ?_
      refine ROps.drop0<|zN ?_
      refine yT<|zQ<|ya rfl (b false)<|zN ?_
      refine RunC.ret ?_
      have hq := oI h
      subst q0
      exact bR rfl
 ·refine RunC.region_draw (Γ' := []) 40 mixed 
   (tm rfl (ptr [i64 a0, sl a1.length (a1.map i64), sl a2.length (a2.map i64), (sFc a3)]) <|
   (tl rfl (ptr [i64 a0, sl a1.length (a1.map i64), sl a2.length (a2.map i64), (sFc a3)]) n4 <|
   (tl rfl (ptr [i64 a0, sl a1.length (a1.map i64), sl a2.length (a2.map i64), (sFc a3)]) (LOp.fap und30 rfl siz2 rfl rfl rfl) <|
   (tl rfl (i64 a0) (n2 agg2) <|
   (TR.d (r := b false) (fs := []) rfl rfl (TOp.eqb (yc ent73 rfl rfl (bP (bP bN0)) (K06_ok a0 1 32 r1 hf1)) hc2) <|
   (tl rfl (b true) (LOp.eqb (LOp.not rfl rfl) rfl) <|
   (tm rfl (b true) <|
   (ts rfl <|
   (ts rfl <|
   (ts rfl <|
   (ts rfl <|
   (ts rfl <|
   (ts rfl <|
   (ts rfl <|
   (ts rfl <|
   (ts rfl <|
   (ts rfl <|
   (ts rfl <|
   (tl rfl (b true) yq <|
   (tm rfl (b true) <|
   (ts rfl <|
   (ts rfl <|
   (tl rfl (b true) yq <|
   (tm rfl (b true) <|
   (ts rfl <|
   (ts rfl <|
   (ts rfl <|
   (ts rfl <|
   (ts rfl <|
   (ts rfl <|
   (ts rfl <|
   (tl rfl (b true) yq <|
   (tm rfl (b true) <|
   (ts rfl <|
   (ts rfl <|
   (ts rfl <|
   (ts rfl <|
   (ts rfl <|
   (ts rfl <|
   (tl rfl (b true) yq <|
   TR.nil)))))))))))))))))))))))))))))))))))))))) rfl (by kernel_rfl) rfl fills_nil rfl ?_
  iterate 40 refine ROps.dropS ?_
  refine ROps.drop0<|zN ?_
  refine yT<|zQ<|ya rfl (b false)<|zN ?_
  refine RunC.ret ?_
  have hq := oI h
  subst q0
  exact bR rfl
def K0a (a0 : Int) (a1 : List Int) (a2 : List Int) (a3 : List F) (a4 : List F) : Option (Bool) :=
 obind (K09 a0 a1 a2 a3) fun (r1 : Bool) =>
 bsel r1 (
  bsel (decide ((a4.length : Int) = a0)) (
   obind (K08 a4) fun (r2 : Bool) =>
   some r2) (
   some false)) (
  some false)
theorem K0a_ok (a0 : Int) (a1 : List Int) (a2 : List Int) (a3 : List F) (a4 : List F) (q0 : Bool) (h : K0a a0 a1 a2 a3 a4 = some q0) : Ev Try.prog 71 [ptr [i64 a0, sl a1.length (a1.map i64), sl a2.length (a2.map i64), (sFc a3)], (sFc a4)] [] (b q0) [] := by
 refine yE Try.func71 0 41 0 ([(0, ptr [i64 a0, sl a1.length (a1.map i64), sl a2.length (a2.map i64), (sFc a3)]), (1, (sFc a4))]) [] rfl ?_
 unfold K0a at h
 refine zQ<|ya rfl (b false)<|zN ?_
 refine yS ?_
 obtain ⟨r1, hf1, h⟩ := oS h
 rcases oB h with ⟨hc2, h⟩ | ⟨hc2, h⟩
 ·rcases oB h with ⟨hc3, h⟩ | ⟨hc3, h⟩
  ·obtain ⟨r2, hf4, h⟩ := oS h
   refine yW<|ym rfl (ptr [i64 a0, sl a1.length (a1.map i64), sl a2.length (a2.map i64), (sFc a3)])<|yd rfl (b true) (TOp.eqb (TOp.callB (CallAs.func ent111 rfl rfl) (Bors.cons (Bor.ptr (bP (bS (bS (bS bN))))) bN) rfl rfl (K09_ok a0 a1 a2 a3 r1 hf1)) hc2)<|ym rfl (b true)<|ym rfl (sFc a4)<|yl rfl (i64 (a4.length : Int)) (LOp.len_sl und23 rfl rfl)<|ym rfl (ptr [i64 a0, sl a1.length (a1.map i64), sl a2.length (a2.map i64), (sFc a3)])<|yl rfl (ptr [i64 a0, sl a1.length (a1.map i64), sl a2.length (a2.map i64), (sFc a3)]) n4<|yl rfl (ptr [i64 a0, sl a1.length (a1.map i64), sl a2.length (a2.map i64), (sFc a3)]) (LOp.fap und30 rfl siz2 rfl rfl rfl)<|yl rfl (i64 a0) (n2 agg2)<|yl rfl (b true) (LOp.eqb (LOp.eql rfl rfl rfl) hc3)<|yl rfl (b true) yq<|ym rfl (b true)<|ym rfl (sFc a4)<|yd rfl (b r2) (yc ent77 rfl rfl (bS bN) (K08_ok a4 r2 hf4))<|yl rfl (b r2) yq<|ya rfl (b r2)<|zN ?_
   refine RunC.ret ?_
   have hq := oI h
   subst q0
   exact bR rfl
  ·refine yW<|ym rfl (ptr [i64 a0, sl a1.length (a1.map i64), sl a2.length (a2.map i64), (sFc a3)])<|yd rfl (b true) (TOp.eqb (TOp.callB (CallAs.func ent111 rfl rfl) (Bors.cons (Bor.ptr (bP (bS (bS (bS bN))))) bN) rfl rfl (K09_ok a0 a1 a2 a3 r1 hf1)) hc2)<|ym rfl (b true)<|ym rfl (sFc a4)<|yl rfl (i64 (a4.length : Int)) (LOp.len_sl und23 rfl rfl)<|ym rfl (ptr [i64 a0, sl a1.length (a1.map i64), sl a2.length (a2.map i64), (sFc a3)])<|yl rfl (ptr [i64 a0, sl a1.length (a1.map i64), sl a2.length (a2.map i64), (sFc a3)]) n4<|yl rfl (ptr [i64 a0, sl a1.length (a1.map i64), sl a2.length (a2.map i64), (sFc a3)]) (LOp.fap und30 rfl siz2 rfl rfl rfl)<|yl rfl (i64 a0) (n2 agg2)<|yl rfl (b false) (LOp.eqb (LOp.eql rfl rfl rfl) hc3)<|yl rfl (b false) yq<|ym rfl (b false)<|yR rfl<|yR rfl<|yl rfl (b false) yp<|ya rfl (b false)<|zN ?_
   refine RunC.ret ?_
   have hq := oI h
   subst q0
   exact bR rfl
 ·refine yW<|ym rfl (ptr [i64 a0, sl a1.length (a1.map i64), sl a2.length (a2.map i64), (sFc a3)])<|yd rfl (b false) (TOp.eqb (TOp.callB (CallAs.func ent111 rfl rfl) (Bors.cons (Bor.ptr (bP (bS (bS (bS bN))))) bN) rfl rfl (K09_ok a0 a1 a2 a3 r1 hf1)) hc2)<|ym rfl (b false)<|yR rfl<|yR rfl<|yR rfl<|yR rfl<|yR rfl<|yR rfl<|yR rfl<|yl rfl (b false) yp<|ym rfl (b false)<|yR rfl<|yR rfl<|yl rfl (b false) yp<|ya rfl (b false)<|zN ?_
  refine RunC.ret ?_
  have hq := oI h
  subst q0
  exact bR rfl
def K0b (a0 : F) : Option (Bool) :=
 obind (K07 a0) fun (r1 : Bool) =>
 bsel r1 (
  some (fle .f32 (some 0) a0)) (
  some false)
theorem K0b_ok (a0 : F) (q0 : Bool) (h : K0b a0 = some q0) : Ev Try.prog 72 [f32 a0] [] (b q0) [] := by
 refine yE Try.func72 0 19 0 [(0, f32 a0)] [] rfl ?_
 unfold K0b at h
 refine zQ<|ya rfl (b false)<|zN ?_
 refine yS ?_
 obtain ⟨r1, hf1, h⟩ := oS h
 rcases oB h with ⟨hc2, h⟩ | ⟨hc2, h⟩
 ·refine yW<|ym rfl (f32 a0)<|yd rfl (b true) (TOp.eqb (yc ent78 rfl rfl bN0 (K07_ok a0 r1 hf1)) hc2)<|ym rfl (b true)<|ym rfl (f32 a0)<|yl rfl (b (fle .f32 (some 0) a0)) (LOp.fge rfl (OpF.tmp rfl) (OpF.const rfl (by kernel_rfl) (by kernel_rfl)))<|yl rfl (b (fle .f32 (some 0) a0)) yq<|ya rfl (b (fle .f32 (some 0) a0))<|zN ?_
  refine RunC.ret ?_
  have hq := oI h
  subst q0
  exact bR rfl
 ·refine yW<|ym rfl (f32 a0)<|yd rfl (b false) (TOp.eqb (yc ent78 rfl rfl bN0 (K07_ok a0 r1 hf1)) hc2)<|ym rfl (b false)<|yR rfl<|yR rfl<|yl rfl (b false) yp<|ya rfl (b false)<|zN ?_
  refine RunC.ret ?_
  have hq := oI h
  subst q0
  exact bR rfl
def K0c (a0 : Int) : Option (Int × (List Bool) × (List F)) :=
 olet (IntKind.i64.wrap (a0 * a0)) fun (x1 : Int) =>
 need (mkok 1 x1) <|
 olet (IntKind.i64.wrap (a0 * a0)) fun (x2 : Int) =>
 need (mkok 4 x2) <|
 some (a0, (List.replicate x1.toNat false), (List.replicate x2.toNat (some 0)))
theorem K0c_ok (a0 : Int) (q0 : Int) (q1 : List Bool) (q2 : List F) (h : K0c a0 = some (q0, q1, q2)) : Ev Try.prog 97 [i64 a0] [] (agg [i64 q0, oref 0 0 0 q1.length, oref 1 0 0 q2.length]) [⟨0, some (q1.map b)⟩, oF 0 q2] := by
 refine yE Try.func97 3 27 0 [(0, i64 a0)] [o0, o0, o0] rfl ?_
 unfold K0c at h
 refine zQ<|ye rfl (optr 0 1 0) ([⟨1, some [i64 0, nilsl, nilsl]⟩, o0, o0]) (TOp.alloc_o (g := o0) 0 rfl zer91 zok91 rfl)<|zN ?_
 refine yS ?_
 obtain ⟨x1, hx1, h⟩ := oL h
 obtain ⟨hm2, h⟩ := need_some h
 obtain ⟨x2, hx3, h⟩ := oL h
 obtain ⟨hm4, h⟩ := need_some h
 refine RunC.region_draw (Γ' := [⟨1, some [i64 0, nilsl, nilsl]⟩, ⟨1, some ((List.replicate x1.toNat false).map b)⟩, ⟨1, some ((List.replicate x2.toNat (some 0)).map f32)⟩]) 10 mixed 
  (tm rfl (i64 a0) <|
  (tm rfl (i64 a0) <|
  (tm rfl (i64 a0) <|
  (tl rfl (i64 x1) (LOp.eqr (LOp.mul rfl rfl rfl) (congrArg (ik .i64) hx1)) <|
  (TR.d (r := oref 1 1 0 x1.toNat) (fs := [(1, ((List.replicate x1.toNat false).map b))]) rfl rfl (TOp.mkS (g := o0) (t := 89) (e := 4) (by_ := 1) (f := b) (zv := false) 1 rfl und89 tin4 rfl siz4 zer4 rfl zel4 rfl rfl rfl hm2) <|
  (tm rfl (i64 a0) <|
  (tm rfl (i64 a0) <|
  (tl rfl (i64 x2) (LOp.eqr (LOp.mul rfl rfl rfl) (congrArg (ik .i64) hx3)) <|
  (TR.d (r := oref 2 1 0 x2.toNat) (fs := [(2, ((List.replicate x2.toNat (some 0)).map f32))]) rfl rfl (TOp.mkS (g := o0) (t := 23) (e := 26) (by_ := 4) (f := f32) (zv := some 0) 2 rfl und23 tin26 rfl siz26 zer26 rfl zel26 rfl rfl rfl hm4) <|
  (tl rfl (agg [i64 a0, oref 1 1 0 x1.toNat, oref 2 1 0 x2.toNat]) (LOp.build (qs := [(0, [i64 a0]), (1, [oref 1 1 0 x1.toNat]), (2, [oref 2 1 0 x2.toNat])]) zer91 zok91 und91 plc91 rfl ⟨rfl, ⟨_, ALe.refl _, rfl⟩, ⟨rfl, ⟨_, ALe.refl _, rfl⟩, ⟨rfl, ⟨_, ALe.refl _, rfl⟩, trivial⟩⟩⟩ rfl) <|
  TR.nil)))))))))) rfl (by kernel_rfl) rfl (fills_of (by show List.Nodup [1, 2]; decide) ⟨⟨_, rfl⟩, ⟨_, rfl⟩, trivial⟩) rfl ?_
 iterate 10 refine ROps.dropS ?_
 refine ROps.drop0<|ys (agg [i64 a0, oref 1 1 0 x1.toNat, oref 2 1 0 x2.toNat]) [i64 a0, oref 1 1 0 x1.toNat, oref 2 1 0 x2.toNat] ([⟨1, some [i64 a0, oref 1 1 0 x1.toNat, oref 2 1 0 x2.toNat]⟩, ⟨1, some ((List.replicate x1.toNat false).map b)⟩, ⟨1, some ((List.replicate x2.toNat (some 0)).map f32)⟩]) siz91<|zN ?_
 refine RunC.ret ?_
 have hq := oI h
 obtain ⟨hq0, hq⟩ := Prod.mk.inj hq
 obtain ⟨hq1, hq⟩ := Prod.mk.inj hq
 subst q0
 subst q1
 subst q2
 exact yB (agg [i64 a0, oref 1 1 0 ((List.replicate x1.toNat false).length), oref 2 1 0 ((List.replicate x2.toNat (some 0)).length)]) [(1, 1), (2, 1)] (Res.eq (Res.one rfl (RV.cell agg91 siz91 rfl rfl rfl rfl)) (by first | rfl | (rw [(show (List.replicate x1.toNat false).length = x1.toNat from by simp), (show (List.replicate x2.toNat (some 0)).length = x2.toNat from by simp)] <;> rfl))) (SelL.arr0 (f := b) (fun _ => rfl) rfl (sA rfl trivial))
def K0d_b2 (a0 : Int) (a1 : List Int) (a2 : List Int) (a3 : List F) (v8 : Int) (L10 : List Bool) (L12 : List F) (v14 : Int) : Option (LR ((List Bool) × (List F) × Int) ((List Bool) × (List F)) (Int × (List Bool) × (List F))) :=
 olet (IntKind.i64.wrap (v8 + 1)) fun (x15 : Int) =>
 obind (at? a1 x15) fun (e16 : Int) =>
 bsel (decide (v14 < e16)) (
  olet (IntKind.i64.wrap (v8 * a0)) fun (x17 : Int) =>
  obind (at? a2 v14) fun (e18 : Int) =>
  olet (IntKind.i64.wrap (x17 + e18)) fun (x19 : Int) =>
  obind (setAt? L10 x19 true) fun (L20 : List Bool) =>
  olet (IntKind.i64.wrap (v8 * a0)) fun (x21 : Int) =>
  obind (at? a2 v14) fun (e22 : Int) =>
  olet (IntKind.i64.wrap (x21 + e22)) fun (x23 : Int) =>
  obind (at? a3 v14) fun (e24 : F) =>
  obind (setAt? L12 x23 e24) fun (L25 : List F) =>
  olet (IntKind.i64.wrap (v14 + 1)) fun (x26 : Int) =>
  some (LR.next (L20, L25, x26))) (
  some (LR.out (L10, L12)))
def K0d_s2 (a0 : Int) (a1 : List Int) (a2 : List Int) (a3 : List F) (v8 : Int) : ((List Bool) × (List F) × Int) → Option (LR ((List Bool) × (List F) × Int) ((List Bool) × (List F)) (Int × (List Bool) × (List F))) := fun s => K0d_b2 a0 a1 a2 a3 v8 s.1 s.2.1 s.2.2
def K0d_k2 (v8 : Int) (L27 : List Bool) (L29 : List F) : Option (LR ((List Bool) × (List F) × Int) ((List Bool) × (List F)) (Int × (List Bool) × (List F))) :=
 olet (IntKind.i64.wrap (v8 + 1)) fun (x31 : Int) =>
 some (LR.next (L27, L29, x31))
def K0d_b3 (a0 : Int) (a1 : List Int) (a2 : List Int) (a3 : List F) (L4 : List Bool) (L6 : List F) (v8 : Int) : Option (LR ((List Bool) × (List F) × Int) ((List Bool) × (List F)) (Int × (List Bool) × (List F))) :=
 bsel (decide (v8 < a0)) (
  obind (at? a1 v8) fun (e9 : Int) =>
  obind (loopM (K0d_s2 a0 a1 a2 a3 v8) (L4, L6, e9)) fun z => osum z (fun e => K0d_k2 v8 e.1 e.2) (fun r => some (LR.ret r))) (
  some (LR.out (L4, L6)))
def K0d_s3 (a0 : Int) (a1 : List Int) (a2 : List Int) (a3 : List F) : ((List Bool) × (List F) × Int) → Option (LR ((List Bool) × (List F) × Int) ((List Bool) × (List F)) (Int × (List Bool) × (List F))) := fun s => K0d_b3 a0 a1 a2 a3 s.1 s.2.1 s.2.2
def K0d_k3 (r1 : Int) (L32 : List Bool) (L34 : List F) : Option (Int × (List Bool) × (List F)) :=
 some (r1, L32, L34)
def K0d (a0 : Int) (a1 : List Int) (a2 : List Int) (a3 : List F) : Option (Int × (List Bool) × (List F)) :=
 obind3 (K0c a0) fun (r1 : Int) (r2 : List Bool) (r3 : List F) =>
 obind (loopM (K0d_s3 a0 a1 a2 a3) (r2, r3, 0)) fun z => osum z (fun e => K0d_k3 r1 e.1 e.2) (fun r => some r)
theorem K0d_ok (a0 : Int) (a1 : List Int) (a2 : List Int) (a3 : List F) (q0 : Int) (q1 : List Bool) (q2 : List F) (h : K0d a0 a1 a2 a3 = some (q0, q1, q2)) : Ev Try.prog 74 [ptr [i64 a0, sl a1.length (a1.map i64), sl a2.length (a2.map i64), (sFc a3)]] [] (agg [i64 q0, oref 0 0 0 q1.length, oref 1 0 0 q2.length]) [⟨0, some (q1.map b)⟩, oF 0 q2] := by
 refine yE Try.func74 4 161 0 ([(0, ptr [i64 a0, sl a1.length (a1.map i64), sl a2.length (a2.map i64), (sFc a3)])]) [o0, o0, o0, o0] rfl ?_
 unfold K0d at h
 refine zQ<|ye rfl (optr 0 1 0) ([⟨1, some [i64 0, nilsl, nilsl]⟩, o0, o0, o0]) (TOp.alloc_o (g := o0) 0 rfl zer91 zok91 rfl)<|zN ?_
 refine yS ?_
 obtain ⟨r1, r2, r3, hf1, h⟩ := obind3_some h
 refine yW<|ym rfl (ptr [i64 a0, sl a1.length (a1.map i64), sl a2.length (a2.map i64), (sFc a3)])<|yl rfl (ptr [i64 a0, sl a1.length (a1.map i64), sl a2.length (a2.map i64), (sFc a3)]) n4<|yl rfl (ptr [i64 a0, sl a1.length (a1.map i64), sl a2.length (a2.map i64), (sFc a3)]) (LOp.fap und30 rfl siz2 rfl rfl rfl)<|yl rfl (i64 a0) (n2 agg2)<|ye rfl (agg [i64 r1, oref 1 1 0 r2.length, oref 2 1 0 r3.length]) ([⟨1, some [i64 0, nilsl, nilsl]⟩, ⟨1, some (r2.map b)⟩, oF 1 r3, o0]) (TOp.callBN (ls := [(r2.map b), (r3.map f32)]) [1, 2] (CallAs.func ent97 rfl rfl) bN0 rfl (K0c_ok a0 r1 r2 r3 hf1) (and_all (lts0_map (f := b) (fun _ => rfl) _) (and_all (lts0_map (f := f32) (fun _ => rfl) _) rfl)) (and_all (noss_map (f := b) (fun _ => rfl) _) (and_all (noss_map (f := f32) (fun _ => rfl) _) rfl)) rfl (by decide) (ns_of ⟨⟨_, rfl⟩, ⟨_, rfl⟩, trivial⟩))<|ye rfl (optr 3 1 0) ([⟨1, some [i64 0, nilsl, nilsl]⟩, ⟨1, some (r2.map b)⟩, oF 1 r3, ⟨1, some [i64 0, nilsl, nilsl]⟩]) (TOp.alloc_o (g := o0) 3 rfl zer91 zok91 rfl)<|ys (agg [i64 r1, oref 1 1 0 r2.length, oref 2 1 0 r3.length]) [i64 r1, oref 1 1 0 r2.length, oref 2 1 0 r3.length] ([⟨1, some [i64 0, nilsl, nilsl]⟩, ⟨1, some (r2.map b)⟩, oF 1 r3, ⟨1, some [i64 r1, oref 1 1 0 r2.length, oref 2 1 0 r3.length]⟩]) siz91<|zN ?_
 refine yS<|zQ<|ya rfl (i64 0)<|zN ?_
 obtain ⟨z4, hz_4, h⟩ := oS h
 refine RunC.cutN (fun τ Γ => ∃ (L32 : List Bool) (L34 : List F), L32.length = r2.length ∧ L34.length = r3.length ∧ WeakLe τ [(2, optr 0 1 0), (3, optr 3 1 0)] ∧ DeadLe Γ [⟨1, some [i64 0, nilsl, nilsl]⟩, ⟨1, some (L32.map b)⟩, oF 1 L34, ⟨1, some [i64 r1, oref 1 1 0 r2.length, oref 2 1 0 r3.length]⟩] ∧ z4 = .inl (L32, L34)) ?_ ?_
 ·refine RunC.block (RunC.loop (RunL.loopM (x := z4) (K0d_s3 a0 a1 a2 a3) (fun (s : (List Bool) × (List F) × Int) τ Γ => s.1.length = r2.length ∧ s.2.1.length = r3.length ∧ WeakLe τ [(0, ptr [i64 a0, sl a1.length (a1.map i64), sl a2.length (a2.map i64), (sFc a3)]), (2, optr 0 1 0), (3, optr 3 1 0), (4, i64 s.2.2)] ∧ DeadLe Γ [⟨1, some [i64 0, nilsl, nilsl]⟩, ⟨1, some (s.1.map b)⟩, ⟨1, some (s.2.1.map f32)⟩, ⟨1, some [i64 r1, oref 1 1 0 r2.length, oref 2 1 0 r3.length]⟩]) ?_ _ _ _ hz_4 ⟨rfl, rfl, ⟨aR, aR, aR, aR, trivial⟩, ⟨⟨rfl, .inr rfl⟩, ⟨rfl, .inr rfl⟩, ⟨rfl, .inr rfl⟩, ⟨rfl, .inr rfl⟩, trivial⟩⟩))
  rintro ⟨L4, L6, v8⟩ τ4 Γ4 y4_ ⟨hl5, hl7, hw4, hd4⟩ h4_ ho4 hr4
  refine RunC.wl (τ' := [(0, ptr [i64 a0, sl a1.length (a1.map i64), sl a2.length (a2.map i64), (sFc a3)]), (2, optr 0 1 0), (3, optr 3 1 0), (4, i64 v8)]) (Γ' := [⟨1, some [i64 0, nilsl, nilsl]⟩, ⟨1, some (L4.map b)⟩, oF 1 L6, ⟨1, some [i64 r1, oref 1 1 0 r2.length, oref 2 1 0 r3.length]⟩]) hw4 hd4 ?_
  replace hl5 : L4.length = r2.length := hl5
  replace hl7 : L6.length = r3.length := hl7
  replace h4_ : K0d_b3 a0 a1 a2 a3 L4 L6 v8 = some y4_ := h4_
  unfold K0d_b3 at h4_
  refine yS<|yS ?_
  rcases oB h4_ with ⟨hc2, h4_⟩ | ⟨hc2, h4_⟩
  ·refine yW<|ym rfl (i64 v8)<|ym rfl (ptr [i64 a0, sl a1.length (a1.map i64), sl a2.length (a2.map i64), (sFc a3)])<|yl rfl (ptr [i64 a0, sl a1.length (a1.map i64), sl a2.length (a2.map i64), (sFc a3)]) n4<|yl rfl (ptr [i64 a0, sl a1.length (a1.map i64), sl a2.length (a2.map i64), (sFc a3)]) (LOp.fap und30 rfl siz2 rfl rfl rfl)<|yl rfl (i64 a0) (n2 agg2)<|yl rfl (b true) (LOp.eqb (LOp.lss rfl rfl rfl) hc2)<|zN ?_
   refine yT<|RunC.skip<|yS<|RunC.block<|yS ?_
   obtain ⟨e9, he3, h4_⟩ := oS h4_
   refine yW<|ym rfl (ptr [i64 a0, sl a1.length (a1.map i64), sl a2.length (a2.map i64), (sFc a3)])<|yl rfl (ptr [i64 a0, sl a1.length (a1.map i64), sl a2.length (a2.map i64), (sFc a3)]) n4<|yl rfl (ptr [sl a1.length (a1.map i64), sl a2.length (a2.map i64), (sFc a3)]) (LOp.fap und30 rfl siz22 rfl rfl rfl)<|yl rfl (sl a1.length (a1.map i64)) (n2 agg22)<|ym rfl (i64 v8)<|yl rfl (ptr [i64 e9]) (LOp.le (LOp.ix (f := i64) und22 siz2 rfl rfl rfl rfl he3) ALe.ptr)<|yl rfl (i64 e9) (n2 agg2)<|ya rfl (i64 e9)<|zN ?_
   refine RunC.wl (τ' := [(0, ptr [i64 a0, sl a1.length (a1.map i64), sl a2.length (a2.map i64), (sFc a3)]), (2, optr 0 1 0), (3, optr 3 1 0), (4, i64 v8), (5, i64 e9)]) (Γ' := [⟨1, some [i64 0, nilsl, nilsl]⟩, ⟨1, some (L4.map b)⟩, oF 1 L6, ⟨1, some [i64 r1, oref 1 1 0 r2.length, oref 2 1 0 r3.length]⟩]) ⟨aR, aR, aR, aR, aR, trivial⟩ ⟨⟨rfl, .inr rfl⟩, ⟨rfl, .inr rfl⟩, ⟨rfl, .inr rfl⟩, ⟨rfl, .inr rfl⟩, trivial⟩ ?_
   obtain ⟨z5, hz_5, h4_⟩ := oS h4_
   refine RunC.cutN (fun τ Γ => ∃ (L27 : List Bool) (L29 : List F), L27.length = r2.length ∧ L29.length = r3.length ∧ WeakLe τ [(0, ptr [i64 a0, sl a1.length (a1.map i64), sl a2.length (a2.map i64), (sFc a3)]), (2, optr 0 1 0), (3, optr 3 1 0), (4, i64 v8)] ∧ DeadLe Γ [⟨1, some [i64 0, nilsl, nilsl]⟩, ⟨1, some (L27.map b)⟩, oF 1 L29, ⟨1, some [i64 r1, oref 1 1 0 r2.length, oref 2 1 0 r3.length]⟩] ∧ z5 = .inl (L27, L29)) ?_ ?_
   ·refine RunC.block (RunC.loop (RunL.loopM (x := z5) (K0d_s2 a0 a1 a2 a3 v8) (fun (s : (List Bool) × (List F) × Int) τ Γ => s.1.length = r2.length ∧ s.2.1.length = r3.length ∧ WeakLe τ [(0, ptr [i64 a0, sl a1.length (a1.map i64), sl a2.length (a2.map i64), (sFc a3)]), (2, optr 0 1 0), (3, optr 3 1 0), (4, i64 v8), (5, i64 s.2.2)] ∧ DeadLe Γ [⟨1, some [i64 0, nilsl, nilsl]⟩, ⟨1, some (s.1.map b)⟩, ⟨1, some (s.2.1.map f32)⟩, ⟨1, some [i64 r1, oref 1 1 0 r2.length, oref 2 1 0 r3.length]⟩]) ?_ _ _ _ hz_5 ⟨hl5, hl7, ⟨aR, aR, aR, aR, aR, trivial⟩, ⟨⟨rfl, .inr rfl⟩, ⟨rfl, .inr rfl⟩, ⟨rfl, .inr rfl⟩, ⟨rfl, .inr rfl⟩, trivial⟩⟩))
    rintro ⟨L10, L12, v14⟩ τ5 Γ5 y5_ ⟨hl11, hl13, hw5, hd5⟩ h5_ ho5 hr5
    refine RunC.wl (τ' := [(0, ptr [i64 a0, sl a1.length (a1.map i64), sl a2.length (a2.map i64), (sFc a3)]), (2, optr 0 1 0), (3, optr 3 1 0), (4, i64 v8), (5, i64 v14)]) (Γ' := [⟨1, some [i64 0, nilsl, nilsl]⟩, ⟨1, some (L10.map b)⟩, oF 1 L12, ⟨1, some [i64 r1, oref 1 1 0 r2.length, oref 2 1 0 r3.length]⟩]) hw5 hd5 ?_
    replace hl11 : L10.length = r2.length := hl11
    replace hl13 : L12.length = r3.length := hl13
    replace h5_ : K0d_b2 a0 a1 a2 a3 v8 L10 L12 v14 = some y5_ := h5_
    unfold K0d_b2 at h5_
    refine yS<|yS ?_
    obtain ⟨x15, hx4, h5_⟩ := oL h5_
    obtain ⟨e16, he5, h5_⟩ := oS h5_
    rcases oB h5_ with ⟨hc6, h5_⟩ | ⟨hc6, h5_⟩
    ·refine yW<|ym rfl (i64 v14)<|ym rfl (ptr [i64 a0, sl a1.length (a1.map i64), sl a2.length (a2.map i64), (sFc a3)])<|yl rfl (ptr [i64 a0, sl a1.length (a1.map i64), sl a2.length (a2.map i64), (sFc a3)]) n4<|yl rfl (ptr [sl a1.length (a1.map i64), sl a2.length (a2.map i64), (sFc a3)]) (LOp.fap und30 rfl siz22 rfl rfl rfl)<|yl rfl (sl a1.length (a1.map i64)) (n2 agg22)<|ym rfl (i64 v8)<|yl rfl (i64 x15) (LOp.eqr (LOp.add rfl rfl rfl) (congrArg (ik .i64) hx4))<|yl rfl (ptr [i64 e16]) (LOp.le (LOp.ix (f := i64) und22 siz2 rfl rfl rfl rfl he5) ALe.ptr)<|yl rfl (i64 e16) (n2 agg2)<|yl rfl (b true) (LOp.eqb (LOp.lss rfl rfl rfl) hc6)<|zN ?_
     refine yT<|RunC.skip<|yS<|RunC.block<|yS ?_
     obtain ⟨x17, hx7, h5_⟩ := oL h5_
     obtain ⟨e18, he8, h5_⟩ := oS h5_
     obtain ⟨x19, hx9, h5_⟩ := oL h5_
     obtain ⟨L20, he10, h5_⟩ := oS h5_
     refine RunC.region_draw (Γ' := [⟨1, some [i64 0, nilsl, nilsl]⟩, ⟨1, some (L10.map b)⟩, oF 1 L12, ⟨1, some [i64 r1, oref 1 1 0 r2.length, oref 2 1 0 r3.length]⟩]) 17 mixed 
      (tl rfl (optr 3 1 1) (LOp.fao und91 rfl siz89 rfl rfl rfl) <|
      (TR.d (r := oref 1 1 0 r2.length) (fs := []) rfl rfl (TOp.load1_o rfl rfl agg89 rfl rfl) <|
      (tm rfl (i64 v8) <|
      (tm rfl (ptr [i64 a0, sl a1.length (a1.map i64), sl a2.length (a2.map i64), (sFc a3)]) <|
      (tl rfl (ptr [i64 a0, sl a1.length (a1.map i64), sl a2.length (a2.map i64), (sFc a3)]) n4 <|
      (tl rfl (ptr [i64 a0, sl a1.length (a1.map i64), sl a2.length (a2.map i64), (sFc a3)]) (LOp.fap und30 rfl siz2 rfl rfl rfl) <|
      (tl rfl (i64 a0) (n2 agg2) <|
      (tl rfl (i64 x17) (LOp.eqr (LOp.mul rfl rfl rfl) (congrArg (ik .i64) hx7)) <|
      (tm rfl (ptr [i64 a0, sl a1.length (a1.map i64), sl a2.length (a2.map i64), (sFc a3)]) <|
      (tl rfl (ptr [i64 a0, sl a1.length (a1.map i64), sl a2.length (a2.map i64), (sFc a3)]) n4 <|
      (tl rfl (ptr [sl a2.length (a2.map i64), (sFc a3)]) (LOp.fap und30 rfl siz22 rfl rfl rfl) <|
      (tl rfl (sl a2.length (a2.map i64)) (n2 agg22) <|
      (tm rfl (i64 v14) <|
      (tl rfl (ptr [i64 e18]) (LOp.le (LOp.ix (f := i64) und22 siz2 rfl rfl rfl rfl he8) ALe.ptr) <|
      (tl rfl (i64 e18) (n2 agg2) <|
      (tl rfl (i64 x19) (LOp.eqr (LOp.add rfl rfl rfl) (congrArg (ik .i64) hx9)) <|
      (TR.d (r := optr 1 1 x19.toNat) (fs := []) rfl rfl (TOp.ixo und89 siz4 rfl rfl rfl (set_in he10 hl11) rfl) <|
      TR.nil))))))))))))))))) rfl (by kernel_rfl) rfl fills_nil rfl ?_
     iterate 17 refine ROps.dropS ?_
     refine ROps.drop0<|ROps.st (f := b) (i := x19) (Γ' := [⟨1, some [i64 0, nilsl, nilsl]⟩, ⟨1, some (L20.map b)⟩, oF 1 L12, ⟨1, some [i64 r1, oref 1 1 0 r2.length, oref 2 1 0 r3.length]⟩]) rfl siz4 rfl rfl rfl aR rfl rfl rfl he10 rfl<|zN ?_
     refine RunC.wl (τ' := [(0, ptr [i64 a0, sl a1.length (a1.map i64), sl a2.length (a2.map i64), (sFc a3)]), (2, optr 0 1 0), (3, optr 3 1 0), (4, i64 v8), (5, i64 v14)]) (Γ' := [⟨1, some [i64 0, nilsl, nilsl]⟩, ⟨1, some (L20.map b)⟩, oF 1 L12, ⟨1, some [i64 r1, oref 1 1 0 r2.length, oref 2 1 0 r3.length]⟩]) ⟨aR, aR, aR, aR, aR, trivial⟩ ⟨⟨rfl, .inr rfl⟩, ⟨rfl, .inr rfl⟩, ⟨rfl, .inr rfl⟩, ⟨rfl, .inr rfl⟩, trivial⟩ ?_
     obtain ⟨x21, hx11, h5_⟩ := oL h5_
     obtain ⟨e22, he12, h5_⟩ := oS h5_
     obtain ⟨x23, hx13, h5_⟩ := oL h5_
     obtain ⟨e24, he14, h5_⟩ := oS h5_
     obtain ⟨L25, he15, h5_⟩ := oS h5_
     refine RunC.region_draw (Γ' := [⟨1, some [i64 0, nilsl, nilsl]⟩, ⟨1, some (L20.map b)⟩, oF 1 L12, ⟨1, some [i64 r1, oref 1 1 0 r2.length, oref 2 1 0 r3.length]⟩]) 24 mixed 
      (tl rfl (optr 3 1 2) (LOp.fao und91 rfl siz23 rfl rfl rfl) <|
      (TR.d (r := oref 2 1 0 r3.length) (fs := []) rfl rfl (TOp.load1_o rfl rfl agg23 rfl rfl) <|
      (tm rfl (i64 v8) <|
      (tm rfl (ptr [i64 a0, sl a1.length (a1.map i64), sl a2.length (a2.map i64), (sFc a3)]) <|
      (tl rfl (ptr [i64 a0, sl a1.length (a1.map i64), sl a2.length (a2.map i64), (sFc a3)]) n4 <|
      (tl rfl (ptr [i64 a0, sl a1.length (a1.map i64), sl a2.length (a2.map i64), (sFc a3)]) (LOp.fap und30 rfl siz2 rfl rfl rfl) <|
      (tl rfl (i64 a0) (n2 agg2) <|
      (tl rfl (i64 x21) (LOp.eqr (LOp.mul rfl rfl rfl) (congrArg (ik .i64) hx11)) <|
      (tm rfl (ptr [i64 a0, sl a1.length (a1.map i64), sl a2.length (a2.map i64), (sFc a3)]) <|
      (tl rfl (ptr [i64 a0, sl a1.length (a1.map i64), sl a2.length (a2.map i64), (sFc a3)]) n4 <|
      (tl rfl (ptr [sl a2.length (a2.map i64), (sFc a3)]) (LOp.fap und30 rfl siz22 rfl rfl rfl) <|
      (tl rfl (sl a2.length (a2.map i64)) (n2 agg22) <|
      (tm rfl (i64 v14) <|
      (tl rfl (ptr [i64 e22]) (LOp.le (LOp.ix (f := i64) und22 siz2 rfl rfl rfl rfl he12) ALe.ptr) <|
      (tl rfl (i64 e22) (n2 agg2) <|
      (tl rfl (i64 x23) (LOp.eqr (LOp.add rfl rfl rfl) (congrArg (ik .i64) hx13)) <|
      (tm rfl (ptr [i64 a0, sl a1.length (a1.map i64), sl a2.length (a2.map i64), (sFc a3)]) <|
      (tl rfl (ptr [i64 a0, sl a1.length (a1.map i64), sl a2.length (a2.map i64), (sFc a3)]) n4 <|
      (tl rfl (ptr [(sFc a3)]) (LOp.fap und30 rfl siz23 rfl rfl rfl) <|
      (tl rfl (sFc a3) (n2 agg23) <|
      (tm rfl (i64 v14) <|
      (tl rfl (ptr [f32 e24]) (LOp.le (LOp.ix (f := f32) und23 siz26 rfl rfl rfl rfl he14) ALe.ptr) <|
      (tl rfl (f32 e24) (n2 agg26) <|
      (TR.d (r := optr 2 1 x23.toNat) (fs := []) rfl rfl (TOp.ixo und23 siz26 rfl rfl rfl (set_in he15 hl13) rfl) <|
      TR.nil)))))))))))))))))))))))) rfl (by kernel_rfl) rfl fills_nil rfl ?_
     iterate 24 refine ROps.dropS ?_
     refine ROps.drop0<|ROps.st (f := f32) (i := x23) (Γ' := [⟨1, some [i64 0, nilsl, nilsl]⟩, ⟨1, some (L20.map b)⟩, oF 1 L25, ⟨1, some [i64 r1, oref 1 1 0 r2.length, oref 2 1 0 r3.length]⟩]) rfl siz26 rfl rfl rfl aR rfl rfl rfl he15 rfl<|zN ?_
     refine RunC.wl (τ' := [(0, ptr [i64 a0, sl a1.length (a1.map i64), sl a2.length (a2.map i64), (sFc a3)]), (2, optr 0 1 0), (3, optr 3 1 0), (4, i64 v8), (5, i64 v14)]) (Γ' := [⟨1, some [i64 0, nilsl, nilsl]⟩, ⟨1, some (L20.map b)⟩, oF 1 L25, ⟨1, some [i64 r1, oref 1 1 0 r2.length, oref 2 1 0 r3.length]⟩]) ⟨aR, aR, aR, aR, aR, trivial⟩ ⟨⟨rfl, .inr rfl⟩, ⟨rfl, .inr rfl⟩, ⟨rfl, .inr rfl⟩, ⟨rfl, .inr rfl⟩, trivial⟩ ?_
     obtain ⟨x26, hx16, h5_⟩ := oL h5_
     refine yW<|ym rfl (i64 v14)<|yl rfl (i64 x26) (LOp.eqr (LOp.add rfl rfl rfl) (congrArg (ik .i64) hx16))<|ya rfl (i64 x26)<|zN ?_
     cases oI h5_
     exact ⟨_, rfl, ((setAt?_len he10).trans hl11), ((setAt?_len he15).trans hl13), ⟨aR, aR, aR, aR, aR, trivial⟩, ⟨⟨rfl, .inr rfl⟩, ⟨rfl, .inr rfl⟩, ⟨rfl, .inr rfl⟩, ⟨rfl, .inr rfl⟩, trivial⟩⟩
    ·refine yW<|ym rfl (i64 v14)<|ym rfl (ptr [i64 a0, sl a1.length (a1.map i64), sl a2.length (a2.map i64), (sFc a3)])<|yl rfl (ptr [i64 a0, sl a1.length (a1.map i64), sl a2.length (a2.map i64), (sFc a3)]) n4<|yl rfl (ptr [sl a1.length (a1.map i64), sl a2.length (a2.map i64), (sFc a3)]) (LOp.fap und30 rfl siz22 rfl rfl rfl)<|yl rfl (sl a1.length (a1.map i64)) (n2 agg22)<|ym rfl (i64 v8)<|yl rfl (i64 x15) (LOp.eqr (LOp.add rfl rfl rfl) (congrArg (ik .i64) hx4))<|yl rfl (ptr [i64 e16]) (LOp.le (LOp.ix (f := i64) und22 siz2 rfl rfl rfl rfl he5) ALe.ptr)<|yl rfl (i64 e16) (n2 agg2)<|yl rfl (b false) (LOp.eqb (LOp.lss rfl rfl rfl) hc6)<|zN ?_
     refine yF<|RunC.exit ?_
     cases oI h5_
     have hx := ho5 _ rfl
     exact ⟨L10, L12, hl11, hl13, ⟨aR, aR, aR, aR, trivial⟩, ⟨⟨rfl, .inr rfl⟩, ⟨rfl, .inr rfl⟩, ⟨rfl, .inr rfl⟩, ⟨rfl, .inr rfl⟩, trivial⟩, hx⟩
   ·rintro τ6 Γ6 ⟨L27, L29, hl28, hl30, hw6, hd6, rfl⟩
    refine RunC.wl hw6 hd6 ?_
    replace h4_ : K0d_k2 v8 L27 L29 = some y4_ := h4_
    unfold K0d_k2 at h4_
    obtain ⟨x31, hx17, h4_⟩ := oL h4_
    refine yW<|ym rfl (i64 v8)<|yl rfl (i64 x31) (LOp.eqr (LOp.add rfl rfl rfl) (congrArg (ik .i64) hx17))<|ya rfl (i64 x31)<|zN ?_
    cases oI h4_
    exact ⟨_, rfl, hl28, hl30, ⟨aR, aR, aR, aR, trivial⟩, ⟨⟨rfl, .inr rfl⟩, ⟨rfl, .inr rfl⟩, ⟨rfl, .inr rfl⟩, ⟨rfl, .inr rfl⟩, trivial⟩⟩
  ·refine yW<|ym rfl (i64 v8)<|ym rfl (ptr [i64 a0, sl a1.length (a1.map i64), sl a2.length (a2.map i64), (sFc a3)])<|yl rfl (ptr [i64 a0, sl a1.length (a1.map i64), sl a2.length (a2.map i64), (sFc a3)]) n4<|yl rfl (ptr [i64 a0, sl a1.length (a1.map i64), sl a2.length (a2.map i64), (sFc a3)]) (LOp.fap und30 rfl siz2 rfl rfl rfl)<|yl rfl (i64 a0) (n2 agg2)<|yl rfl (b false) (LOp.eqb (LOp.lss rfl rfl rfl) hc2)<|zN ?_
   refine yF<|RunC.exit ?_
   cases oI h4_
   have hx := ho4 _ rfl
   exact ⟨L4, L6, hl5, hl7, ⟨aR, aR, trivial⟩, ⟨⟨rfl, .inr rfl⟩, ⟨rfl, .inr rfl⟩, ⟨rfl, .inr rfl⟩, ⟨rfl, .inr rfl⟩, trivial⟩, hx⟩
 ·rintro τ7 Γ7 ⟨L32, L34, hl33, hl35, hw7, hd7, rfl⟩
  refine RunC.wl hw7 hd7 ?_
  replace h : K0d_k3 r1 L32 L34 = some (q0, q1, q2) := h
  unfold K0d_k3 at h
  refine zQ<|yd rfl (agg [i64 r1, oref 1 1 0 r2.length, oref 2 1 0 r3.length]) (yA agg91 siz91)<|ys (agg [i64 r1, oref 1 1 0 r2.length, oref 2 1 0 r3.length]) [i64 r1, oref 1 1 0 r2.length, oref 2 1 0 r3.length] ([⟨1, some [i64 r1, oref 1 1 0 r2.length, oref 2 1 0 r3.length]⟩, ⟨1, some (L32.map b)⟩, oF 1 L34, ⟨1, some [i64 r1, oref 1 1 0 r2.length, oref 2 1 0 r3.length]⟩]) siz91<|zN ?_
  refine RunC.ret ?_
  have hq := oI h
  obtain ⟨hq0, hq⟩ := Prod.mk.inj hq
  obtain ⟨hq1, hq⟩ := Prod.mk.inj hq
  subst q0
  subst q1
  subst q2
  exact yB (agg [i64 r1, oref 1 1 0 L32.length, oref 2 1 0 L34.length]) [(1, 1), (2, 1)] (Res.eq (Res.one rfl (RV.cell agg91 siz91 rfl rfl rfl rfl)) (by first | rfl | (rw [(show L32.length = r2.length from hl33), (show L34.length = r3.length from hl35)] <;> rfl))) (SelL.arr0 (f := b) (fun _ => rfl) rfl (sA rfl trivial))
def K0e_b2 (a1 : List Int) (a2 : List Int) (a3 : List F) (a4 : List F) (v4 : Int) (y6 : F) (v7 : Int) : Option (LR (F × Int) (F) ((List F))) :=
 olet (IntKind.i64.wrap (v4 + 1)) fun (x8 : Int) =>
 obind (at? a1 x8) fun (e9 : Int) =>
 bsel (decide (v7 < e9)) (
  obind (at? a3 v7) fun (e10 : F) =>
  obind (at? a2 v7) fun (e11 : Int) =>
  obind (at? a4 e11) fun (e12 : F) =>
  olet (fop .mul .f32 e10 e12) fun (x13 : F) =>
  olet (fop .add .f32 y6 x13) fun (x14 : F) =>
  olet (IntKind.i64.wrap (v7 + 1)) fun (x15 : Int) =>
  some (LR.next (x14, x15))) (
  some (LR.out y6))
def K0e_s2 (a1 : List Int) (a2 : List Int) (a3 : List F) (a4 : List F) (v4 : Int) : (F × Int) → Option (LR (F × Int) (F) ((List F))) := fun s => K0e_b2 a1 a2 a3 a4 v4 s.1 s.2
def K0e_k2 (L3 : List F) (v4 : Int) (y16 : F) : Option (LR ((List F) × Int) ((List F)) ((List F))) :=
 need (apok 4 L3.length 1) <|
 olet (IntKind.i64.wrap (v4 + 1)) fun (x17 : Int) =>
 some (LR.next ((L3 ++ ([y16] : List F)), x17))
def K0e_b3 (a0 : Int) (a1 : List Int) (a2 : List Int) (a3 : List F) (a4 : List F) (L3 : List F) (v4 : Int) : Option (LR ((List F) × Int) ((List F)) ((List F))) :=
 bsel (decide (v4 < a0)) (
  obind (at? a1 v4) fun (e5 : Int) =>
  obind (loopM (K0e_s2 a1 a2 a3 a4 v4) (some 0, e5)) fun z => osum z (fun e => K0e_k2 L3 v4 e) (fun r => some (LR.ret r))) (
  some (LR.out L3))
def K0e_s3 (a0 : Int) (a1 : List Int) (a2 : List Int) (a3 : List F) (a4 : List F) : ((List F) × Int) → Option (LR ((List F) × Int) ((List F)) ((List F))) := fun s => K0e_b3 a0 a1 a2 a3 a4 s.1 s.2
def K0e_k3 (L20 : List F) : Option ((List F)) :=
 some L20
def K0e (a0 : Int) (a1 : List Int) (a2 : List Int) (a3 : List F) (a4 : List F) : Option ((List F)) :=
 obind (loopM (K0e_s3 a0 a1 a2 a3 a4) (([] : List F), 0)) fun z => osum z (fun e => K0e_k3 e) (fun r => some r)
theorem K0e_ok (a0 : Int) (a1 : List Int) (a2 : List Int) (a3 : List F) (a4 : List F) (q0 : List F) (h : K0e a0 a1 a2 a3 a4 = some q0) : Ev Try.prog 127 [ptr [i64 a0, sl a1.length (a1.map i64), sl a2.length (a2.map i64), (sFc a3)], (sFc a4)] [] (oref 0 0 0 q0.length) [oF 0 q0] := by
 refine yE Try.func127 2 125 0 ([(0, ptr [i64 a0, sl a1.length (a1.map i64), sl a2.length (a2.map i64), (sFc a3)]), (1, (sFc a4))]) [o0, o0] rfl ?_
 unfold K0e at h
 refine zQ<|ya rfl nilsl<|zN ?_
 refine zQ<|ye rfl (oref 0 1 0 0) ([⟨1, some (([] : List F).map f32)⟩, o0]) (TOp.buildSlice_o (g := o0) (za := f32 (some 0)) (qs := []) 0 rfl und23 siz26 zer26 rfl zel26 rfl rfl trivial rfl)<|ya rfl (oref 0 1 0 0)<|zN ?_
 refine yS<|zQ<|ya rfl (i64 0)<|zN ?_
 obtain ⟨z4, hz_4, h⟩ := oS h
 refine RunC.cutN (fun τ Γ => ∃ (L20 : List F) (u18 : Nat) (u19 : Nat), WeakLe τ [(5, oref 0 u18 0 L20.length)] ∧ DeadLe Γ [⟨u18, some (L20.map f32)⟩, ⟨u19, none⟩] ∧ z4 = .inl L20) ?_ ?_
 ·refine RunC.block (RunC.loop (RunL.loopM (x := z4) (K0e_s3 a0 a1 a2 a3 a4) (fun (s : (List F) × Int) τ Γ => ∃ (u1 : Nat) (u2 : Nat), WeakLe τ [(0, ptr [i64 a0, sl a1.length (a1.map i64), sl a2.length (a2.map i64), (sFc a3)]), (1, (sFc a4)), (5, oref 0 u1 0 s.1.length), (6, i64 s.2)] ∧ DeadLe Γ [⟨u1, some (s.1.map f32)⟩, ⟨u2, none⟩]) ?_ _ _ _ hz_4 ⟨1, 0, ⟨aR, aR, aR, aR, trivial⟩, ⟨⟨rfl, .inr rfl⟩, ⟨rfl, .inl rfl⟩, trivial⟩⟩))
  rintro ⟨L3, v4⟩ τ4 Γ4 y4_ ⟨u1, u2, hw4, hd4⟩ h4_ ho4 hr4
  refine RunC.wl (τ' := [(0, ptr [i64 a0, sl a1.length (a1.map i64), sl a2.length (a2.map i64), (sFc a3)]), (1, (sFc a4)), (5, oref 0 u1 0 L3.length), (6, i64 v4)]) (Γ' := [⟨u1, some (L3.map f32)⟩, ⟨u2, none⟩]) hw4 hd4 ?_
  replace h4_ : K0e_b3 a0 a1 a2 a3 a4 L3 v4 = some y4_ := h4_
  unfold K0e_b3 at h4_
  refine yS<|yS ?_
  rcases oB h4_ with ⟨hc1, h4_⟩ | ⟨hc1, h4_⟩
  ·refine yW<|ym rfl (i64 v4)<|ym rfl (ptr [i64 a0, sl a1.length (a1.map i64), sl a2.length (a2.map i64), (sFc a3)])<|yl rfl (ptr [i64 a0, sl a1.length (a1.map i64), sl a2.length (a2.map i64), (sFc a3)]) n4<|yl rfl (ptr [i64 a0, sl a1.length (a1.map i64), sl a2.length (a2.map i64), (sFc a3)]) (LOp.fap und30 rfl siz2 rfl rfl rfl)<|yl rfl (i64 a0) (n2 agg2)<|yl rfl (b true) (LOp.eqb (LOp.lss rfl rfl rfl) hc1)<|zN ?_
   refine yT<|RunC.skip<|yS<|RunC.block<|zQ<|yl rfl (f32 (some 0)) (LOp.le (LOp.assign rfl rfl) (ALe.fl (by kernel_rfl) (by kernel_rfl)))<|zN ?_
   refine yS<|yS ?_
   obtain ⟨e5, he2, h4_⟩ := oS h4_
   refine yW<|ym rfl (ptr [i64 a0, sl a1.length (a1.map i64), sl a2.length (a2.map i64), (sFc a3)])<|yl rfl (ptr [i64 a0, sl a1.length (a1.map i64), sl a2.length (a2.map i64), (sFc a3)]) n4<|yl rfl (ptr [sl a1.length (a1.map i64), sl a2.length (a2.map i64), (sFc a3)]) (LOp.fap und30 rfl siz22 rfl rfl rfl)<|yl rfl (sl a1.length (a1.map i64)) (n2 agg22)<|ym rfl (i64 v4)<|yl rfl (ptr [i64 e5]) (LOp.le (LOp.ix (f := i64) und22 siz2 rfl rfl rfl rfl he2) ALe.ptr)<|yl rfl (i64 e5) (n2 agg2)<|ya rfl (i64 e5)<|zN ?_
   refine RunC.wl (τ' := [(0, ptr [i64 a0, sl a1.length (a1.map i64), sl a2.length (a2.map i64), (sFc a3)]), (1, (sFc a4)), (5, oref 0 u1 0 L3.length), (6, i64 v4), (7, f32 (some 0)), (8, i64 e5)]) (Γ' := [⟨u1, some (L3.map f32)⟩, ⟨u2, none⟩]) ⟨aR, aR, aR, aR, aR, aR, trivial⟩ ⟨⟨rfl, .inr rfl⟩, ⟨rfl, .inl rfl⟩, trivial⟩ ?_
   obtain ⟨z5, hz_5, h4_⟩ := oS h4_
   refine RunC.cutN (fun τ Γ => ∃ (y16 : F), WeakLe τ [(0, ptr [i64 a0, sl a1.length (a1.map i64), sl a2.length (a2.map i64), (sFc a3)]), (1, (sFc a4)), (5, oref 0 u1 0 L3.length), (6, i64 v4), (7, f32 y16)] ∧ DeadLe Γ [⟨u1, some (L3.map f32)⟩, ⟨u2, none⟩] ∧ z5 = .inl y16) ?_ ?_
   ·refine RunC.block (RunC.loop (RunL.loopM (x := z5) (K0e_s2 a1 a2 a3 a4 v4) (fun (s : F × Int) τ Γ => WeakLe τ [(0, ptr [i64 a0, sl a1.length (a1.map i64), sl a2.length (a2.map i64), (sFc a3)]), (1, (sFc a4)), (5, oref 0 u1 0 L3.length), (6, i64 v4), (7, f32 s.1), (8, i64 s.2)] ∧ DeadLe Γ [⟨u1, some (L3.map f32)⟩, ⟨u2, none⟩]) ?_ _ _ _ hz_5 ⟨⟨aR, aR, aR, aR, aR, aR, trivial⟩, ⟨⟨rfl, .inr rfl⟩, ⟨rfl, .inl rfl⟩, trivial⟩⟩))
    rintro ⟨y6, v7⟩ τ5 Γ5 y5_ ⟨hw5, hd5⟩ h5_ ho5 hr5
    refine RunC.wl (τ' := [(0, ptr [i64 a0, sl a1.length (a1.map i64), sl a2.length (a2.map i64), (sFc a3)]), (1, (sFc a4)), (5, oref 0 u1 0 L3.length), (6, i64 v4), (7, f32 y6), (8, i64 v7)]) (Γ' := [⟨u1, some (L3.map f32)⟩, ⟨u2, none⟩]) hw5 hd5 ?_
    replace h5_ : K0e_b2 a1 a2 a3 a4 v4 y6 v7 = some y5_ := h5_
    unfold K0e_b2 at h5_
    refine yS<|yS ?_
    obtain ⟨x8, hx3, h5_⟩ := oL h5_
    obtain ⟨e9, he4, h5_⟩ := oS h5_
    rcases oB h5_ with ⟨hc5, h5_⟩ | ⟨hc5, h5_⟩
    ·refine yW<|ym rfl (i64 v7)<|ym rfl (ptr [i64 a0, sl a1.length (a1.map i64), sl a2.length (a2.map i64), (sFc a3)])<|yl rfl (ptr [i64 a0, sl a1.length (a1.map i64), sl a2.length (a2.map i64), (sFc a3)]) n4<|yl rfl (ptr [sl a1.length (a1.map i64), sl a2.length (a2.map i64), (sFc a3)]) (LOp.fap und30 rfl siz22 rfl rfl rfl)<|yl rfl (sl a1.length (a1.map i64)) (n2 agg22)<|ym rfl (i64 v4)<|yl rfl (i64 x8) (LOp.eqr (LOp.add rfl rfl rfl) (congrArg (ik .i64) hx3))<|yl rfl (ptr [i64 e9]) (LOp.le (LOp.ix (f := i64) und22 siz2 rfl rfl rfl rfl he4) ALe.ptr)<|yl rfl (i64 e9) (n2 agg2)<|yl rfl (b true) (LOp.eqb (LOp.lss rfl rfl rfl) hc5)<|zN ?_
     refine yT<|RunC.skip<|yS<|RunC.block ?_
     obtain ⟨e10, he6, h5_⟩ := oS h5_
     obtain ⟨e11, he7, h5_⟩ := oS h5_
     obtain ⟨e12, he8, h5_⟩ := oS h5_
     obtain ⟨x13, hx9, h5_⟩ := oL h5_
     obtain ⟨x14, hx10, h5_⟩ := oL h5_
     refine RunC.region_draw (Γ' := [⟨u1, some (L3.map f32)⟩, ⟨u2, none⟩]) 21 mixed 
      (tm rfl (f32 y6) <|
      (tm rfl (ptr [i64 a0, sl a1.length (a1.map i64), sl a2.length (a2.map i64), (sFc a3)]) <|
      (tl rfl (ptr [i64 a0, sl a1.length (a1.map i64), sl a2.length (a2.map i64), (sFc a3)]) n4 <|
      (tl rfl (ptr [(sFc a3)]) (LOp.fap und30 rfl siz23 rfl rfl rfl) <|
      (tl rfl (sFc a3) (n2 agg23) <|
      (tm rfl (i64 v7) <|
      (tl rfl (ptr [f32 e10]) (LOp.le (LOp.ix (f := f32) und23 siz26 rfl rfl rfl rfl he6) ALe.ptr) <|
      (tl rfl (f32 e10) (n2 agg26) <|
      (tm rfl (sFc a4) <|
      (tm rfl (ptr [i64 a0, sl a1.length (a1.map i64), sl a2.length (a2.map i64), (sFc a3)]) <|
      (tl rfl (ptr [i64 a0, sl a1.length (a1.map i64), sl a2.length (a2.map i64), (sFc a3)]) n4 <|
      (tl rfl (ptr [sl a2.length (a2.map i64), (sFc a3)]) (LOp.fap und30 rfl siz22 rfl rfl rfl) <|
      (tl rfl (sl a2.length (a2.map i64)) (n2 agg22) <|
      (tm rfl (i64 v7) <|
      (tl rfl (ptr [i64 e11]) (LOp.le (LOp.ix (f := i64) und22 siz2 rfl rfl rfl rfl he7) ALe.ptr) <|
      (tl rfl (i64 e11) (n2 agg2) <|
      (tl rfl (ptr [f32 e12]) (LOp.le (LOp.ix (f := f32) und23 siz26 rfl rfl rfl rfl he8) ALe.ptr) <|
      (tl rfl (f32 e12) (n2 agg26) <|
      (TR.d (r := f32 x13) (fs := []) rfl rfl (TOp.eqr (TOp.fop (.inr (.inr (.inl rfl))) rfl (OpF.tmp rfl) (OpF.tmp rfl)) (congrArg (f .f32) hx9)) <|
      (TR.d (r := f32 x14) (fs := []) rfl rfl (TOp.eqr (TOp.fop (.inl rfl) rfl (OpF.tmp rfl) (OpF.tmp rfl)) (congrArg (f .f32) hx10)) <|
      (tl rfl (f32 x14) (LOp.assign rfl rfl) <|
      TR.nil))))))))))))))))))))) rfl (by kernel_rfl) rfl fills_nil rfl ?_
     iterate 21 refine ROps.dropS ?_
     refine ROps.drop0<|zN ?_
     refine RunC.wl (τ' := [(0, ptr [i64 a0, sl a1.length (a1.map i64), sl a2.length (a2.map i64), (sFc a3)]), (1, (sFc a4)), (5, oref 0 u1 0 L3.length), (6, i64 v4), (7, f32 x14), (8, i64 v7)]) (Γ' := [⟨u1, some (L3.map f32)⟩, ⟨u2, none⟩]) ⟨aR, aR, aR, aR, aR, aR, trivial⟩ ⟨⟨rfl, .inr rfl⟩, ⟨rfl, .inl rfl⟩, trivial⟩ ?_
     obtain ⟨x15, hx11, h5_⟩ := oL h5_
     refine yW<|ym rfl (i64 v7)<|yl rfl (i64 x15) (LOp.eqr (LOp.add rfl rfl rfl) (congrArg (ik .i64) hx11))<|ya rfl (i64 x15)<|zN ?_
     cases oI h5_
     exact ⟨_, rfl, ⟨aR, aR, aR, aR, aR, aR, trivial⟩, ⟨⟨rfl, .inr rfl⟩, ⟨rfl, .inl rfl⟩, trivial⟩⟩
    ·refine yW<|ym rfl (i64 v7)<|ym rfl (ptr [i64 a0, sl a1.length (a1.map i64), sl a2.length (a2.map i64), (sFc a3)])<|yl rfl (ptr [i64 a0, sl a1.length (a1.map i64), sl a2.length (a2.map i64), (sFc a3)]) n4<|yl rfl (ptr [sl a1.length (a1.map i64), sl a2.length (a2.map i64), (sFc a3)]) (LOp.fap und30 rfl siz22 rfl rfl rfl)<|yl rfl (sl a1.length (a1.map i64)) (n2 agg22)<|ym rfl (i64 v4)<|yl rfl (i64 x8) (LOp.eqr (LOp.add rfl rfl rfl) (congrArg (ik .i64) hx3))<|yl rfl (ptr [i64 e9]) (LOp.le (LOp.ix (f := i64) und22 siz2 rfl rfl rfl rfl he4) ALe.ptr)<|yl rfl (i64 e9) (n2 agg2)<|yl rfl (b false) (LOp.eqb (LOp.lss rfl rfl rfl) hc5)<|zN ?_
     refine yF<|RunC.exit ?_
     cases oI h5_
     have hx := ho5 _ rfl
     exact ⟨y6, ⟨aR, aR, aR, aR, aR, trivial⟩, ⟨⟨rfl, .inr rfl⟩, ⟨rfl, .inl rfl⟩, trivial⟩, hx⟩
   ·rintro τ6 Γ6 ⟨y16, hw6, hd6, rfl⟩
    refine RunC.wl hw6 hd6 ?_
    replace h4_ : K0e_k2 L3 v4 y16 = some y4_ := h4_
    unfold K0e_k2 at h4_
    obtain ⟨hm12, h4_⟩ := need_some h4_
    refine yW<|ym rfl (oref 0 u1 0 L3.length)<|ym rfl (f32 y16)<|ye rfl (oref 1 (u2 + 1) 0 1) ([⟨u1, some (L3.map f32)⟩, ⟨(u2 + 1), some (([y16] : List F).map f32)⟩]) (TOp.buildSlice_o (g := ⟨u2, none⟩) (za := f32 (some 0)) (qs := [(0, [f32 y16])]) 1 rfl und23 siz26 zer26 rfl zel26 rfl rfl ⟨rfl, ⟨_, ALe.refl _, rfl⟩, trivial⟩ rfl)<|ROps.app (f := f32) (xs := L3) (ys := ([y16] : List F)) (Γ' := [⟨(u1 + 1), some ((L3 ++ ([y16] : List F)).map f32)⟩, ⟨(u2 + 1), some (([y16] : List F).map f32)⟩]) rfl pun23 inf26 rfl rfl rfl rfl rfl rfl rfl rfl rfl (by simp) (ReadAs.own rfl (by simp)) (ones_map (fun _ => rfl)) (ap_by hm12) (ap_mx hm12) rfl<|ya rfl (oref 0 (u1 + 1) 0 (L3.length + 1))<|zN ?_
    refine RunC.wl (τ' := [(0, ptr [i64 a0, sl a1.length (a1.map i64), sl a2.length (a2.map i64), (sFc a3)]), (1, (sFc a4)), (5, oref 0 (u1 + 1) 0 (L3.length + 1)), (6, i64 v4)]) (Γ' := [⟨(u1 + 1), some ((L3 ++ ([y16] : List F)).map f32)⟩, ⟨(u2 + 1), none⟩]) ⟨aR, aR, aR, aR, trivial⟩ ⟨⟨rfl, .inr rfl⟩, ⟨rfl, .inl rfl⟩, trivial⟩ ?_
    obtain ⟨x17, hx13, h4_⟩ := oL h4_
    refine yW<|ym rfl (i64 v4)<|yl rfl (i64 x17) (LOp.eqr (LOp.add rfl rfl rfl) (congrArg (ik .i64) hx13))<|ya rfl (i64 x17)<|zN ?_
    cases oI h4_
    exact ⟨_, rfl, (u1 + 1), (u2 + 1), ⟨aR, aR, (ALe.eq (by rw [(app_len rfl rfl)] <;> rfl)), aR, trivial⟩, ⟨⟨rfl, .inr rfl⟩, ⟨rfl, .inl rfl⟩, trivial⟩⟩
  ·refine yW<|ym rfl (i64 v4)<|ym rfl (ptr [i64 a0, sl a1.length (a1.map i64), sl a2.length (a2.map i64), (sFc a3)])<|yl rfl (ptr [i64 a0, sl a1.length (a1.map i64), sl a2.length (a2.map i64), (sFc a3)]) n4<|yl rfl (ptr [i64 a0, sl a1.length (a1.map i64), sl a2.length (a2.map i64), (sFc a3)]) (LOp.fap und30 rfl siz2 rfl rfl rfl)<|yl rfl (i64 a0) (n2 agg2)<|yl rfl (b false) (LOp.eqb (LOp.lss rfl rfl rfl) hc1)<|zN ?_
   refine yF<|RunC.exit ?_
   cases oI h4_
   have hx := ho4 _ rfl
   exact ⟨L3, u1, u2, ⟨aR, trivial⟩, ⟨⟨rfl, .inr rfl⟩, ⟨rfl, .inl rfl⟩, trivial⟩, hx⟩
 ·rintro τ7 Γ7 ⟨L20, u18, u19, hw7, hd7, rfl⟩
  refine RunC.wl hw7 hd7 ?_
  replace h : K0e_k3 L20 = some q0 := h
  unfold K0e_k3 at h
  refine zQ<|ym rfl (oref 0 u18 0 L20.length)<|ya rfl (oref 0 u18 0 L20.length)<|zN ?_
  refine RunC.ret ?_
  have hq := oI h
  subst q0
  exact bodyQ.mk (r' := oref 0 u18 0 L20.length) [(0, u18)] (.inr rfl) rfl (ndB_ok rfl) (by simp [ren, rens, sigma]) rfl (Res.one rfl (RV.tmp rfl)) (sA rfl trivial)
def K0f_b1 (a5 : List F) (r1 : List F) (L2 : List F) (v4 : Int) : Option (LR ((List F) × Int) ((List F)) ((List F))) :=
 bsel (decide (v4 < ((r1.length : Nat) : Int))) (
  obind (at? a5 v4) fun (e5 : F) =>
  obind (at? L2 v4) fun (e6 : F) =>
  olet (fop .sub .f32 e5 e6) fun (x7 : F) =>
  obind (setAt? L2 v4 x7) fun (L8 : List F) =>
  olet (IntKind.i64.wrap (v4 + 1)) fun (x9 : Int) =>
  some (LR.next (L8, x9))) (
  some (LR.out L2))
def K0f_s1 (a5 : List F) (r1 : List F) : ((List F) × Int) → Option (LR ((List F) × Int) ((List F)) ((List F))) := fun s => K0f_b1 a5 r1 s.1 s.2
def K0f_k1 (L10 : List F) : Option ((List F)) :=
 some L10
def K0f (a0 : Int) (a1 : List Int) (a2 : List Int) (a3 : List F) (a4 : List F) (a5 : List F) : Option ((List F)) :=
 obind (K0e a0 a1 a2 a3 a4) fun (r1 : List F) =>
 obind (loopM (K0f_s1 a5 r1) (r1, 0)) fun z => osum z (fun e => K0f_k1 e) (fun r => some r)
theorem K0f_ok (a0 : Int) (a1 : List Int) (a2 : List Int) (a3 : List F) (a4 : List F) (a5 : List F) (q0 : List F) (h : K0f a0 a1 a2 a3 a4 a5 = some q0) : Ev Try.prog 76 [ptr [i64 a0, sl a1.length (a1.map i64), sl a2.length (a2.map i64), (sFc a3)], (sFc a4), (sFc a5)] [] (oref 0 0 0 q0.length) [oF 0 q0] := by
 refine yE Try.func76 1 63 0 ([(0, ptr [i64 a0, sl a1.length (a1.map i64), sl a2.length (a2.map i64), (sFc a3)]), (1, (sFc a4)), (2, (sFc a5))]) [o0] rfl ?_
 unfold K0f at h
 refine zQ<|ya rfl nilsl<|zN ?_
 refine yS ?_
 obtain ⟨r1, hf1, h⟩ := oS h
 refine yW<|ym rfl (ptr [i64 a0, sl a1.length (a1.map i64), sl a2.length (a2.map i64), (sFc a3)])<|ym rfl (sFc a4)<|ye rfl (oref 0 1 0 r1.length) [oF 1 r1] (TOp.callBN (ls := [(r1.map f32)]) [0] (CallAs.func ent127 rfl rfl) (Bors.cons (Bor.ptr (bP (bS (bS (bS bN))))) (bS bN)) rfl (K0e_ok a0 a1 a2 a3 a4 r1 hf1) (and_all (lts0_map (f := f32) (fun _ => rfl) _) rfl) (and_all (noss_map (f := f32) (fun _ => rfl) _) rfl) rfl (by decide) (ns_of ⟨⟨_, rfl⟩, trivial⟩))<|ya rfl (oref 0 1 0 r1.length)<|zN ?_
 refine yS<|zQ<|ym rfl (oref 0 1 0 r1.length)<|yl rfl (i64 ((r1.length : Nat) : Int)) (LOp.len_oref und23 rfl rfl)<|ym rfl (i64 0)<|zN ?_
 obtain ⟨z2, hz_2, h⟩ := oS h
 refine RunC.cutN (fun τ Γ => ∃ (L10 : List F), L10.length = r1.length ∧ WeakLe τ [(7, oref 0 1 0 r1.length)] ∧ DeadLe Γ [oF 1 L10] ∧ z2 = .inl L10) ?_ ?_
 ·refine RunC.block (RunC.loop (RunL.loopM (x := z2) (K0f_s1 a5 r1) (fun (s : (List F) × Int) τ Γ => s.1.length = r1.length ∧ WeakLe τ [(2, (sFc a5)), (7, oref 0 1 0 r1.length), (13, i64 ((r1.length : Nat) : Int)), (14, i64 s.2)] ∧ DeadLe Γ [⟨1, some (s.1.map f32)⟩]) ?_ _ _ _ hz_2 ⟨rfl, ⟨aR, aR, aR, aR, trivial⟩, ⟨⟨rfl, .inr rfl⟩, trivial⟩⟩))
  rintro ⟨L2, v4⟩ τ2 Γ2 y2_ ⟨hl3, hw2, hd2⟩ h2_ ho2 hr2
  refine RunC.wl (τ' := [(2, (sFc a5)), (7, oref 0 1 0 r1.length), (13, i64 ((r1.length : Nat) : Int)), (14, i64 v4)]) (Γ' := [oF 1 L2]) hw2 hd2 ?_
  replace hl3 : L2.length = r1.length := hl3
  replace h2_ : K0f_b1 a5 r1 L2 v4 = some y2_ := h2_
  unfold K0f_b1 at h2_
  refine yS ?_
  rcases oB h2_ with ⟨hc2, h2_⟩ | ⟨hc2, h2_⟩
  ·refine yW<|yl rfl (b true) (LOp.eqb (LOp.lss rfl rfl rfl) hc2)<|zN ?_
   refine yS<|yT<|RunC.skip<|yS<|RunC.block<|zQ<|ym rfl (i64 v4)<|ya rfl (i64 v4)<|zN ?_
   obtain ⟨e5, he3, h2_⟩ := oS h2_
   obtain ⟨e6, he4, h2_⟩ := oS h2_
   obtain ⟨x7, hx5, h2_⟩ := oL h2_
   obtain ⟨L8, he6, h2_⟩ := oS h2_
   refine RunC.region_draw (Γ' := [oF 1 L2]) 12 mixed 
    (tm rfl (oref 0 1 0 r1.length) <|
    (tm rfl (i64 v4) <|
    (tm rfl (sFc a5) <|
    (tm rfl (i64 v4) <|
    (tl rfl (ptr [f32 e5]) (LOp.le (LOp.ix (f := f32) und23 siz26 rfl rfl rfl rfl he3) ALe.ptr) <|
    (tl rfl (f32 e5) (n2 agg26) <|
    (tm rfl (oref 0 1 0 r1.length) <|
    (tm rfl (i64 v4) <|
    (TR.d (r := optr 0 1 v4.toNat) (fs := []) rfl rfl (TOp.ixo und23 siz26 rfl rfl rfl (at_in he4 hl3) rfl) <|
    (TR.d (r := f32 e6) (fs := []) rfl rfl (TOp.load1_o rfl (at_cell he4) agg26 rfl rfl) <|
    (TR.d (r := f32 x7) (fs := []) rfl rfl (TOp.eqr (TOp.fop (.inr (.inl rfl)) rfl (OpF.tmp rfl) (OpF.tmp rfl)) (congrArg (f .f32) hx5)) <|
    (TR.d (r := optr 0 1 v4.toNat) (fs := []) rfl rfl (TOp.ixo und23 siz26 rfl rfl rfl (set_in he6 hl3) rfl) <|
    TR.nil)))))))))))) rfl (by kernel_rfl) rfl fills_nil rfl ?_
   iterate 12 refine ROps.dropS ?_
   refine ROps.drop0<|ROps.st (f := f32) (i := v4) (Γ' := [oF 1 L8]) rfl siz26 rfl rfl rfl aR rfl rfl rfl he6 rfl<|zN ?_
   refine RunC.wl (τ' := [(2, (sFc a5)), (7, oref 0 1 0 r1.length), (13, i64 ((r1.length : Nat) : Int)), (14, i64 v4)]) (Γ' := [oF 1 L8]) ⟨aR, aR, aR, aR, trivial⟩ ⟨⟨rfl, .inr rfl⟩, trivial⟩ ?_
   obtain ⟨x9, hx7, h2_⟩ := oL h2_
   refine yW<|yl rfl (i64 x9) (LOp.eqr (LOp.add rfl rfl rfl) (congrArg (ik .i64) hx7))<|ym rfl (i64 x9)<|zN ?_
   cases oI h2_
   exact ⟨_, rfl, ((setAt?_len he6).trans hl3), ⟨aR, aR, aR, aR, trivial⟩, ⟨⟨rfl, .inr rfl⟩, trivial⟩⟩
  ·refine yW<|yl rfl (b false) (LOp.eqb (LOp.lss rfl rfl rfl) hc2)<|zN ?_
   refine yS<|yF<|RunC.exit ?_
   cases oI h2_
   have hx := ho2 _ rfl
   exact ⟨L2, hl3, ⟨aR, trivial⟩, ⟨⟨rfl, .inr rfl⟩, trivial⟩, hx⟩
 ·rintro τ3 Γ3 ⟨L10, hl11, hw3, hd3, rfl⟩
  refine RunC.wl hw3 hd3 ?_
  replace h : K0f_k1 L10 = some q0 := h
  unfold K0f_k1 at h
  refine zQ<|ym rfl (oref 0 1 0 r1.length)<|ya rfl (oref 0 1 0 r1.length)<|zN ?_
  refine RunC.ret ?_
  have hq := oI h
  subst q0
  exact yB (oref 0 1 0 L10.length) [(0, 1)] (Res.eq (Res.one rfl (RV.tmp rfl)) (by first | rfl | (rw [(show L10.length = r1.length from hl11)] <;> rfl))) (sA rfl trivial)
def K0g_b1 (a0 : List F) (a1 : List F) (y1 : F) (v2 : Int) : Option (LR (F × Int) (F) (F)) :=
 bsel (decide (v2 < (a0.length : Int))) (
  obind (at? a0 v2) fun (e3 : F) =>
  obind (at? a1 v2) fun (e4 : F) =>
  olet (fop .mul .f32 e3 e4) fun (x5 : F) =>
  olet (fop .add .f32 y1 x5) fun (x6 : F) =>
  olet (IntKind.i64.wrap (v2 + 1)) fun (x7 : Int) =>
  some (LR.next (x6, x7))) (
  some (LR.out y1))
def K0g_s1 (a0 : List F) (a1 : List F) : (F × Int) → Option (LR (F × Int) (F) (F)) := fun s => K0g_b1 a0 a1 s.1 s.2
def K0g_k1 (y8 : F) : Option (F) :=
 some y8
def K0g (a0 : List F) (a1 : List F) : Option (F) :=
 obind (loopM (K0g_s1 a0 a1) (some 0, 0)) fun z => osum z (fun e => K0g_k1 e) (fun r => some r)
theorem K0g_ok (a0 : List F) (a1 : List F) (q0 : F) (h : K0g a0 a1 = some q0) : Ev Try.prog 174 [(sFc a0), (sFc a1)] [] (f32 q0) [] := by
 refine yE Try.func174 0 51 0 [(0, (sFc a0)), (1, (sFc a1))] [] rfl ?_
 unfold K0g at h
 refine zQ<|yl rfl (f32 (some 0)) (LOp.le (LOp.assign rfl rfl) (ALe.fl (by kernel_rfl) (by kernel_rfl)))<|zN ?_
 refine zQ<|yl rfl (f32 (some 0)) (LOp.le (LOp.assign rfl rfl) (ALe.fl (by kernel_rfl) (by kernel_rfl)))<|zN ?_
 refine yS<|zQ<|ya rfl (i64 0)<|zN ?_
 obtain ⟨z2, hz_2, h⟩ := oS h
 refine RunC.cutN (fun τ Γ => ∃ (y8 : F), WeakLe τ [(5, f32 y8)] ∧ DeadLe Γ [] ∧ z2 = .inl y8) ?_ ?_
 ·refine RunC.block (RunC.loop (RunL.loopM (x := z2) (K0g_s1 a0 a1) (fun (s : F × Int) τ Γ => WeakLe τ [(0, (sFc a0)), (1, (sFc a1)), (5, f32 s.1), (6, i64 s.2)] ∧ DeadLe Γ []) ?_ _ _ _ hz_2 ⟨⟨aR, aR, aR, aR, trivial⟩, trivial⟩))
  rintro ⟨y1, v2⟩ τ2 Γ2 y2_ ⟨hw2, hd2⟩ h2_ ho2 hr2
  refine RunC.wl (τ' := [(0, (sFc a0)), (1, (sFc a1)), (5, f32 y1), (6, i64 v2)]) (Γ' := []) hw2 hd2 ?_
  replace h2_ : K0g_b1 a0 a1 y1 v2 = some y2_ := h2_
  unfold K0g_b1 at h2_
  refine yS<|yS ?_
  rcases oB h2_ with ⟨hc1, h2_⟩ | ⟨hc1, h2_⟩
  ·refine yW<|ym rfl (i64 v2)<|ym rfl (sFc a0)<|yl rfl (i64 (a0.length : Int)) (LOp.len_sl und23 rfl rfl)<|yl rfl (b true) (LOp.eqb (LOp.lss rfl rfl rfl) hc1)<|zN ?_
   refine yT<|RunC.skip<|yS<|RunC.block ?_
   obtain ⟨e3, he2, h2_⟩ := oS h2_
   obtain ⟨e4, he3, h2_⟩ := oS h2_
   obtain ⟨x5, hx4, h2_⟩ := oL h2_
   obtain ⟨x6, hx5, h2_⟩ := oL h2_
   refine RunC.region_draw (Γ' := []) 12 mixed 
    (tm rfl (f32 y1) <|
    (tm rfl (sFc a0) <|
    (tm rfl (i64 v2) <|
    (tl rfl (ptr [f32 e3]) (LOp.le (LOp.ix (f := f32) und23 siz26 rfl rfl rfl rfl he2) ALe.ptr) <|
    (tl rfl (f32 e3) (n2 agg26) <|
    (tm rfl (sFc a1) <|
    (tm rfl (i64 v2) <|
    (tl rfl (ptr [f32 e4]) (LOp.le (LOp.ix (f := f32) und23 siz26 rfl rfl rfl rfl he3) ALe.ptr) <|
    (tl rfl (f32 e4) (n2 agg26) <|
    (TR.d (r := f32 x5) (fs := []) rfl rfl (TOp.eqr (TOp.fop (.inr (.inr (.inl rfl))) rfl (OpF.tmp rfl) (OpF.tmp rfl)) (congrArg (f .f32) hx4)) <|
    (TR.d (r := f32 x6) (fs := []) rfl rfl (TOp.eqr (TOp.fop (.inl rfl) rfl (OpF.tmp rfl) (OpF.tmp rfl)) (congrArg (f .f32) hx5)) <|
    (tl rfl (f32 x6) (LOp.assign rfl rfl) <|
    TR.nil)))))))))))) rfl (by kernel_rfl) rfl fills_nil rfl ?_
   iterate 12 refine ROps.dropS ?_
   refine ROps.drop0<|zN ?_
   refine RunC.wl (τ' := [(0, (sFc a0)), (1, (sFc a1)), (5, f32 x6), (6, i64 v2)]) (Γ' := []) ⟨aR, aR, aR, aR, trivial⟩ trivial ?_
   obtain ⟨x7, hx6, h2_⟩ := oL h2_
   refine yW<|ym rfl (i64 v2)<|yl rfl (i64 x7) (LOp.eqr (LOp.add rfl rfl rfl) (congrArg (ik .i64) hx6))<|ya rfl (i64 x7)<|zN ?_
   cases oI h2_
   exact ⟨_, rfl, ⟨aR, aR, aR, aR, trivial⟩, trivial⟩
  ·refine yW<|ym rfl (i64 v2)<|ym rfl (sFc a0)<|yl rfl (i64 (a0.length : Int)) (LOp.len_sl und23 rfl rfl)<|yl rfl (b false) (LOp.eqb (LOp.lss rfl rfl rfl) hc1)<|zN ?_
   refine yF<|RunC.exit ?_
   cases oI h2_
   have hx := ho2 _ rfl
   exact ⟨y1, ⟨aR, trivial⟩, trivial, hx⟩
 ·rintro τ3 Γ3 ⟨y8, hw3, hd3, rfl⟩
  refine RunC.wl hw3 hd3 ?_
  replace h : K0g_k1 y8 = some q0 := h
  unfold K0g_k1 at h
  refine zQ<|ym rfl (f32 y8)<|ya rfl (f32 y8)<|zN ?_
  refine RunC.ret ?_
  have hq := oI h
  subst q0
  exact bR rfl
def K0h (a0 : F) : Option (F) :=
 olet (fsqrt a0) fun (x1 : F) =>
 some x1
theorem K0h_ok (a0 : F) (q0 : F) (h : K0h a0 = some q0) : Ev Try.prog 197 [f64 a0] [] (f64 q0) [] := by
 refine yE Try.func197 0 11 0 [(0, f64 a0)] [] rfl ?_
 unfold K0h at h
 refine zQ<|yl rfl (f64 (some 0)) (LOp.le (LOp.assign rfl rfl) (ALe.fl (by kernel_rfl) (by kernel_rfl)))<|zN ?_
 refine yS ?_
 obtain ⟨x1, hx1, h⟩ := oL h
 refine yW<|ym rfl (f64 a0)<|yd rfl (f64 x1) (TOp.eqr (TOp.fsqrt ext212 rfl (OpF.tmp rfl)) (congrArg (f .f64) hx1))<|ya rfl (f64 x1)<|zN ?_
 refine RunC.ret ?_
 have hq := oI h
 subst q0
 exact bR rfl
def K0i (a0 : F) : Option (F) :=
 obind (fnarrow a0) fun (y1 : F) =>
 some y1
theorem K0i_ok (a0 : F) (q0 : F) (h : K0i a0 = some q0) : Ev Try.prog 205 [f64 a0] [] (f32 q0) [] := by
 refine yE Try.func205 0 11 0 [(0, f64 a0)] [] rfl ?_
 unfold K0i at h
 refine zQ<|yl rfl (f32 (some 0)) (LOp.le (LOp.assign rfl rfl) (ALe.fl (by kernel_rfl) (by kernel_rfl)))<|zN ?_
 refine yS ?_
 obtain ⟨y1, hy1, h⟩ := oS h
 refine yW<|ym rfl (f64 a0)<|yd rfl (f32 y1) (TOp.narrow (src := 56) (dst := 26) ⟨_, pun56⟩ pun26 rfl (OpF.tmp rfl) hy1)<|ya rfl (f32 y1)<|zN ?_
 refine RunC.ret ?_
 have hq := oI h
 subst q0
 exact bR rfl
def K0j (a0 : F) : Option (F) :=
 olet (fwiden a0) fun (x1 : F) =>
 obind (K0h x1) fun (r2 : F) =>
 obind (K0i r2) fun (r3 : F) =>
 some r3
theorem K0j_ok (a0 : F) (q0 : F) (h : K0j a0 = some q0) : Ev Try.prog 173 [f32 a0] [] (f32 q0) [] := by
 refine yE Try.func173 0 15 0 [(0, f32 a0)] [] rfl ?_
 unfold K0j at h
 refine zQ<|yl rfl (f32 (some 0)) (LOp.le (LOp.assign rfl rfl) (ALe.fl (by kernel_rfl) (by kernel_rfl)))<|zN ?_
 refine yS ?_
 obtain ⟨x1, hx1, h⟩ := oL h
 obtain ⟨r2, hf2, h⟩ := oS h
 obtain ⟨r3, hf3, h⟩ := oS h
 refine yW<|ym rfl (f32 a0)<|yd rfl (f64 x1) (TOp.eqr (TOp.widen (src := 26) (dst := 56) ⟨_, pun26⟩ pun56 rfl (OpF.tmp rfl)) (congrArg (f .f64) hx1))<|yd rfl (f64 r2) (yc ent197 rfl rfl bN0 (K0h_ok x1 r2 hf2))<|yd rfl (f32 r3) (yc ent205 rfl rfl bN0 (K0i_ok r2 r3 hf3))<|ya rfl (f32 r3)<|zN ?_
 refine RunC.ret ?_
 have hq := oI h
 subst q0
 exact bR rfl
def K0k (a0 : List F) : Option (F) :=
 obind (K0g a0 a0) fun (r1 : F) =>
 obind (K0j r1) fun (r2 : F) =>
 some r2
theorem K0k_ok (a0 : List F) (q0 : F) (h : K0k a0 = some q0) : Ev Try.prog 75 [(sFc a0)] [] (f32 q0) [] := by
 refine yE Try.func75 0 15 0 [(0, (sFc a0))] [] rfl ?_
 unfold K0k at h
 refine zQ<|yl rfl (f32 (some 0)) (LOp.le (LOp.assign rfl rfl) (ALe.fl (by kernel_rfl) (by kernel_rfl)))<|zN ?_
 refine yS ?_
 obtain ⟨r1, hf1, h⟩ := oS h
 obtain ⟨r2, hf2, h⟩ := oS h
 refine yW<|ym rfl (sFc a0)<|ym rfl (sFc a0)<|yd rfl (f32 r1) (yc ent174 rfl rfl (bS (bS bN)) (K0g_ok a0 a0 r1 hf1))<|yd rfl (f32 r2) (yc ent173 rfl rfl bN0 (K0j_ok r1 r2 hf2))<|ya rfl (f32 r2)<|zN ?_
 refine RunC.ret ?_
 have hq := oI h
 subst q0
 exact bR rfl
def K0l_b1 (a0 : Int) (r6 : List F) (v7 : Int) : Option (LR (Int) (Unit) (Int × Bool × (List F))) :=
 bsel (decide (v7 < a0)) (
  olet (IntKind.i64.wrap (v7 * a0)) fun (x8 : Int) =>
  olet (IntKind.i64.wrap (x8 + v7)) fun (x9 : Int) =>
  obind (at? r6 x9) fun (e10 : F) =>
  bsel (feq .f32 e10 (some 0)) (
   some (LR.ret (0, false, ([] : List F)))) (
   olet (IntKind.i64.wrap (v7 + 1)) fun (x11 : Int) =>
   some (LR.next x11))) (
  some (LR.out ()))
def K0l_s1 (a0 : Int) (r6 : List F) : (Int) → Option (LR (Int) (Unit) (Int × Bool × (List F))) := fun s => K0l_b1 a0 r6 s
def K0l_k13 (v22 : Int) (y31 : F) : Option (LR (F × Int) (F) (Int × Bool × (List F))) :=
 olet (IntKind.i64.wrap (v22 + 1)) fun (x33 : Int) =>
 some (LR.next (y31, x33))
def K0l_b14 (a1 : List Int) (a2 : List Int) (a3 : List F) (L16 : List F) (v18 : Int) (y21 : F) (v22 : Int) : Option (LR (F × Int) (F) (Int × Bool × (List F))) :=
 olet (IntKind.i64.wrap (v18 + 1)) fun (x23 : Int) =>
 obind (at? a1 x23) fun (e24 : Int) =>
 bsel (decide (v22 < e24)) (
  obind (at? a2 v22) fun (e25 : Int) =>
  bsel (!decide (e25 = v18)) (
   obind (at? a3 v22) fun (e26 : F) =>
   obind (at? a2 v22) fun (e27 : Int) =>
   obind (at? L16 e27) fun (e28 : F) =>
   olet (fop .mul .f32 e26 e28) fun (x29 : F) =>
   olet (fop .sub .f32 y21 x29) fun (x30 : F) =>
   K0l_k13 v22 x30) (
   K0l_k13 v22 y21)) (
  some (LR.out y21))
def K0l_s14 (a1 : List Int) (a2 : List Int) (a3 : List F) (L16 : List F) (v18 : Int) : (F × Int) → Option (LR (F × Int) (F) (Int × Bool × (List F))) := fun s => K0l_b14 a1 a2 a3 L16 v18 s.1 s.2
def K0l_k14 (a0 : Int) (a5 : F) (r6 : List F) (L16 : List F) (v18 : Int) (y35 : F) : Option (LR ((List F) × Int) ((List F)) (Int × Bool × (List F))) :=
 olet (IntKind.i64.wrap (v18 * a0)) fun (x36 : Int) =>
 olet (IntKind.i64.wrap (x36 + v18)) fun (x37 : Int) =>
 obind (at? r6 x37) fun (e38 : F) =>
 olet (fop .quo .f32 y35 e38) fun (x39 : F) =>
 obind (at? L16 v18) fun (e40 : F) =>
 obind (at? L16 v18) fun (e41 : F) =>
 olet (fop .sub .f32 x39 e41) fun (x42 : F) =>
 olet (fop .mul .f32 a5 x42) fun (x43 : F) =>
 olet (fop .add .f32 e40 x43) fun (x44 : F) =>
 obind (setAt? L16 v18 x44) fun (L45 : List F) =>
 olet (IntKind.i64.wrap (v18 + 1)) fun (x46 : Int) =>
 some (LR.next (L45, x46))
def K0l_b15 (a0 : Int) (a1 : List Int) (a2 : List Int) (a3 : List F) (a4 : List F) (a5 : F) (r6 : List F) (L16 : List F) (v18 : Int) : Option (LR ((List F) × Int) ((List F)) (Int × Bool × (List F))) :=
 bsel (decide (v18 < a0)) (
  obind (at? a4 v18) fun (e19 : F) =>
  obind (at? a1 v18) fun (e20 : Int) =>
  obind (loopM (K0l_s14 a1 a2 a3 L16 v18) (e19, e20)) fun z => osum z (fun e => K0l_k14 a0 a5 r6 L16 v18 e) (fun r => some (LR.ret r))) (
  some (LR.out L16))
def K0l_s15 (a0 : Int) (a1 : List Int) (a2 : List Int) (a3 : List F) (a4 : List F) (a5 : F) (r6 : List F) : ((List F) × Int) → Option (LR ((List F) × Int) ((List F)) (Int × Bool × (List F))) := fun s => K0l_b15 a0 a1 a2 a3 a4 a5 r6 s.1 s.2
def K0l_k15 (a0 : Int) (a1 : List Int) (a2 : List Int) (a3 : List F) (a4 : List F) (a6 : F) (v15 : Int) (L47 : List F) : Option (LR ((List F) × Int) (Unit) (Int × Bool × (List F))) :=
 obind (K0f a0 a1 a2 a3 L47 a4) fun (r49 : List F) =>
 obind (K0k r49) fun (r50 : F) =>
 obind (K08 L47) fun (r51 : Bool) =>
 bsel r51 (
  obind (K07 r50) fun (r52 : Bool) =>
  bsel r52 (
   bsel (fle .f32 r50 a6) (
    some (LR.ret (v15, true, L47))) (
    olet (IntKind.i64.wrap (v15 + 1)) fun (x53 : Int) =>
    some (LR.next (L47, x53)))) (
   some (LR.ret (0, false, ([] : List F))))) (
  some (LR.ret (0, false, ([] : List F))))
def K0l_b16 (a0 : Int) (a1 : List Int) (a2 : List Int) (a3 : List F) (a4 : List F) (a5 : F) (a6 : F) (a7 : Int) (r6 : List F) (L13 : List F) (v15 : Int) : Option (LR ((List F) × Int) (Unit) (Int × Bool × (List F))) :=
 bsel (decide (v15 ≤ a7)) (
  obind (loopM (K0l_s15 a0 a1 a2 a3 a4 a5 r6) (L13, 0)) fun z => osum z (fun e => K0l_k15 a0 a1 a2 a3 a4 a6 v15 e) (fun r => some (LR.ret r))) (
  some (LR.out ()))
def K0l_s16 (a0 : Int) (a1 : List Int) (a2 : List Int) (a3 : List F) (a4 : List F) (a5 : F) (a6 : F) (a7 : Int) (r6 : List F) : ((List F) × Int) → Option (LR ((List F) × Int) (Unit) (Int × Bool × (List F))) := fun s => K0l_b16 a0 a1 a2 a3 a4 a5 a6 a7 r6 s.1 s.2
def K0l_k16  : Option (Int × Bool × (List F)) :=
 some (0, false, ([] : List F))
def K0l_k1 (a0 : Int) (a1 : List Int) (a2 : List Int) (a3 : List F) (a4 : List F) (a5 : F) (a6 : F) (a7 : Int) (r6 : List F) : Option (Int × Bool × (List F)) :=
 need (mkok 4 a0) <|
 obind (loopM (K0l_s16 a0 a1 a2 a3 a4 a5 a6 a7 r6) ((List.replicate a0.toNat (some 0)), 1)) fun z => osum z (fun _ => K0l_k16) (fun r => some r)
def K0l (a0 : Int) (a1 : List Int) (a2 : List Int) (a3 : List F) (a4 : List F) (a5 : F) (a6 : F) (a7 : Int) : Option (Int × Bool × (List F)) :=
 obind (K0a a0 a1 a2 a3 a4) fun (r1 : Bool) =>
 bsel r1 (
  bsel (flt .f32 (some 0) a5) (
   bsel (flt .f32 a5 (some 1073741824)) (
    obind (K0b a6) fun (r2 : Bool) =>
    bsel r2 (
     obind (K06 a7 1 128) fun (r3 : Bool) =>
     bsel r3 (
      obind3 (K0d a0 a1 a2 a3) fun (r4 : Int) (r5 : List Bool) (r6 : List F) =>
      obind (loopM (K0l_s1 a0 r6) 0) fun z => osum z (fun e => K0l_k1 a0 a1 a2 a3 a4 a5 a6 a7 r6) (fun r => some r)) (
      some (0, false, ([] : List F)))) (
     some (0, false, ([] : List F)))) (
    some (0, false, ([] : List F)))) (
   some (0, false, ([] : List F)))) (
  some (0, false, ([] : List F)))
theorem K0l_ok (a0 : Int) (a1 : List Int) (a2 : List Int) (a3 : List F) (a4 : List F) (a5 : F) (a6 : F) (a7 : Int) (q0 : Int) (q1 : Bool) (q2 : List F) (h : K0l a0 a1 a2 a3 a4 a5 a6 a7 = some (q0, q1, q2)) : Ev Try.prog 9 [agg [i64 a0, sl a1.length (a1.map i64), sl a2.length (a2.map i64), (sFc a3)], (sFc a4), f32 a5, f32 a6, i64 a7] [] (tup [oref 0 0 0 q2.length, i64 q0, b q1]) [oF 0 q2] := by
 refine yE Try.func9 5 327 0 ([(0, agg [i64 a0, sl a1.length (a1.map i64), sl a2.length (a2.map i64), (sFc a3)]), (1, (sFc a4)), (2, f32 a5), (3, f32 a6), (4, i64 a7)]) [o0, o0, o0, o0, o0] rfl ?_
 unfold K0l at h
 refine zQ<|yd rfl (ptr [i64 a0, sl a1.length (a1.map i64), sl a2.length (a2.map i64), (sFc a3)]) (TOp.box_s rfl rfl rfl)<|ya rfl nilsl<|ya rfl (i64 0)<|ya rfl (b false)<|zN ?_
 refine yS<|yS ?_
 obtain ⟨r1, hf1, h⟩ := oS h
 rcases oB h with ⟨hc2, h⟩ | ⟨hc2, h⟩
 ·rcases oB h with ⟨hc3, h⟩ | ⟨hc3, h⟩
  ·rcases oB h with ⟨hc4, h⟩ | ⟨hc4, h⟩
   ·obtain ⟨r2, hf5, h⟩ := oS h
    rcases oB h with ⟨hc6, h⟩ | ⟨hc6, h⟩
    ·obtain ⟨r3, hf7, h⟩ := oS h
     rcases oB h with ⟨hc8, h⟩ | ⟨hc8, h⟩
     ·refine yW<|ym rfl (sFc a4)<|yd rfl (b true) (TOp.eqb (TOp.callB (CallAs.func ent71 rfl rfl) (Bors.cons (Bor.ptr (bP (bS (bS (bS bN))))) (bS bN)) rfl rfl (K0a_ok a0 a1 a2 a3 a4 r1 hf1)) hc2)<|yl rfl (b false) n1<|ym rfl (b false)<|ym rfl (f32 a5)<|yl rfl (b true) (LOp.eqb (LOp.fgt rfl (OpF.tmp rfl) (OpF.const rfl (by kernel_rfl) (by kernel_rfl))) hc3)<|ym rfl (b true)<|ym rfl (f32 a5)<|yl rfl (b true) (LOp.eqb (LOp.flt rfl (OpF.tmp rfl) (OpF.const rfl (by kernel_rfl) (by kernel_rfl))) hc4)<|yl rfl (b true) yq<|yl rfl (b false) n1<|yl rfl (b false) yp<|ym rfl (b false)<|ym rfl (f32 a6)<|yd rfl (b true) (TOp.eqb (yc ent72 rfl rfl bN0 (K0b_ok a6 r2 hf5)) hc6)<|yl rfl (b false) n1<|yl rfl (b false) yp<|ym rfl (b false)<|ym rfl (i64 a7)<|yd rfl (b true) (TOp.eqb (yc ent73 rfl rfl (bP (bP bN0)) (K06_ok a7 1 128 r3 hf7)) hc8)<|yl rfl (b false) n1<|yl rfl (b false) yp<|zN ?_
      refine RunC.wl (τ' := [(1, (sFc a4)), (2, f32 a5), (3, f32 a6), (4, i64 a7), (5, ptr [i64 a0, sl a1.length (a1.map i64), sl a2.length (a2.map i64), (sFc a3)]), (43, b false)]) (Γ' := [o0, o0, o0, o0, o0]) ⟨aR, aR, aR, aR, aR, aR, trivial⟩ ⟨⟨rfl, .inr rfl⟩, ⟨rfl, .inr rfl⟩, ⟨rfl, .inr rfl⟩, ⟨rfl, .inr rfl⟩, ⟨rfl, .inr rfl⟩, trivial⟩<|yF<|RunC.skip<|yS ?_
      obtain ⟨r4, r5, r6, hf9, h⟩ := obind3_some h
      refine yW<|ye rfl (agg [i64 r4, oref 0 1 0 r5.length, oref 1 1 0 r6.length]) [⟨1, some (r5.map b)⟩, oF 1 r6, o0, o0, o0] (TOp.callBN (ls := [(r5.map b), (r6.map f32)]) [0, 1] (CallAs.func ent74 rfl rfl) (Bors.cons (Bor.ptr (bP (bS (bS (bS bN))))) bN) rfl (K0d_ok a0 a1 a2 a3 r4 r5 r6 hf9) (and_all (lts0_map (f := b) (fun _ => rfl) _) (and_all (lts0_map (f := f32) (fun _ => rfl) _) rfl)) (and_all (noss_map (f := b) (fun _ => rfl) _) (and_all (noss_map (f := f32) (fun _ => rfl) _) rfl)) rfl (by decide) (ns_of ⟨⟨_, rfl⟩, ⟨_, rfl⟩, trivial⟩))<|ye rfl (optr 2 1 0) ([⟨1, some (r5.map b)⟩, oF 1 r6, ⟨1, some [i64 0, nilsl, nilsl]⟩, o0, o0]) (TOp.alloc_o (g := o0) 2 rfl zer91 zok91 rfl)<|ys (agg [i64 r4, oref 0 1 0 r5.length, oref 1 1 0 r6.length]) [i64 r4, oref 0 1 0 r5.length, oref 1 1 0 r6.length] ([⟨1, some (r5.map b)⟩, oF 1 r6, ⟨1, some [i64 r4, oref 0 1 0 r5.length, oref 1 1 0 r6.length]⟩, o0, o0]) siz91<|zN ?_
      refine yS<|zQ<|ya rfl (i64 0)<|zN ?_
      obtain ⟨z17, hz_17, h⟩ := oS h
      refine RunC.cutN (fun τ Γ => WeakLe τ [(1, (sFc a4)), (2, f32 a5), (3, f32 a6), (4, i64 a7), (5, ptr [i64 a0, sl a1.length (a1.map i64), sl a2.length (a2.map i64), (sFc a3)]), (13, optr 2 1 0)] ∧ DeadLe Γ [⟨1, some (r5.map b)⟩, oF 1 r6, ⟨1, some [i64 r4, oref 0 1 0 r5.length, oref 1 1 0 r6.length]⟩, o0, o0] ∧ z17 = .inl ()) ?_ ?_
      ·refine RunC.block (RunC.loop (RunL.loopM (x := z17) (K0l_s1 a0 r6) (fun (s : Int) τ Γ => WeakLe τ [(1, (sFc a4)), (2, f32 a5), (3, f32 a6), (4, i64 a7), (5, ptr [i64 a0, sl a1.length (a1.map i64), sl a2.length (a2.map i64), (sFc a3)]), (13, optr 2 1 0), (14, i64 s)] ∧ DeadLe Γ [⟨1, some (r5.map b)⟩, oF 1 r6, ⟨1, some [i64 r4, oref 0 1 0 r5.length, oref 1 1 0 r6.length]⟩, o0, o0]) ?_ _ _ _ hz_17 ⟨⟨aR, aR, aR, aR, aR, aR, aR, trivial⟩, ⟨⟨rfl, .inr rfl⟩, ⟨rfl, .inr rfl⟩, ⟨rfl, .inr rfl⟩, ⟨rfl, .inr rfl⟩, ⟨rfl, .inr rfl⟩, trivial⟩⟩))
       rintro v7 τ17 Γ17 y17_ ⟨hw17, hd17⟩ h17_ ho17 hr17
       refine RunC.wl (τ' := [(1, (sFc a4)), (2, f32 a5), (3, f32 a6), (4, i64 a7), (5, ptr [i64 a0, sl a1.length (a1.map i64), sl a2.length (a2.map i64), (sFc a3)]), (13, optr 2 1 0), (14, i64 v7)]) (Γ' := [⟨1, some (r5.map b)⟩, oF 1 r6, ⟨1, some [i64 r4, oref 0 1 0 r5.length, oref 1 1 0 r6.length]⟩, o0, o0]) hw17 hd17 ?_
       replace h17_ : K0l_b1 a0 r6 v7 = some y17_ := h17_
       unfold K0l_b1 at h17_
       refine yS<|yS ?_
       rcases oB h17_ with ⟨hc10, h17_⟩ | ⟨hc10, h17_⟩
       ·refine yW<|ym rfl (i64 v7)<|yl rfl (ptr [i64 a0, sl a1.length (a1.map i64), sl a2.length (a2.map i64), (sFc a3)]) (LOp.fap und30 rfl siz2 rfl rfl rfl)<|yl rfl (i64 a0) (n2 agg2)<|yl rfl (b true) (LOp.eqb (LOp.lss rfl rfl rfl) hc10)<|zN ?_
        refine yT<|RunC.skip<|yS<|RunC.block<|yS ?_
        obtain ⟨x8, hx11, h17_⟩ := oL h17_
        obtain ⟨x9, hx12, h17_⟩ := oL h17_
        obtain ⟨e10, he13, h17_⟩ := oS h17_
        rcases oB h17_ with ⟨hc14, h17_⟩ | ⟨hc14, h17_⟩
        ·refine yW<|yl rfl (optr 2 1 2) (LOp.fao und91 rfl siz23 rfl rfl rfl)<|yd rfl (oref 1 1 0 r6.length) (TOp.load1_o rfl rfl agg23 rfl rfl)<|ym rfl (i64 v7)<|yl rfl (ptr [i64 a0, sl a1.length (a1.map i64), sl a2.length (a2.map i64), (sFc a3)]) (LOp.fap und30 rfl siz2 rfl rfl rfl)<|yl rfl (i64 a0) (n2 agg2)<|yl rfl (i64 x8) (LOp.eqr (LOp.mul rfl rfl rfl) (congrArg (ik .i64) hx11))<|ym rfl (i64 v7)<|yl rfl (i64 x9) (LOp.eqr (LOp.add rfl rfl rfl) (congrArg (ik .i64) hx12))<|yd rfl (optr 1 1 x9.toNat) (TOp.ixo und23 siz26 rfl rfl rfl (at_in he13 rfl) rfl)<|yd rfl (f32 e10) (TOp.load1_o rfl (at_cell he13) agg26 rfl rfl)<|yl rfl (b true) (LOp.eqb (LOp.feq rfl (OpF.tmp rfl) (OpF.const rfl (by kernel_rfl) (by kernel_rfl))) hc14)<|zN ?_
         refine yT<|zQ<|ya rfl nilsl<|ya rfl (i64 0)<|ya rfl (b false)<|zN ?_
         refine RunC.nil_slot (Γ' := [⟨1, some (r5.map b)⟩, oF 1 r6, ⟨1, some [i64 r4, oref 0 1 0 r5.length, oref 1 1 0 r6.length]⟩, ⟨1, some (([] : List F).map f32)⟩, o0]) 10 3 rfl rfl rfl<|RunC.ret ?_
         cases oI h17_
         have hx18_ := hr17 _ rfl
         subst hx18_
         have hq := oI h
         obtain ⟨hq0, hq⟩ := Prod.mk.inj hq
         obtain ⟨hq1, hq⟩ := Prod.mk.inj hq
         subst q0
         subst q1
         subst q2
         exact yB (tup [oref 3 1 0 (([] : List F).length), i64 0, b false]) [(3, 1)] (Res.eq (Res.three rfl (RV.tmp rfl) (RV.tmp rfl) (RV.tmp rfl)) (by first | rfl | (rw [(show ([] : List F).length = 0 from rfl)] <;> rfl))) (sA rfl trivial)
        ·refine yW<|yl rfl (optr 2 1 2) (LOp.fao und91 rfl siz23 rfl rfl rfl)<|yd rfl (oref 1 1 0 r6.length) (TOp.load1_o rfl rfl agg23 rfl rfl)<|ym rfl (i64 v7)<|yl rfl (ptr [i64 a0, sl a1.length (a1.map i64), sl a2.length (a2.map i64), (sFc a3)]) (LOp.fap und30 rfl siz2 rfl rfl rfl)<|yl rfl (i64 a0) (n2 agg2)<|yl rfl (i64 x8) (LOp.eqr (LOp.mul rfl rfl rfl) (congrArg (ik .i64) hx11))<|ym rfl (i64 v7)<|yl rfl (i64 x9) (LOp.eqr (LOp.add rfl rfl rfl) (congrArg (ik .i64) hx12))<|yd rfl (optr 1 1 x9.toNat) (TOp.ixo und23 siz26 rfl rfl rfl (at_in he13 rfl) rfl)<|yd rfl (f32 e10) (TOp.load1_o rfl (at_cell he13) agg26 rfl rfl)<|yl rfl (b false) (LOp.eqb (LOp.feq rfl (OpF.tmp rfl) (OpF.const rfl (by kernel_rfl) (by kernel_rfl))) hc14)<|zN ?_
         refine yF<|RunC.skip ?_
         obtain ⟨x11, hx15, h17_⟩ := oL h17_
         refine yW<|ym rfl (i64 v7)<|yl rfl (i64 x11) (LOp.eqr (LOp.add rfl rfl rfl) (congrArg (ik .i64) hx15))<|ya rfl (i64 x11)<|zN ?_
         cases oI h17_
         exact ⟨_, rfl, ⟨aR, aR, aR, aR, aR, aR, aR, trivial⟩, ⟨⟨rfl, .inr rfl⟩, ⟨rfl, .inr rfl⟩, ⟨rfl, .inr rfl⟩, ⟨rfl, .inr rfl⟩, ⟨rfl, .inr rfl⟩, trivial⟩⟩
       ·refine yW<|ym rfl (i64 v7)<|yl rfl (ptr [i64 a0, sl a1.length (a1.map i64), sl a2.length (a2.map i64), (sFc a3)]) (LOp.fap und30 rfl siz2 rfl rfl rfl)<|yl rfl (i64 a0) (n2 agg2)<|yl rfl (b false) (LOp.eqb (LOp.lss rfl rfl rfl) hc10)<|zN ?_
        refine yF<|RunC.exit ?_
        cases oI h17_
        have hx := ho17 _ rfl
        exact ⟨⟨aR, aR, aR, aR, aR, aR, trivial⟩, ⟨⟨rfl, .inr rfl⟩, ⟨rfl, .inr rfl⟩, ⟨rfl, .inr rfl⟩, ⟨rfl, .inr rfl⟩, ⟨rfl, .inr rfl⟩, trivial⟩, hx⟩
      ·rintro τ19 Γ19 ⟨hw19, hd19, rfl⟩
       refine RunC.wl hw19 hd19 ?_
       replace h : K0l_k1 a0 a1 a2 a3 a4 a5 a6 a7 r6 = some (q0, q1, q2) := h
       unfold K0l_k1 at h
       refine yS ?_
       obtain ⟨hm16, h⟩ := need_some h
       refine yW<|yl rfl (ptr [i64 a0, sl a1.length (a1.map i64), sl a2.length (a2.map i64), (sFc a3)]) (LOp.fap und30 rfl siz2 rfl rfl rfl)<|yl rfl (i64 a0) (n2 agg2)<|ye rfl (oref 3 1 0 a0.toNat) ([⟨1, some (r5.map b)⟩, oF 1 r6, ⟨1, some [i64 r4, oref 0 1 0 r5.length, oref 1 1 0 r6.length]⟩, ⟨1, some ((List.replicate a0.toNat (some 0)).map f32)⟩, o0]) (TOp.mkS (g := o0) (t := 23) (e := 26) (by_ := 4) (f := f32) (zv := some 0) 3 rfl und23 tin26 rfl siz26 zer26 rfl zel26 rfl rfl rfl hm16)<|ya rfl (oref 3 1 0 a0.toNat)<|zN ?_
       refine yS<|zQ<|ya rfl (i64 1)<|zN ?_
       obtain ⟨z20, hz_20, h⟩ := oS h
       refine RunC.cutN (fun τ Γ => ∃ (u54 : Nat), WeakLe τ [] ∧ DeadLe Γ [⟨1, none⟩, ⟨1, none⟩, ⟨1, none⟩, ⟨1, none⟩, ⟨u54, none⟩] ∧ z20 = .inl ()) ?_ ?_
       ·refine RunC.block (RunC.loop (RunL.loopM (x := z20) (K0l_s16 a0 a1 a2 a3 a4 a5 a6 a7 r6) (fun (s : (List F) × Int) τ Γ => ∃ (u12 : Nat), s.1.length = a0.toNat ∧ WeakLe τ [(1, (sFc a4)), (2, f32 a5), (3, f32 a6), (4, i64 a7), (5, ptr [i64 a0, sl a1.length (a1.map i64), sl a2.length (a2.map i64), (sFc a3)]), (13, optr 2 1 0), (15, oref 3 1 0 a0.toNat), (16, i64 s.2)] ∧ DeadLe Γ [⟨1, some (r5.map b)⟩, oF 1 r6, ⟨1, some [i64 r4, oref 0 1 0 r5.length, oref 1 1 0 r6.length]⟩, ⟨1, some (s.1.map f32)⟩, ⟨u12, none⟩]) ?_ _ _ _ hz_20 ⟨0, List.length_replicate, ⟨aR, aR, aR, aR, aR, aR, aR, aR, trivial⟩, ⟨⟨rfl, .inr rfl⟩, ⟨rfl, .inr rfl⟩, ⟨rfl, .inr rfl⟩, ⟨rfl, .inr rfl⟩, ⟨rfl, .inl rfl⟩, trivial⟩⟩))
        rintro ⟨L13, v15⟩ τ20 Γ20 y20_ ⟨u12, hl14, hw20, hd20⟩ h20_ ho20 hr20
        refine RunC.wl (τ' := [(1, (sFc a4)), (2, f32 a5), (3, f32 a6), (4, i64 a7), (5, ptr [i64 a0, sl a1.length (a1.map i64), sl a2.length (a2.map i64), (sFc a3)]), (13, optr 2 1 0), (15, oref 3 1 0 a0.toNat), (16, i64 v15)]) (Γ' := [⟨1, some (r5.map b)⟩, oF 1 r6, ⟨1, some [i64 r4, oref 0 1 0 r5.length, oref 1 1 0 r6.length]⟩, oF 1 L13, ⟨u12, none⟩]) hw20 hd20 ?_
        replace hl14 : L13.length = a0.toNat := hl14
        replace h20_ : K0l_b16 a0 a1 a2 a3 a4 a5 a6 a7 r6 L13 v15 = some y20_ := h20_
        unfold K0l_b16 at h20_
        refine yS<|yS ?_
        rcases oB h20_ with ⟨hc17, h20_⟩ | ⟨hc17, h20_⟩
        ·refine yW<|ym rfl (i64 v15)<|ym rfl (i64 a7)<|yl rfl (b true) (LOp.eqb (LOp.leq rfl rfl rfl) hc17)<|zN ?_
         refine yT<|RunC.skip<|yS<|RunC.block<|yS<|zQ<|ya rfl (i64 0)<|zN ?_
         obtain ⟨z21, hz_21, h20_⟩ := oS h20_
         refine RunC.cutN (fun τ Γ => ∃ (L47 : List F), L47.length = a0.toNat ∧ WeakLe τ [(1, (sFc a4)), (2, f32 a5), (3, f32 a6), (4, i64 a7), (5, ptr [i64 a0, sl a1.length (a1.map i64), sl a2.length (a2.map i64), (sFc a3)]), (13, optr 2 1 0), (15, oref 3 1 0 a0.toNat), (16, i64 v15)] ∧ DeadLe Γ [⟨1, some (r5.map b)⟩, oF 1 r6, ⟨1, some [i64 r4, oref 0 1 0 r5.length, oref 1 1 0 r6.length]⟩, oF 1 L47, ⟨u12, none⟩] ∧ z21 = .inl L47) ?_ ?_
         ·refine RunC.block (RunC.loop (RunL.loopM (x := z21) (K0l_s15 a0 a1 a2 a3 a4 a5 r6) (fun (s : (List F) × Int) τ Γ => s.1.length = a0.toNat ∧ WeakLe τ [(1, (sFc a4)), (2, f32 a5), (3, f32 a6), (4, i64 a7), (5, ptr [i64 a0, sl a1.length (a1.map i64), sl a2.length (a2.map i64), (sFc a3)]), (13, optr 2 1 0), (15, oref 3 1 0 a0.toNat), (16, i64 v15), (17, i64 s.2)] ∧ DeadLe Γ [⟨1, some (r5.map b)⟩, oF 1 r6, ⟨1, some [i64 r4, oref 0 1 0 r5.length, oref 1 1 0 r6.length]⟩, ⟨1, some (s.1.map f32)⟩, ⟨u12, none⟩]) ?_ _ _ _ hz_21 ⟨hl14, ⟨aR, aR, aR, aR, aR, aR, aR, aR, aR, trivial⟩, ⟨⟨rfl, .inr rfl⟩, ⟨rfl, .inr rfl⟩, ⟨rfl, .inr rfl⟩, ⟨rfl, .inr rfl⟩, ⟨rfl, .inl rfl⟩, trivial⟩⟩))
          rintro ⟨L16, v18⟩ τ21 Γ21 y21_ ⟨hl17, hw21, hd21⟩ h21_ ho21 hr21
          refine RunC.wl (τ' := [(1, (sFc a4)), (2, f32 a5), (3, f32 a6), (4, i64 a7), (5, ptr [i64 a0, sl a1.length (a1.map i64), sl a2.length (a2.map i64), (sFc a3)]), (13, optr 2 1 0), (15, oref 3 1 0 a0.toNat), (16, i64 v15), (17, i64 v18)]) (Γ' := [⟨1, some (r5.map b)⟩, oF 1 r6, ⟨1, some [i64 r4, oref 0 1 0 r5.length, oref 1 1 0 r6.length]⟩, oF 1 L16, ⟨u12, none⟩]) hw21 hd21 ?_
          replace hl17 : L16.length = a0.toNat := hl17
          replace h21_ : K0l_b15 a0 a1 a2 a3 a4 a5 r6 L16 v18 = some y21_ := h21_
          unfold K0l_b15 at h21_
          refine yS<|yS ?_
          rcases oB h21_ with ⟨hc18, h21_⟩ | ⟨hc18, h21_⟩
          ·refine yW<|ym rfl (i64 v18)<|yl rfl (ptr [i64 a0, sl a1.length (a1.map i64), sl a2.length (a2.map i64), (sFc a3)]) (LOp.fap und30 rfl siz2 rfl rfl rfl)<|yl rfl (i64 a0) (n2 agg2)<|yl rfl (b true) (LOp.eqb (LOp.lss rfl rfl rfl) hc18)<|zN ?_
           refine yT<|RunC.skip<|yS<|RunC.block<|yS ?_
           obtain ⟨e19, he19, h21_⟩ := oS h21_
           refine yW<|ym rfl (sFc a4)<|ym rfl (i64 v18)<|yl rfl (ptr [f32 e19]) (LOp.le (LOp.ix (f := f32) und23 siz26 rfl rfl rfl rfl he19) ALe.ptr)<|yl rfl (f32 e19) (n2 agg26)<|ya rfl (f32 e19)<|zN ?_
           refine yS<|yS ?_
           obtain ⟨e20, he20, h21_⟩ := oS h21_
           refine yW<|yl rfl (ptr [sl a1.length (a1.map i64), sl a2.length (a2.map i64), (sFc a3)]) (LOp.fap und30 rfl siz22 rfl rfl rfl)<|yl rfl (sl a1.length (a1.map i64)) (n2 agg22)<|ym rfl (i64 v18)<|yl rfl (ptr [i64 e20]) (LOp.le (LOp.ix (f := i64) und22 siz2 rfl rfl rfl rfl he20) ALe.ptr)<|yl rfl (i64 e20) (n2 agg2)<|ya rfl (i64 e20)<|zN ?_
           obtain ⟨z22, hz_22, h21_⟩ := oS h21_
           refine RunC.cutN (fun τ Γ => ∃ (y35 : F), L16.length = a0.toNat ∧ WeakLe τ [(1, (sFc a4)), (2, f32 a5), (3, f32 a6), (4, i64 a7), (5, ptr [i64 a0, sl a1.length (a1.map i64), sl a2.length (a2.map i64), (sFc a3)]), (13, optr 2 1 0), (15, oref 3 1 0 a0.toNat), (16, i64 v15), (17, i64 v18), (18, f32 y35)] ∧ DeadLe Γ [⟨1, some (r5.map b)⟩, oF 1 r6, ⟨1, some [i64 r4, oref 0 1 0 r5.length, oref 1 1 0 r6.length]⟩, oF 1 L16, ⟨u12, none⟩] ∧ z22 = .inl y35) ?_ ?_
           ·refine RunC.block (RunC.loop (RunL.loopM (x := z22) (K0l_s14 a1 a2 a3 L16 v18) (fun (s : F × Int) τ Γ => WeakLe τ [(1, (sFc a4)), (2, f32 a5), (3, f32 a6), (4, i64 a7), (5, ptr [i64 a0, sl a1.length (a1.map i64), sl a2.length (a2.map i64), (sFc a3)]), (13, optr 2 1 0), (15, oref 3 1 0 a0.toNat), (16, i64 v15), (17, i64 v18), (18, f32 s.1), (19, i64 s.2)] ∧ DeadLe Γ [⟨1, some (r5.map b)⟩, oF 1 r6, ⟨1, some [i64 r4, oref 0 1 0 r5.length, oref 1 1 0 r6.length]⟩, oF 1 L16, ⟨u12, none⟩]) ?_ _ _ _ hz_22 ⟨⟨aR, aR, aR, aR, aR, aR, aR, aR, aR, aR, aR, trivial⟩, ⟨⟨rfl, .inr rfl⟩, ⟨rfl, .inr rfl⟩, ⟨rfl, .inr rfl⟩, ⟨rfl, .inr rfl⟩, ⟨rfl, .inl rfl⟩, trivial⟩⟩))
            rintro ⟨y21, v22⟩ τ22 Γ22 y22_ ⟨hw22, hd22⟩ h22_ ho22 hr22
            refine RunC.wl (τ' := [(1, (sFc a4)), (2, f32 a5), (3, f32 a6), (4, i64 a7), (5, ptr [i64 a0, sl a1.length (a1.map i64), sl a2.length (a2.map i64), (sFc a3)]), (13, optr 2 1 0), (15, oref 3 1 0 a0.toNat), (16, i64 v15), (17, i64 v18), (18, f32 y21), (19, i64 v22)]) (Γ' := [⟨1, some (r5.map b)⟩, oF 1 r6, ⟨1, some [i64 r4, oref 0 1 0 r5.length, oref 1 1 0 r6.length]⟩, oF 1 L16, ⟨u12, none⟩]) hw22 hd22 ?_
            replace h22_ : K0l_b14 a1 a2 a3 L16 v18 y21 v22 = some y22_ := h22_
            unfold K0l_b14 at h22_
            refine yS<|yS ?_
            obtain ⟨x23, hx21, h22_⟩ := oL h22_
            obtain ⟨e24, he22, h22_⟩ := oS h22_
            rcases oB h22_ with ⟨hc23, h22_⟩ | ⟨hc23, h22_⟩
            ·refine yW<|ym rfl (i64 v22)<|yl rfl (ptr [sl a1.length (a1.map i64), sl a2.length (a2.map i64), (sFc a3)]) (LOp.fap und30 rfl siz22 rfl rfl rfl)<|yl rfl (sl a1.length (a1.map i64)) (n2 agg22)<|ym rfl (i64 v18)<|yl rfl (i64 x23) (LOp.eqr (LOp.add rfl rfl rfl) (congrArg (ik .i64) hx21))<|yl rfl (ptr [i64 e24]) (LOp.le (LOp.ix (f := i64) und22 siz2 rfl rfl rfl rfl he22) ALe.ptr)<|yl rfl (i64 e24) (n2 agg2)<|yl rfl (b true) (LOp.eqb (LOp.lss rfl rfl rfl) hc23)<|zN ?_
             refine yT<|RunC.skip<|yS<|RunC.cutN (fun τ Γ => ∃ (y31 : F), L16.length = a0.toNat ∧ WeakLe τ [(1, (sFc a4)), (2, f32 a5), (3, f32 a6), (4, i64 a7), (5, ptr [i64 a0, sl a1.length (a1.map i64), sl a2.length (a2.map i64), (sFc a3)]), (13, optr 2 1 0), (15, oref 3 1 0 a0.toNat), (16, i64 v15), (17, i64 v18), (18, f32 y31), (19, i64 v22)] ∧ DeadLe Γ [⟨1, some (r5.map b)⟩, oF 1 r6, ⟨1, some [i64 r4, oref 0 1 0 r5.length, oref 1 1 0 r6.length]⟩, oF 1 L16, ⟨u12, none⟩] ∧ K0l_k13 v22 y31 = some y22_) ?_ ?_
             ·refine RunC.block<|yS ?_
              obtain ⟨e25, he24, h22_⟩ := oS h22_
              rcases oB h22_ with ⟨hc25, h22_⟩ | ⟨hc25, h22_⟩
              ·refine yW<|yl rfl (ptr [sl a2.length (a2.map i64), (sFc a3)]) (LOp.fap und30 rfl siz22 rfl rfl rfl)<|yl rfl (sl a2.length (a2.map i64)) (n2 agg22)<|ym rfl (i64 v22)<|yl rfl (ptr [i64 e25]) (LOp.le (LOp.ix (f := i64) und22 siz2 rfl rfl rfl rfl he24) ALe.ptr)<|yl rfl (i64 e25) (n2 agg2)<|ym rfl (i64 v18)<|yl rfl (b true) (LOp.eqb (LOp.neq rfl rfl rfl) hc25)<|zN ?_
               refine yT ?_
               obtain ⟨e26, he26, h22_⟩ := oS h22_
               obtain ⟨e27, he27, h22_⟩ := oS h22_
               obtain ⟨e28, he28, h22_⟩ := oS h22_
               obtain ⟨x29, hx29, h22_⟩ := oL h22_
               obtain ⟨x30, hx30, h22_⟩ := oL h22_
               refine RunC.region_draw (Γ' := [⟨1, some (r5.map b)⟩, oF 1 r6, ⟨1, some [i64 r4, oref 0 1 0 r5.length, oref 1 1 0 r6.length]⟩, oF 1 L16, ⟨u12, none⟩]) 17 mixed 
                (tm rfl (f32 y21) <|
                (tl rfl (ptr [(sFc a3)]) (LOp.fap und30 rfl siz23 rfl rfl rfl) <|
                (tl rfl (sFc a3) (n2 agg23) <|
                (tm rfl (i64 v22) <|
                (tl rfl (ptr [f32 e26]) (LOp.le (LOp.ix (f := f32) und23 siz26 rfl rfl rfl rfl he26) ALe.ptr) <|
                (tl rfl (f32 e26) (n2 agg26) <|
                (tm rfl (oref 3 1 0 a0.toNat) <|
                (tl rfl (ptr [sl a2.length (a2.map i64), (sFc a3)]) (LOp.fap und30 rfl siz22 rfl rfl rfl) <|
                (tl rfl (sl a2.length (a2.map i64)) (n2 agg22) <|
                (tm rfl (i64 v22) <|
                (tl rfl (ptr [i64 e27]) (LOp.le (LOp.ix (f := i64) und22 siz2 rfl rfl rfl rfl he27) ALe.ptr) <|
                (tl rfl (i64 e27) (n2 agg2) <|
                (TR.d (r := optr 3 1 e27.toNat) (fs := []) rfl rfl (TOp.ixo und23 siz26 rfl rfl rfl (at_in he28 hl17) rfl) <|
                (TR.d (r := f32 e28) (fs := []) rfl rfl (TOp.load1_o rfl (at_cell he28) agg26 rfl rfl) <|
                (TR.d (r := f32 x29) (fs := []) rfl rfl (TOp.eqr (TOp.fop (.inr (.inr (.inl rfl))) rfl (OpF.tmp rfl) (OpF.tmp rfl)) (congrArg (f .f32) hx29)) <|
                (TR.d (r := f32 x30) (fs := []) rfl rfl (TOp.eqr (TOp.fop (.inr (.inl rfl)) rfl (OpF.tmp rfl) (OpF.tmp rfl)) (congrArg (f .f32) hx30)) <|
                (tl rfl (f32 x30) (LOp.assign rfl rfl) <|
                TR.nil))))))))))))))))) rfl (by kernel_rfl) rfl fills_nil rfl ?_
               iterate 17 refine ROps.dropS ?_
               refine ROps.drop0<|zN ?_
               exact ⟨x30, hl17, ⟨aR, aR, aR, aR, aR, aR, aR, aR, aR, aR, aR, trivial⟩, ⟨⟨rfl, .inr rfl⟩, ⟨rfl, .inr rfl⟩, ⟨rfl, .inr rfl⟩, ⟨rfl, .inr rfl⟩, ⟨rfl, .inl rfl⟩, trivial⟩, h22_⟩
              ·refine yW<|yl rfl (ptr [sl a2.length (a2.map i64), (sFc a3)]) (LOp.fap und30 rfl siz22 rfl rfl rfl)<|yl rfl (sl a2.length (a2.map i64)) (n2 agg22)<|ym rfl (i64 v22)<|yl rfl (ptr [i64 e25]) (LOp.le (LOp.ix (f := i64) und22 siz2 rfl rfl rfl rfl he24) ALe.ptr)<|yl rfl (i64 e25) (n2 agg2)<|ym rfl (i64 v18)<|yl rfl (b false) (LOp.eqb (LOp.neq rfl rfl rfl) hc25)<|zN ?_
               refine yF<|RunC.skip ?_
               exact ⟨y21, hl17, ⟨aR, aR, aR, aR, aR, aR, aR, aR, aR, aR, aR, trivial⟩, ⟨⟨rfl, .inr rfl⟩, ⟨rfl, .inr rfl⟩, ⟨rfl, .inr rfl⟩, ⟨rfl, .inr rfl⟩, ⟨rfl, .inl rfl⟩, trivial⟩, h22_⟩
             ·rintro τ23 Γ23 ⟨y31, hl32, hw23, hd23, h22_⟩
              refine RunC.wl hw23 hd23 ?_
              unfold K0l_k13 at h22_
              obtain ⟨x33, hx31, h22_⟩ := oL h22_
              refine yW<|ym rfl (i64 v22)<|yl rfl (i64 x33) (LOp.eqr (LOp.add rfl rfl rfl) (congrArg (ik .i64) hx31))<|ya rfl (i64 x33)<|zN ?_
              cases oI h22_
              exact ⟨_, rfl, ⟨aR, aR, aR, aR, aR, aR, aR, aR, aR, aR, aR, trivial⟩, ⟨⟨rfl, .inr rfl⟩, ⟨rfl, .inr rfl⟩, ⟨rfl, .inr rfl⟩, ⟨rfl, .inr rfl⟩, ⟨rfl, .inl rfl⟩, trivial⟩⟩
            ·refine yW<|ym rfl (i64 v22)<|yl rfl (ptr [sl a1.length (a1.map i64), sl a2.length (a2.map i64), (sFc a3)]) (LOp.fap und30 rfl siz22 rfl rfl rfl)<|yl rfl (sl a1.length (a1.map i64)) (n2 agg22)<|ym rfl (i64 v18)<|yl rfl (i64 x23) (LOp.eqr (LOp.add rfl rfl rfl) (congrArg (ik .i64) hx21))<|yl rfl (ptr [i64 e24]) (LOp.le (LOp.ix (f := i64) und22 siz2 rfl rfl rfl rfl he22) ALe.ptr)<|yl rfl (i64 e24) (n2 agg2)<|yl rfl (b false) (LOp.eqb (LOp.lss rfl rfl rfl) hc23)<|zN ?_
             refine yF<|RunC.exit ?_
             cases oI h22_
             have hx := ho22 _ rfl
             exact ⟨y21, hl17, ⟨aR, aR, aR, aR, aR, aR, aR, aR, aR, aR, trivial⟩, ⟨⟨rfl, .inr rfl⟩, ⟨rfl, .inr rfl⟩, ⟨rfl, .inr rfl⟩, ⟨rfl, .inr rfl⟩, ⟨rfl, .inl rfl⟩, trivial⟩, hx⟩
           ·rintro τ24 Γ24 ⟨y35, hl34, hw24, hd24, rfl⟩
            refine RunC.wl hw24 hd24 ?_
            replace h21_ : K0l_k14 a0 a5 r6 L16 v18 y35 = some y21_ := h21_
            unfold K0l_k14 at h21_
            refine yS ?_
            obtain ⟨x36, hx32, h21_⟩ := oL h21_
            obtain ⟨x37, hx33, h21_⟩ := oL h21_
            obtain ⟨e38, he34, h21_⟩ := oS h21_
            obtain ⟨x39, hx35, h21_⟩ := oL h21_
            refine yW<|ym rfl (f32 y35)<|yl rfl (optr 2 1 2) (LOp.fao und91 rfl siz23 rfl rfl rfl)<|yd rfl (oref 1 1 0 r6.length) (TOp.load1_o rfl rfl agg23 rfl rfl)<|ym rfl (i64 v18)<|yl rfl (ptr [i64 a0, sl a1.length (a1.map i64), sl a2.length (a2.map i64), (sFc a3)]) (LOp.fap und30 rfl siz2 rfl rfl rfl)<|yl rfl (i64 a0) (n2 agg2)<|yl rfl (i64 x36) (LOp.eqr (LOp.mul rfl rfl rfl) (congrArg (ik .i64) hx32))<|ym rfl (i64 v18)<|yl rfl (i64 x37) (LOp.eqr (LOp.add rfl rfl rfl) (congrArg (ik .i64) hx33))<|yd rfl (optr 1 1 x37.toNat) (TOp.ixo und23 siz26 rfl rfl rfl (at_in he34 rfl) rfl)<|yd rfl (f32 e38) (TOp.load1_o rfl (at_cell he34) agg26 rfl rfl)<|yd rfl (f32 x39) (TOp.eqr (TOp.fop (.inr (.inr (.inr rfl))) rfl (OpF.tmp rfl) (OpF.tmp rfl)) (congrArg (f .f32) hx35))<|ya rfl (f32 x39)<|zN ?_
            obtain ⟨e40, he36, h21_⟩ := oS h21_
            obtain ⟨e41, he37, h21_⟩ := oS h21_
            obtain ⟨x42, hx38, h21_⟩ := oL h21_
            obtain ⟨x43, hx39, h21_⟩ := oL h21_
            obtain ⟨x44, hx40, h21_⟩ := oL h21_
            obtain ⟨L45, he41, h21_⟩ := oS h21_
            refine RunC.region_draw (Γ' := [⟨1, some (r5.map b)⟩, oF 1 r6, ⟨1, some [i64 r4, oref 0 1 0 r5.length, oref 1 1 0 r6.length]⟩, oF 1 L16, ⟨u12, none⟩]) 16 mixed 
             (tm rfl (oref 3 1 0 a0.toNat) <|
             (tm rfl (i64 v18) <|
             (tm rfl (oref 3 1 0 a0.toNat) <|
             (tm rfl (i64 v18) <|
             (TR.d (r := optr 3 1 v18.toNat) (fs := []) rfl rfl (TOp.ixo und23 siz26 rfl rfl rfl (at_in he36 hl34) rfl) <|
             (TR.d (r := f32 e40) (fs := []) rfl rfl (TOp.load1_o rfl (at_cell he36) agg26 rfl rfl) <|
             (tm rfl (f32 a5) <|
             (tm rfl (f32 x39) <|
             (tm rfl (oref 3 1 0 a0.toNat) <|
             (tm rfl (i64 v18) <|
             (TR.d (r := optr 3 1 v18.toNat) (fs := []) rfl rfl (TOp.ixo und23 siz26 rfl rfl rfl (at_in he37 hl34) rfl) <|
             (TR.d (r := f32 e41) (fs := []) rfl rfl (TOp.load1_o rfl (at_cell he37) agg26 rfl rfl) <|
             (TR.d (r := f32 x42) (fs := []) rfl rfl (TOp.eqr (TOp.fop (.inr (.inl rfl)) rfl (OpF.tmp rfl) (OpF.tmp rfl)) (congrArg (f .f32) hx38)) <|
             (TR.d (r := f32 x43) (fs := []) rfl rfl (TOp.eqr (TOp.fop (.inr (.inr (.inl rfl))) rfl (OpF.tmp rfl) (OpF.tmp rfl)) (congrArg (f .f32) hx39)) <|
             (TR.d (r := f32 x44) (fs := []) rfl rfl (TOp.eqr (TOp.fop (.inl rfl) rfl (OpF.tmp rfl) (OpF.tmp rfl)) (congrArg (f .f32) hx40)) <|
             (TR.d (r := optr 3 1 v18.toNat) (fs := []) rfl rfl (TOp.ixo und23 siz26 rfl rfl rfl (set_in he41 hl34) rfl) <|
             TR.nil)))))))))))))))) rfl (by kernel_rfl) rfl fills_nil rfl ?_
            iterate 16 refine ROps.dropS ?_
            refine ROps.drop0<|ROps.st (f := f32) (i := v18) (Γ' := [⟨1, some (r5.map b)⟩, oF 1 r6, ⟨1, some [i64 r4, oref 0 1 0 r5.length, oref 1 1 0 r6.length]⟩, oF 1 L45, ⟨u12, none⟩]) rfl siz26 rfl rfl rfl aR rfl rfl rfl he41 rfl<|zN ?_
            refine RunC.wl (τ' := [(1, (sFc a4)), (2, f32 a5), (3, f32 a6), (4, i64 a7), (5, ptr [i64 a0, sl a1.length (a1.map i64), sl a2.length (a2.map i64), (sFc a3)]), (13, optr 2 1 0), (15, oref 3 1 0 a0.toNat), (16, i64 v15), (17, i64 v18)]) (Γ' := [⟨1, some (r5.map b)⟩, oF 1 r6, ⟨1, some [i64 r4, oref 0 1 0 r5.length, oref 1 1 0 r6.length]⟩, oF 1 L45, ⟨u12, none⟩]) ⟨aR, aR, aR, aR, aR, aR, aR, aR, aR, trivial⟩ ⟨⟨rfl, .inr rfl⟩, ⟨rfl, .inr rfl⟩, ⟨rfl, .inr rfl⟩, ⟨rfl, .inr rfl⟩, ⟨rfl, .inl rfl⟩, trivial⟩ ?_
            obtain ⟨x46, hx42, h21_⟩ := oL h21_
            refine yW<|ym rfl (i64 v18)<|yl rfl (i64 x46) (LOp.eqr (LOp.add rfl rfl rfl) (congrArg (ik .i64) hx42))<|ya rfl (i64 x46)<|zN ?_
            cases oI h21_
            exact ⟨_, rfl, ((setAt?_len he41).trans hl34), ⟨aR, aR, aR, aR, aR, aR, aR, aR, aR, trivial⟩, ⟨⟨rfl, .inr rfl⟩, ⟨rfl, .inr rfl⟩, ⟨rfl, .inr rfl⟩, ⟨rfl, .inr rfl⟩, ⟨rfl, .inl rfl⟩, trivial⟩⟩
          ·refine yW<|ym rfl (i64 v18)<|yl rfl (ptr [i64 a0, sl a1.length (a1.map i64), sl a2.length (a2.map i64), (sFc a3)]) (LOp.fap und30 rfl siz2 rfl rfl rfl)<|yl rfl (i64 a0) (n2 agg2)<|yl rfl (b false) (LOp.eqb (LOp.lss rfl rfl rfl) hc18)<|zN ?_
           refine yF<|RunC.exit ?_
           cases oI h21_
           have hx := ho21 _ rfl
           exact ⟨L16, hl17, ⟨aR, aR, aR, aR, aR, aR, aR, aR, trivial⟩, ⟨⟨rfl, .inr rfl⟩, ⟨rfl, .inr rfl⟩, ⟨rfl, .inr rfl⟩, ⟨rfl, .inr rfl⟩, ⟨rfl, .inl rfl⟩, trivial⟩, hx⟩
         ·rintro τ25 Γ25 ⟨L47, hl48, hw25, hd25, rfl⟩
          refine RunC.wl hw25 hd25 ?_
          replace h20_ : K0l_k15 a0 a1 a2 a3 a4 a6 v15 L47 = some y20_ := h20_
          unfold K0l_k15 at h20_
          refine yS ?_
          obtain ⟨r49, hf43, h20_⟩ := oS h20_
          obtain ⟨r50, hf44, h20_⟩ := oS h20_
          refine yW<|ym rfl (oref 3 1 0 a0.toNat)<|ym rfl (sFc a4)<|ye rfl (oref 4 (u12 + 1) 0 r49.length) ([⟨1, some (r5.map b)⟩, oF 1 r6, ⟨1, some [i64 r4, oref 0 1 0 r5.length, oref 1 1 0 r6.length]⟩, oF 1 L47, oF (u12 + 1) r49]) (TOp.eqr (TOp.callBN (ls := [(r49.map f32)]) [4] (CallAs.func ent76 rfl rfl) (Bors.cons (Bor.ptr (bP (bS (bS (bS bN))))) (Bors.cons (Bor.own (f := f32) (fun _ => rfl) rfl hl48) (bS bN))) rfl (K0f_ok a0 a1 a2 a3 L47 a4 r49 hf43) (and_all (lts0_map (f := f32) (fun _ => rfl) _) rfl) (and_all (noss_map (f := f32) (fun _ => rfl) _) rfl) rfl (by decide) (ns_of ⟨⟨_, rfl⟩, trivial⟩)) (by simp [ren, rens, sigma, newNames]))<|yd rfl (f32 r50) (yc ent75 rfl rfl (Bors.cons (Bor.own (f := f32) (fun _ => rfl) rfl rfl) bN) (K0k_ok r49 r50 hf44))<|ya rfl (f32 r50)<|zN ?_
          refine RunC.wl (τ' := [(1, (sFc a4)), (2, f32 a5), (3, f32 a6), (4, i64 a7), (5, ptr [i64 a0, sl a1.length (a1.map i64), sl a2.length (a2.map i64), (sFc a3)]), (13, optr 2 1 0), (15, oref 3 1 0 a0.toNat), (16, i64 v15), (21, f32 r50)]) (Γ' := [⟨1, some (r5.map b)⟩, oF 1 r6, ⟨1, some [i64 r4, oref 0 1 0 r5.length, oref 1 1 0 r6.length]⟩, oF 1 L47, ⟨(u12 + 1), none⟩]) ⟨aR, aR, aR, aR, aR, aR, aR, aR, aR, trivial⟩ ⟨⟨rfl, .inr rfl⟩, ⟨rfl, .inr rfl⟩, ⟨rfl, .inr rfl⟩, ⟨rfl, .inr rfl⟩, ⟨rfl, .inl rfl⟩, trivial⟩<|yS<|yS ?_
          obtain ⟨r51, hf45, h20_⟩ := oS h20_
          rcases oB h20_ with ⟨hc46, h20_⟩ | ⟨hc46, h20_⟩
          ·obtain ⟨r52, hf47, h20_⟩ := oS h20_
           rcases oB h20_ with ⟨hc48, h20_⟩ | ⟨hc48, h20_⟩
           ·refine yW<|ym rfl (oref 3 1 0 a0.toNat)<|yd rfl (b true) (TOp.eqb (yc ent77 rfl rfl (Bors.cons (Bor.own (f := f32) (fun _ => rfl) rfl hl48) bN) (K08_ok L47 r51 hf45)) hc46)<|yl rfl (b false) n1<|ym rfl (b false)<|ym rfl (f32 r50)<|yd rfl (b true) (TOp.eqb (yc ent78 rfl rfl bN0 (K07_ok r50 r52 hf47)) hc48)<|yl rfl (b false) n1<|yl rfl (b false) yp<|zN ?_
            refine yF<|RunC.skip<|yS ?_
            rcases oB h20_ with ⟨hc49, h20_⟩ | ⟨hc49, h20_⟩
            ·refine yW<|ym rfl (f32 r50)<|ym rfl (f32 a6)<|yl rfl (b true) (LOp.eqb (LOp.fle rfl (OpF.tmp rfl) (OpF.tmp rfl)) hc49)<|zN ?_
             refine yT<|zQ<|ym rfl (oref 3 1 0 a0.toNat)<|ym rfl (i64 v15)<|ya rfl (oref 3 1 0 a0.toNat)<|ya rfl (i64 v15)<|ya rfl (b true)<|zN ?_
             refine RunC.ret ?_
             cases oI h20_
             have hx26_ := hr20 _ rfl
             subst hx26_
             have hq := oI h
             obtain ⟨hq0, hq⟩ := Prod.mk.inj hq
             obtain ⟨hq1, hq⟩ := Prod.mk.inj hq
             subst q0
             subst q1
             subst q2
             exact yB (tup [oref 3 1 0 L47.length, i64 v15, b true]) [(3, 1)] (Res.eq (Res.three rfl (RV.tmp rfl) (RV.tmp rfl) (RV.tmp rfl)) (by first | rfl | (rw [(show L47.length = a0.toNat from hl48)] <;> rfl))) (sA rfl trivial)
            ·refine yW<|ym rfl (f32 r50)<|ym rfl (f32 a6)<|yl rfl (b false) (LOp.eqb (LOp.fle rfl (OpF.tmp rfl) (OpF.tmp rfl)) hc49)<|zN ?_
             refine yF<|RunC.skip ?_
             obtain ⟨x53, hx50, h20_⟩ := oL h20_
             refine yW<|ym rfl (i64 v15)<|yl rfl (i64 x53) (LOp.eqr (LOp.add rfl rfl rfl) (congrArg (ik .i64) hx50))<|ya rfl (i64 x53)<|zN ?_
             cases oI h20_
             exact ⟨_, rfl, (u12 + 1), hl48, ⟨aR, aR, aR, aR, aR, aR, aR, aR, trivial⟩, ⟨⟨rfl, .inr rfl⟩, ⟨rfl, .inr rfl⟩, ⟨rfl, .inr rfl⟩, ⟨rfl, .inr rfl⟩, ⟨rfl, .inl rfl⟩, trivial⟩⟩
           ·refine yW<|ym rfl (oref 3 1 0 a0.toNat)<|yd rfl (b true) (TOp.eqb (yc ent77 rfl rfl (Bors.cons (Bor.own (f := f32) (fun _ => rfl) rfl hl48) bN) (K08_ok L47 r51 hf45)) hc46)<|yl rfl (b false) n1<|ym rfl (b false)<|ym rfl (f32 r50)<|yd rfl (b false) (TOp.eqb (yc ent78 rfl rfl bN0 (K07_ok r50 r52 hf47)) hc48)<|yl rfl (b true) n0<|yl rfl (b true) yp<|zN ?_
            refine yT<|zQ<|ya rfl nilsl<|ya rfl (i64 0)<|ya rfl (b false)<|zN ?_
            refine RunC.nil_slot (Γ' := [⟨1, some (r5.map b)⟩, oF 1 r6, ⟨1, some [i64 r4, oref 0 1 0 r5.length, oref 1 1 0 r6.length]⟩, oF 1 L47, ⟨(u12 + 2), some (([] : List F).map f32)⟩]) 10 4 rfl rfl rfl<|RunC.ret ?_
            cases oI h20_
            have hx27_ := hr20 _ rfl
            subst hx27_
            have hq := oI h
            obtain ⟨hq0, hq⟩ := Prod.mk.inj hq
            obtain ⟨hq1, hq⟩ := Prod.mk.inj hq
            subst q0
            subst q1
            subst q2
            exact bodyQ.mk (r' := tup [oref 4 (u12 + 2) 0 (([] : List F).length), i64 0, b false]) [(4, (u12 + 2))] (.inr rfl) rfl (show List.Nodup [4] from by decide) (by simp [ren, rens, sigma]) rfl (Res.eq (Res.three rfl (RV.tmp rfl) (RV.tmp rfl) (RV.tmp rfl)) (by first | rfl | (rw [(show ([] : List F).length = 0 from rfl)] <;> rfl))) (sA rfl trivial)
          ·refine yW<|ym rfl (oref 3 1 0 a0.toNat)<|yd rfl (b false) (TOp.eqb (yc ent77 rfl rfl (Bors.cons (Bor.own (f := f32) (fun _ => rfl) rfl hl48) bN) (K08_ok L47 r51 hf45)) hc46)<|yl rfl (b true) n0<|ym rfl (b true)<|yR rfl<|yR rfl<|yR rfl<|yl rfl (b true) yq<|zN ?_
           refine yT<|zQ<|ya rfl nilsl<|ya rfl (i64 0)<|ya rfl (b false)<|zN ?_
           refine RunC.nil_slot (Γ' := [⟨1, some (r5.map b)⟩, oF 1 r6, ⟨1, some [i64 r4, oref 0 1 0 r5.length, oref 1 1 0 r6.length]⟩, oF 1 L47, ⟨(u12 + 2), some (([] : List F).map f32)⟩]) 10 4 rfl rfl rfl<|RunC.ret ?_
           cases oI h20_
           have hx28_ := hr20 _ rfl
           subst hx28_
           have hq := oI h
           obtain ⟨hq0, hq⟩ := Prod.mk.inj hq
           obtain ⟨hq1, hq⟩ := Prod.mk.inj hq
           subst q0
           subst q1
           subst q2
           exact bodyQ.mk (r' := tup [oref 4 (u12 + 2) 0 (([] : List F).length), i64 0, b false]) [(4, (u12 + 2))] (.inr rfl) rfl (show List.Nodup [4] from by decide) (by simp [ren, rens, sigma]) rfl (Res.eq (Res.three rfl (RV.tmp rfl) (RV.tmp rfl) (RV.tmp rfl)) (by first | rfl | (rw [(show ([] : List F).length = 0 from rfl)] <;> rfl))) (sA rfl trivial)
        ·refine yW<|ym rfl (i64 v15)<|ym rfl (i64 a7)<|yl rfl (b false) (LOp.eqb (LOp.leq rfl rfl rfl) hc17)<|zN ?_
         refine yF<|RunC.exit ?_
         cases oI h20_
         have hx := ho20 _ rfl
         exact ⟨u12, trivial, ⟨⟨rfl, .inl rfl⟩, ⟨rfl, .inl rfl⟩, ⟨rfl, .inl rfl⟩, ⟨rfl, .inl rfl⟩, ⟨rfl, .inl rfl⟩, trivial⟩, hx⟩
       ·rintro τ29 Γ29 ⟨u54, hw29, hd29, rfl⟩
        refine RunC.wl hw29 hd29 ?_
        replace h : K0l_k16 = some (q0, q1, q2) := h
        unfold K0l_k16 at h
        refine zQ<|ya rfl nilsl<|ya rfl (i64 0)<|ya rfl (b false)<|zN ?_
        refine RunC.nil_slot (Γ' := [⟨2, some (([] : List F).map f32)⟩, ⟨1, none⟩, ⟨1, none⟩, ⟨1, none⟩, ⟨u54, none⟩]) 10 0 rfl rfl rfl<|RunC.ret ?_
        have hq := oI h
        obtain ⟨hq0, hq⟩ := Prod.mk.inj hq
        obtain ⟨hq1, hq⟩ := Prod.mk.inj hq
        subst q0
        subst q1
        subst q2
        exact yB (tup [oref 0 2 0 (([] : List F).length), i64 0, b false]) [(0, 2)] (Res.eq (Res.three rfl (RV.tmp rfl) (RV.tmp rfl) (RV.tmp rfl)) (by first | rfl | (rw [(show ([] : List F).length = 0 from rfl)] <;> rfl))) (sA rfl trivial)
     ·refine yW<|ym rfl (sFc a4)<|yd rfl (b true) (TOp.eqb (TOp.callB (CallAs.func ent71 rfl rfl) (Bors.cons (Bor.ptr (bP (bS (bS (bS bN))))) (bS bN)) rfl rfl (K0a_ok a0 a1 a2 a3 a4 r1 hf1)) hc2)<|yl rfl (b false) n1<|ym rfl (b false)<|ym rfl (f32 a5)<|yl rfl (b true) (LOp.eqb (LOp.fgt rfl (OpF.tmp rfl) (OpF.const rfl (by kernel_rfl) (by kernel_rfl))) hc3)<|ym rfl (b true)<|ym rfl (f32 a5)<|yl rfl (b true) (LOp.eqb (LOp.flt rfl (OpF.tmp rfl) (OpF.const rfl (by kernel_rfl) (by kernel_rfl))) hc4)<|yl rfl (b true) yq<|yl rfl (b false) n1<|yl rfl (b false) yp<|ym rfl (b false)<|ym rfl (f32 a6)<|yd rfl (b true) (TOp.eqb (yc ent72 rfl rfl bN0 (K0b_ok a6 r2 hf5)) hc6)<|yl rfl (b false) n1<|yl rfl (b false) yp<|ym rfl (b false)<|ym rfl (i64 a7)<|yd rfl (b false) (TOp.eqb (yc ent73 rfl rfl (bP (bP bN0)) (K06_ok a7 1 128 r3 hf7)) hc8)<|yl rfl (b true) n0<|yl rfl (b true) yp<|zN ?_
      refine RunC.wl (τ' := [(1, (sFc a4)), (2, f32 a5), (3, f32 a6), (4, i64 a7), (5, ptr [i64 a0, sl a1.length (a1.map i64), sl a2.length (a2.map i64), (sFc a3)]), (43, b true)]) (Γ' := [o0, o0, o0, o0, o0]) ⟨aR, aR, aR, aR, aR, aR, trivial⟩ ⟨⟨rfl, .inr rfl⟩, ⟨rfl, .inr rfl⟩, ⟨rfl, .inr rfl⟩, ⟨rfl, .inr rfl⟩, ⟨rfl, .inr rfl⟩, trivial⟩<|yT<|zQ<|ya rfl nilsl<|ya rfl (i64 0)<|ya rfl (b false)<|zN ?_
      refine RunC.nil_slot (Γ' := [⟨1, some (([] : List F).map f32)⟩, o0, o0, o0, o0]) 10 0 rfl rfl rfl<|RunC.ret ?_
      have hq := oI h
      obtain ⟨hq0, hq⟩ := Prod.mk.inj hq
      obtain ⟨hq1, hq⟩ := Prod.mk.inj hq
      subst q0
      subst q1
      subst q2
      exact yB (tup [oref 0 1 0 (([] : List F).length), i64 0, b false]) [(0, 1)] (Res.eq (Res.three rfl (RV.tmp rfl) (RV.tmp rfl) (RV.tmp rfl)) (by first | rfl | (rw [(show ([] : List F).length = 0 from rfl)] <;> rfl))) (sA rfl trivial)
    ·refine yW<|ym rfl (sFc a4)<|yd rfl (b true) (TOp.eqb (TOp.callB (CallAs.func ent71 rfl rfl) (Bors.cons (Bor.ptr (bP (bS (bS (bS bN))))) (bS bN)) rfl rfl (K0a_ok a0 a1 a2 a3 a4 r1 hf1)) hc2)<|yl rfl (b false) n1<|ym rfl (b false)<|ym rfl (f32 a5)<|yl rfl (b true) (LOp.eqb (LOp.fgt rfl (OpF.tmp rfl) (OpF.const rfl (by kernel_rfl) (by kernel_rfl))) hc3)<|ym rfl (b true)<|ym rfl (f32 a5)<|yl rfl (b true) (LOp.eqb (LOp.flt rfl (OpF.tmp rfl) (OpF.const rfl (by kernel_rfl) (by kernel_rfl))) hc4)<|yl rfl (b true) yq<|yl rfl (b false) n1<|yl rfl (b false) yp<|ym rfl (b false)<|ym rfl (f32 a6)<|yd rfl (b false) (TOp.eqb (yc ent72 rfl rfl bN0 (K0b_ok a6 r2 hf5)) hc6)<|yl rfl (b true) n0<|yl rfl (b true) yp<|ym rfl (b true)<|yR rfl<|yR rfl<|yR rfl<|yl rfl (b true) yq<|zN ?_
     refine RunC.wl (τ' := [(1, (sFc a4)), (2, f32 a5), (3, f32 a6), (4, i64 a7), (5, ptr [i64 a0, sl a1.length (a1.map i64), sl a2.length (a2.map i64), (sFc a3)]), (43, b true)]) (Γ' := [o0, o0, o0, o0, o0]) ⟨aR, aR, aR, aR, aR, aR, trivial⟩ ⟨⟨rfl, .inr rfl⟩, ⟨rfl, .inr rfl⟩, ⟨rfl, .inr rfl⟩, ⟨rfl, .inr rfl⟩, ⟨rfl, .inr rfl⟩, trivial⟩<|yT<|zQ<|ya rfl nilsl<|ya rfl (i64 0)<|ya rfl (b false)<|zN ?_
     refine RunC.nil_slot (Γ' := [⟨1, some (([] : List F).map f32)⟩, o0, o0, o0, o0]) 10 0 rfl rfl rfl<|RunC.ret ?_
     have hq := oI h
     obtain ⟨hq0, hq⟩ := Prod.mk.inj hq
     obtain ⟨hq1, hq⟩ := Prod.mk.inj hq
     subst q0
     subst q1
     subst q2
     exact yB (tup [oref 0 1 0 (([] : List F).length), i64 0, b false]) [(0, 1)] (Res.eq (Res.three rfl (RV.tmp rfl) (RV.tmp rfl) (RV.tmp rfl)) (by first | rfl | (rw [(show ([] : List F).length = 0 from rfl)] <;> rfl))) (sA rfl trivial)
   ·refine yW<|ym rfl (sFc a4)<|yd rfl (b true) (TOp.eqb (TOp.callB (CallAs.func ent71 rfl rfl) (Bors.cons (Bor.ptr (bP (bS (bS (bS bN))))) (bS bN)) rfl rfl (K0a_ok a0 a1 a2 a3 a4 r1 hf1)) hc2)<|yl rfl (b false) n1<|ym rfl (b false)<|ym rfl (f32 a5)<|yl rfl (b true) (LOp.eqb (LOp.fgt rfl (OpF.tmp rfl) (OpF.const rfl (by kernel_rfl) (by kernel_rfl))) hc3)<|ym rfl (b true)<|ym rfl (f32 a5)<|yl rfl (b false) (LOp.eqb (LOp.flt rfl (OpF.tmp rfl) (OpF.const rfl (by kernel_rfl) (by kernel_rfl))) hc4)<|yl rfl (b false) yq<|yl rfl (b true) n0<|yl rfl (b true) yp<|ym rfl (b true)<|yR rfl<|yR rfl<|yR rfl<|yl rfl (b true) yq<|ym rfl (b true)<|yR rfl<|yR rfl<|yR rfl<|yl rfl (b true) yq<|zN ?_
    refine RunC.wl (τ' := [(1, (sFc a4)), (2, f32 a5), (3, f32 a6), (4, i64 a7), (5, ptr [i64 a0, sl a1.length (a1.map i64), sl a2.length (a2.map i64), (sFc a3)]), (43, b true)]) (Γ' := [o0, o0, o0, o0, o0]) ⟨aR, aR, aR, aR, aR, aR, trivial⟩ ⟨⟨rfl, .inr rfl⟩, ⟨rfl, .inr rfl⟩, ⟨rfl, .inr rfl⟩, ⟨rfl, .inr rfl⟩, ⟨rfl, .inr rfl⟩, trivial⟩<|yT<|zQ<|ya rfl nilsl<|ya rfl (i64 0)<|ya rfl (b false)<|zN ?_
    refine RunC.nil_slot (Γ' := [⟨1, some (([] : List F).map f32)⟩, o0, o0, o0, o0]) 10 0 rfl rfl rfl<|RunC.ret ?_
    have hq := oI h
    obtain ⟨hq0, hq⟩ := Prod.mk.inj hq
    obtain ⟨hq1, hq⟩ := Prod.mk.inj hq
    subst q0
    subst q1
    subst q2
    exact yB (tup [oref 0 1 0 (([] : List F).length), i64 0, b false]) [(0, 1)] (Res.eq (Res.three rfl (RV.tmp rfl) (RV.tmp rfl) (RV.tmp rfl)) (by first | rfl | (rw [(show ([] : List F).length = 0 from rfl)] <;> rfl))) (sA rfl trivial)
  ·refine yW<|ym rfl (sFc a4)<|yd rfl (b true) (TOp.eqb (TOp.callB (CallAs.func ent71 rfl rfl) (Bors.cons (Bor.ptr (bP (bS (bS (bS bN))))) (bS bN)) rfl rfl (K0a_ok a0 a1 a2 a3 a4 r1 hf1)) hc2)<|yl rfl (b false) n1<|ym rfl (b false)<|ym rfl (f32 a5)<|yl rfl (b false) (LOp.eqb (LOp.fgt rfl (OpF.tmp rfl) (OpF.const rfl (by kernel_rfl) (by kernel_rfl))) hc3)<|ym rfl (b false)<|yR rfl<|yR rfl<|yl rfl (b false) yp<|yl rfl (b true) n0<|yl rfl (b true) yp<|ym rfl (b true)<|yR rfl<|yR rfl<|yR rfl<|yl rfl (b true) yq<|ym rfl (b true)<|yR rfl<|yR rfl<|yR rfl<|yl rfl (b true) yq<|zN ?_
   refine RunC.wl (τ' := [(1, (sFc a4)), (2, f32 a5), (3, f32 a6), (4, i64 a7), (5, ptr [i64 a0, sl a1.length (a1.map i64), sl a2.length (a2.map i64), (sFc a3)]), (43, b true)]) (Γ' := [o0, o0, o0, o0, o0]) ⟨aR, aR, aR, aR, aR, aR, trivial⟩ ⟨⟨rfl, .inr rfl⟩, ⟨rfl, .inr rfl⟩, ⟨rfl, .inr rfl⟩, ⟨rfl, .inr rfl⟩, ⟨rfl, .inr rfl⟩, trivial⟩<|yT<|zQ<|ya rfl nilsl<|ya rfl (i64 0)<|ya rfl (b false)<|zN ?_
   refine RunC.nil_slot (Γ' := [⟨1, some (([] : List F).map f32)⟩, o0, o0, o0, o0]) 10 0 rfl rfl rfl<|RunC.ret ?_
   have hq := oI h
   obtain ⟨hq0, hq⟩ := Prod.mk.inj hq
   obtain ⟨hq1, hq⟩ := Prod.mk.inj hq
   subst q0
   subst q1
   subst q2
   exact yB (tup [oref 0 1 0 (([] : List F).length), i64 0, b false]) [(0, 1)] (Res.eq (Res.three rfl (RV.tmp rfl) (RV.tmp rfl) (RV.tmp rfl)) (by first | rfl | (rw [(show ([] : List F).length = 0 from rfl)] <;> rfl))) (sA rfl trivial)
 ·refine yW<|ym rfl (sFc a4)<|yd rfl (b false) (TOp.eqb (TOp.callB (CallAs.func ent71 rfl rfl) (Bors.cons (Bor.ptr (bP (bS (bS (bS bN))))) (bS bN)) rfl rfl (K0a_ok a0 a1 a2 a3 a4 r1 hf1)) hc2)<|yl rfl (b true) n0<|ym rfl (b true)<|yR rfl<|yR rfl<|yR rfl<|yR rfl<|yR rfl<|yR rfl<|yR rfl<|yl rfl (b true) yq<|ym rfl (b true)<|yR rfl<|yR rfl<|yR rfl<|yl rfl (b true) yq<|ym rfl (b true)<|yR rfl<|yR rfl<|yR rfl<|yl rfl (b true) yq<|zN ?_
  refine RunC.wl (τ' := [(1, (sFc a4)), (2, f32 a5), (3, f32 a6), (4, i64 a7), (5, ptr [i64 a0, sl a1.length (a1.map i64), sl a2.length (a2.map i64), (sFc a3)]), (43, b true)]) (Γ' := [o0, o0, o0, o0, o0]) ⟨aR, aR, aR, aR, aR, aR, trivial⟩ ⟨⟨rfl, .inr rfl⟩, ⟨rfl, .inr rfl⟩, ⟨rfl, .inr rfl⟩, ⟨rfl, .inr rfl⟩, ⟨rfl, .inr rfl⟩, trivial⟩<|yT<|zQ<|ya rfl nilsl<|ya rfl (i64 0)<|ya rfl (b false)<|zN ?_
  refine RunC.nil_slot (Γ' := [⟨1, some (([] : List F).map f32)⟩, o0, o0, o0, o0]) 10 0 rfl rfl rfl<|RunC.ret ?_
  have hq := oI h
  obtain ⟨hq0, hq⟩ := Prod.mk.inj hq
  obtain ⟨hq1, hq⟩ := Prod.mk.inj hq
  subst q0
  subst q1
  subst q2
  exact yB (tup [oref 0 1 0 (([] : List F).length), i64 0, b false]) [(0, 1)] (Res.eq (Res.three rfl (RV.tmp rfl) (RV.tmp rfl) (RV.tmp rfl)) (by first | rfl | (rw [(show ([] : List F).length = 0 from rfl)] <;> rfl))) (sA rfl trivial)
def K0m (a0 : List Int) : Option (Int) :=
 some (a0.length : Int)
theorem K0m_ok (a0 : List Int) (q0 : Int) (h : K0m a0 = some q0) : Ev Try.prog 104 [sl a0.length (a0.map i64)] [] (i64 q0) [] := by
 refine yE Try.func104 0 11 0 [(0, sl a0.length (a0.map i64))] [] rfl ?_
 unfold K0m at h
 refine zQ<|ya rfl (i64 0)<|zN ?_
 refine zQ<|ym rfl (sl a0.length (a0.map i64))<|yl rfl (i64 (a0.length : Int)) (LOp.len_sl und22 rfl rfl)<|ya rfl (i64 (a0.length : Int))<|zN ?_
 refine RunC.ret ?_
 have hq := oI h
 subst q0
 exact bR rfl
def K0n (a0 : Int) (a1 : Int) (a2 : Int) : Option (Bool) :=
 bsel (decide (a1 ≤ a0)) (
  some (decide (a0 ≤ a2))) (
  some false)
theorem K0n_ok (a0 : Int) (a1 : Int) (a2 : Int) (q0 : Bool) (h : K0n a0 a1 a2 = some q0) : Ev Try.prog 82 [i64 a0, i64 a1, i64 a2] [] (b q0) [] := by
 refine yE Try.func82 0 31 0 [(0, i64 a0), (1, i64 a1), (2, i64 a2)] [] rfl ?_
 unfold K0n at h
 refine zQ<|ya rfl (b false)<|zN ?_
 refine yS ?_
 rcases oB h with ⟨hc1, h⟩ | ⟨hc1, h⟩
 ·refine yW<|ym rfl (i64 a1)<|ym rfl (i64 a0)<|yl rfl (b true) (LOp.eqb (LOp.leq rfl rfl rfl) hc1)<|ym rfl (b true)<|ym rfl (i64 a0)<|ym rfl (i64 a2)<|yl rfl (b (decide (a0 ≤ a2))) (LOp.leq rfl rfl rfl)<|yl rfl (b (decide (a0 ≤ a2))) yq<|ya rfl (b (decide (a0 ≤ a2)))<|zN ?_
  refine RunC.ret ?_
  have hq := oI h
  subst q0
  exact bR rfl
 ·refine yW<|ym rfl (i64 a1)<|ym rfl (i64 a0)<|yl rfl (b false) (LOp.eqb (LOp.leq rfl rfl rfl) hc1)<|ym rfl (b false)<|yR rfl<|yR rfl<|yR rfl<|yl rfl (b false) yp<|ya rfl (b false)<|zN ?_
  refine RunC.ret ?_
  have hq := oI h
  subst q0
  exact bR rfl
def K0o (a0 : Int) : Option (Bool) :=
 some (!decide (a0 = a0))
theorem K0o_ok (a0 : Int) (q0 : Bool) (h : K0o a0 = some q0) : Ev Try.prog 208 [i64 a0] [] (b q0) [] := by
 refine yE Try.func208 0 13 0 [(0, i64 a0)] [] rfl ?_
 unfold K0o at h
 refine zQ<|ya rfl (b false)<|zN ?_
 refine zQ<|ym rfl (i64 a0)<|ym rfl (i64 a0)<|yl rfl (b (!decide (a0 = a0))) (LOp.neq rfl rfl rfl)<|ya rfl (b (!decide (a0 = a0)))<|zN ?_
 refine RunC.ret ?_
 have hq := oI h
 subst q0
 exact bR rfl
def K0p (a0 : Int) (a1 : Int) : Option (Bool) :=
 obind (K0o a0) fun (r1 : Bool) =>
 bsel r1 (
  obind (K0o a1) fun (r2 : Bool) =>
  bsel r2 (
   some (decide (a0 < a1))) (
   some true)) (
  some (decide (a0 < a1)))
theorem K0p_ok (a0 : Int) (a1 : Int) (q0 : Bool) (h : K0p a0 a1 = some q0) : Ev Try.prog 180 [i64 a0, i64 a1] [] (b q0) [] := by
 refine yE Try.func180 0 35 0 [(0, i64 a0), (1, i64 a1)] [] rfl ?_
 unfold K0p at h
 refine zQ<|ya rfl (b false)<|zN ?_
 refine yS ?_
 obtain ⟨r1, hf1, h⟩ := oS h
 rcases oB h with ⟨hc2, h⟩ | ⟨hc2, h⟩
 ·obtain ⟨r2, hf3, h⟩ := oS h
  rcases oB h with ⟨hc4, h⟩ | ⟨hc4, h⟩
  ·refine yW<|ym rfl (i64 a0)<|yd rfl (b true) (TOp.eqb (yc ent208 rfl rfl bN0 (K0o_ok a0 r1 hf1)) hc2)<|ym rfl (b true)<|ym rfl (i64 a1)<|yd rfl (b true) (TOp.eqb (yc ent208 rfl rfl bN0 (K0o_ok a1 r2 hf3)) hc4)<|yl rfl (b false) n1<|yl rfl (b false) yq<|ym rfl (b false)<|ym rfl (i64 a0)<|ym rfl (i64 a1)<|yl rfl (b (decide (a0 < a1))) (LOp.lss rfl rfl rfl)<|yl rfl (b (decide (a0 < a1))) yp<|ya rfl (b (decide (a0 < a1)))<|zN ?_
   refine RunC.ret ?_
   have hq := oI h
   subst q0
   exact bR rfl
  ·refine yW<|ym rfl (i64 a0)<|yd rfl (b true) (TOp.eqb (yc ent208 rfl rfl bN0 (K0o_ok a0 r1 hf1)) hc2)<|ym rfl (b true)<|ym rfl (i64 a1)<|yd rfl (b false) (TOp.eqb (yc ent208 rfl rfl bN0 (K0o_ok a1 r2 hf3)) hc4)<|yl rfl (b true) n0<|yl rfl (b true) yq<|ym rfl (b true)<|yR rfl<|yR rfl<|yR rfl<|yl rfl (b true) yq<|ya rfl (b true)<|zN ?_
   refine RunC.ret ?_
   have hq := oI h
   subst q0
   exact bR rfl
 ·refine yW<|ym rfl (i64 a0)<|yd rfl (b false) (TOp.eqb (yc ent208 rfl rfl bN0 (K0o_ok a0 r1 hf1)) hc2)<|ym rfl (b false)<|yR rfl<|yR rfl<|yR rfl<|yl rfl (b false) yp<|ym rfl (b false)<|ym rfl (i64 a0)<|ym rfl (i64 a1)<|yl rfl (b (decide (a0 < a1))) (LOp.lss rfl rfl rfl)<|yl rfl (b (decide (a0 < a1))) yp<|ya rfl (b (decide (a0 < a1)))<|zN ?_
  refine RunC.ret ?_
  have hq := oI h
  subst q0
  exact bR rfl
def K0q_b1 (a0 : List Int) (v2 : Int) : Option (LR (Int) (Unit) (Bool)) :=
 bsel (decide (0 < v2)) (
  obind (at? a0 v2) fun (e3 : Int) =>
  olet (IntKind.i64.wrap (v2 - 1)) fun (x4 : Int) =>
  obind (at? a0 x4) fun (e5 : Int) =>
  obind (K0p e3 e5) fun (r6 : Bool) =>
  bsel r6 (
   some (LR.ret false)) (
   olet (IntKind.i64.wrap (v2 - 1)) fun (x7 : Int) =>
   some (LR.next x7))) (
  some (LR.out ()))
def K0q_s1 (a0 : List Int) : (Int) → Option (LR (Int) (Unit) (Bool)) := fun s => K0q_b1 a0 s
def K0q_k1  : Option (Bool) :=
 some true
def K0q (a0 : List Int) : Option (Bool) :=
 olet (IntKind.i64.wrap ((a0.length : Int) - 1)) fun (x1 : Int) =>
 obind (loopM (K0q_s1 a0) x1) fun z => osum z (fun _ => K0q_k1) (fun r => some r)
theorem K0q_ok (a0 : List Int) (q0 : Bool) (h : K0q a0 = some q0) : Ev Try.prog 105 [sl a0.length (a0.map i64)] [] (b q0) [] := by
 refine yE Try.func105 0 43 0 [(0, sl a0.length (a0.map i64))] [] rfl ?_
 unfold K0q at h
 refine zQ<|ya rfl (b false)<|zN ?_
 refine yS<|yS ?_
 obtain ⟨x1, hx1, h⟩ := oL h
 refine yW<|ym rfl (sl a0.length (a0.map i64))<|yl rfl (i64 (a0.length : Int)) (LOp.len_sl und22 rfl rfl)<|yl rfl (i64 x1) (LOp.eqr (LOp.sub rfl rfl rfl) (congrArg (ik .i64) hx1))<|ya rfl (i64 x1)<|zN ?_
 obtain ⟨z2, hz_2, h⟩ := oS h
 refine RunC.cutN (fun τ Γ => WeakLe τ [] ∧ DeadLe Γ [] ∧ z2 = .inl ()) ?_ ?_
 ·refine RunC.block (RunC.loop (RunL.loopM (x := z2) (K0q_s1 a0) (fun (s : Int) τ Γ => WeakLe τ [(0, sl a0.length (a0.map i64)), (3, i64 s)] ∧ DeadLe Γ []) ?_ _ _ _ hz_2 ⟨⟨aR, aR, trivial⟩, trivial⟩))
  rintro v2 τ2 Γ2 y2_ ⟨hw2, hd2⟩ h2_ ho2 hr2
  refine RunC.wl (τ' := [(0, sl a0.length (a0.map i64)), (3, i64 v2)]) (Γ' := []) hw2 hd2 ?_
  replace h2_ : K0q_b1 a0 v2 = some y2_ := h2_
  unfold K0q_b1 at h2_
  refine yS<|yS ?_
  rcases oB h2_ with ⟨hc2, h2_⟩ | ⟨hc2, h2_⟩
  ·refine yW<|ym rfl (i64 v2)<|yl rfl (b true) (LOp.eqb (LOp.gtr rfl rfl rfl) hc2)<|zN ?_
   refine yT<|RunC.skip<|yS<|RunC.block<|yS ?_
   obtain ⟨e3, he3, h2_⟩ := oS h2_
   obtain ⟨x4, hx4, h2_⟩ := oL h2_
   obtain ⟨e5, he5, h2_⟩ := oS h2_
   obtain ⟨r6, hf6, h2_⟩ := oS h2_
   rcases oB h2_ with ⟨hc7, h2_⟩ | ⟨hc7, h2_⟩
   ·refine RunC.region_draw (Γ' := []) 10 mixed 
     (tm rfl (sl a0.length (a0.map i64)) <|
     (tm rfl (i64 v2) <|
     (tl rfl (ptr [i64 e3]) (LOp.le (LOp.ix (f := i64) und22 siz2 rfl rfl rfl rfl he3) ALe.ptr) <|
     (tl rfl (i64 e3) (n2 agg2) <|
     (tm rfl (sl a0.length (a0.map i64)) <|
     (tm rfl (i64 v2) <|
     (tl rfl (i64 x4) (LOp.eqr (LOp.sub rfl rfl rfl) (congrArg (ik .i64) hx4)) <|
     (tl rfl (ptr [i64 e5]) (LOp.le (LOp.ix (f := i64) und22 siz2 rfl rfl rfl rfl he5) ALe.ptr) <|
     (tl rfl (i64 e5) (n2 agg2) <|
     (TR.d (r := b true) (fs := []) rfl rfl (TOp.eqb (yc ent180 rfl rfl (bP bN0) (K0p_ok e3 e5 r6 hf6)) hc7) <|
     TR.nil)))))))))) rfl (by kernel_rfl) rfl fills_nil rfl ?_
    iterate 10 refine ROps.dropS ?_
    refine ROps.drop0<|zN ?_
    refine yT<|zQ<|ya rfl (b false)<|zN ?_
    refine RunC.ret ?_
    cases oI h2_
    have hx3_ := hr2 _ rfl
    subst hx3_
    have hq := oI h
    subst q0
    exact bR rfl
   ·refine RunC.region_draw (Γ' := []) 10 mixed 
     (tm rfl (sl a0.length (a0.map i64)) <|
     (tm rfl (i64 v2) <|
     (tl rfl (ptr [i64 e3]) (LOp.le (LOp.ix (f := i64) und22 siz2 rfl rfl rfl rfl he3) ALe.ptr) <|
     (tl rfl (i64 e3) (n2 agg2) <|
     (tm rfl (sl a0.length (a0.map i64)) <|
     (tm rfl (i64 v2) <|
     (tl rfl (i64 x4) (LOp.eqr (LOp.sub rfl rfl rfl) (congrArg (ik .i64) hx4)) <|
     (tl rfl (ptr [i64 e5]) (LOp.le (LOp.ix (f := i64) und22 siz2 rfl rfl rfl rfl he5) ALe.ptr) <|
     (tl rfl (i64 e5) (n2 agg2) <|
     (TR.d (r := b false) (fs := []) rfl rfl (TOp.eqb (yc ent180 rfl rfl (bP bN0) (K0p_ok e3 e5 r6 hf6)) hc7) <|
     TR.nil)))))))))) rfl (by kernel_rfl) rfl fills_nil rfl ?_
    iterate 10 refine ROps.dropS ?_
    refine ROps.drop0<|zN ?_
    refine yF<|RunC.skip ?_
    obtain ⟨x7, hx8, h2_⟩ := oL h2_
    refine yW<|ym rfl (i64 v2)<|yl rfl (i64 x7) (LOp.eqr (LOp.sub rfl rfl rfl) (congrArg (ik .i64) hx8))<|ya rfl (i64 x7)<|zN ?_
    cases oI h2_
    exact ⟨_, rfl, ⟨aR, aR, trivial⟩, trivial⟩
  ·refine yW<|ym rfl (i64 v2)<|yl rfl (b false) (LOp.eqb (LOp.gtr rfl rfl rfl) hc2)<|zN ?_
   refine yF<|RunC.exit ?_
   cases oI h2_
   have hx := ho2 _ rfl
   exact ⟨trivial, trivial, hx⟩
 ·rintro τ4 Γ4 ⟨hw4, hd4, rfl⟩
  refine RunC.wl hw4 hd4 ?_
  replace h : K0q_k1 = some q0 := h
  unfold K0q_k1 at h
  refine zQ<|ya rfl (b true)<|zN ?_
  refine RunC.ret ?_
  have hq := oI h
  subst q0
  exact bR rfl
def K0r (a0 : Int) (a1 : Int) (a2 : Int) : Option (Bool) :=
 obind (K0n a0 a1 a2) fun (r1 : Bool) =>
 some (!r1)
theorem K0r_ok (a0 : Int) (a1 : Int) (a2 : Int) (q0 : Bool) (h : K0r a0 a1 a2 = some q0) : Ev Try.prog 182 [i64 a0, ptr [i64 a1], ptr [i64 a2]] [] (b q0) [] := by
 refine yE Try.func182 0 21 0 ([(0, i64 a0), (1, ptr [i64 a1]), (2, ptr [i64 a2])]) [] rfl ?_
 unfold K0r at h
 refine zQ<|ya rfl (b false)<|zN ?_
 refine yS ?_
 obtain ⟨r1, hf1, h⟩ := oS h
 refine yW<|ym rfl (i64 a0)<|yl rfl (i64 a1) (n2 agg2)<|yl rfl (i64 a2) (n2 agg2)<|yd rfl (b r1) (yc ent82 rfl rfl (bP (bP bN0)) (K0n_ok a0 a1 a2 r1 hf1))<|yl rfl (b (!r1)) (LOp.not rfl rfl)<|ya rfl (b (!r1))<|zN ?_
 refine RunC.ret ?_
 have hq := oI h
 subst q0
 exact bR rfl
def K0s_b1 (a0 : List Int) (a1 : Int) (a2 : Int) (v1 : Int) : Option (LR (Int) (Unit) (Int)) :=
 bsel (decide (v1 < (a0.length : Int))) (
  obind (at? a0 v1) fun (e2 : Int) =>
  obind (K0r e2 a1 a2) fun (r3 : Bool) =>
  bsel r3 (
   some (LR.ret v1)) (
   olet (IntKind.i64.wrap (v1 + 1)) fun (x4 : Int) =>
   some (LR.next x4))) (
  some (LR.out ()))
def K0s_s1 (a0 : List Int) (a1 : Int) (a2 : Int) : (Int) → Option (LR (Int) (Unit) (Int)) := fun s => K0s_b1 a0 a1 a2 s
def K0s_k1  : Option (Int) :=
 some (-1)
def K0s (a0 : List Int) (a1 : Int) (a2 : Int) : Option (Int) :=
 obind (loopM (K0s_s1 a0 a1 a2) 0) fun z => osum z (fun _ => K0s_k1) (fun r => some r)
theorem K0s_ok (a0 : List Int) (a1 : Int) (a2 : Int) (q0 : Int) (h : K0s a0 a1 a2 = some q0) : Ev Try.prog 209 [sl a0.length (a0.map i64), fn (.func 182) [] [ptr [i64 a1], ptr [i64 a2]]] [] (i64 q0) [] := by
 refine yE Try.func209 0 39 0 ([(0, sl a0.length (a0.map i64)), (1, fn (.func 182) [] [ptr [i64 a1], ptr [i64 a2]])]) [] rfl ?_
 unfold K0s at h
 refine zQ<|ya rfl (i64 0)<|zN ?_
 refine yS<|zQ<|ym rfl (sl a0.length (a0.map i64))<|yl rfl (i64 (a0.length : Int)) (LOp.len_sl und22 rfl rfl)<|ym rfl (i64 0)<|zN ?_
 obtain ⟨z2, hz_2, h⟩ := oS h
 refine RunC.cutN (fun τ Γ => WeakLe τ [] ∧ DeadLe Γ [] ∧ z2 = .inl ()) ?_ ?_
 ·refine RunC.block (RunC.loop (RunL.loopM (x := z2) (K0s_s1 a0 a1 a2) (fun (s : Int) τ Γ => WeakLe τ [(0, sl a0.length (a0.map i64)), (1, fn (.func 182) [] [ptr [i64 a1], ptr [i64 a2]]), (7, i64 (a0.length : Int)), (8, i64 s)] ∧ DeadLe Γ []) ?_ _ _ _ hz_2 ⟨⟨aR, aR, aR, aR, trivial⟩, trivial⟩))
  rintro v1 τ2 Γ2 y2_ ⟨hw2, hd2⟩ h2_ ho2 hr2
  refine RunC.wl (τ' := [(0, sl a0.length (a0.map i64)), (1, fn (.func 182) [] [ptr [i64 a1], ptr [i64 a2]]), (7, i64 (a0.length : Int)), (8, i64 v1)]) (Γ' := []) hw2 hd2 ?_
  replace h2_ : K0s_b1 a0 a1 a2 v1 = some y2_ := h2_
  unfold K0s_b1 at h2_
  refine yS ?_
  rcases oB h2_ with ⟨hc1, h2_⟩ | ⟨hc1, h2_⟩
  ·refine yW<|yl rfl (b true) (LOp.eqb (LOp.lss rfl rfl rfl) hc1)<|zN ?_
   refine yS<|yT<|RunC.skip<|yS<|RunC.block<|zQ<|ym rfl (i64 v1)<|ya rfl (i64 v1)<|zN ?_
   refine yS ?_
   obtain ⟨e2, he2, h2_⟩ := oS h2_
   obtain ⟨r3, hf3, h2_⟩ := oS h2_
   rcases oB h2_ with ⟨hc4, h2_⟩ | ⟨hc4, h2_⟩
   ·refine yW<|ym rfl (fn (.func 182) [] [ptr [i64 a1], ptr [i64 a2]])<|ym rfl (sl a0.length (a0.map i64))<|ym rfl (i64 v1)<|yl rfl (ptr [i64 e2]) (LOp.le (LOp.ix (f := i64) und22 siz2 rfl rfl rfl rfl he2) ALe.ptr)<|yl rfl (i64 e2) (n2 agg2)<|yd rfl (b true) (TOp.eqb (TOp.callB (CallAs.fn ent182 rfl rfl rfl rfl) (bP (Bors.cons (Bor.ptr bN0) (Bors.cons (Bor.ptr bN0) bN))) rfl rfl (K0r_ok e2 a1 a2 r3 hf3)) hc4)<|zN ?_
    refine yT<|zQ<|ym rfl (i64 v1)<|ya rfl (i64 v1)<|zN ?_
    refine RunC.ret ?_
    cases oI h2_
    have hx3_ := hr2 _ rfl
    subst hx3_
    have hq := oI h
    subst q0
    exact bR rfl
   ·refine yW<|ym rfl (fn (.func 182) [] [ptr [i64 a1], ptr [i64 a2]])<|ym rfl (sl a0.length (a0.map i64))<|ym rfl (i64 v1)<|yl rfl (ptr [i64 e2]) (LOp.le (LOp.ix (f := i64) und22 siz2 rfl rfl rfl rfl he2) ALe.ptr)<|yl rfl (i64 e2) (n2 agg2)<|yd rfl (b false) (TOp.eqb (TOp.callB (CallAs.fn ent182 rfl rfl rfl rfl) (bP (Bors.cons (Bor.ptr bN0) (Bors.cons (Bor.ptr bN0) bN))) rfl rfl (K0r_ok e2 a1 a2 r3 hf3)) hc4)<|zN ?_
    refine yF<|RunC.skip ?_
    obtain ⟨x4, hx5, h2_⟩ := oL h2_
    refine yW<|yl rfl (i64 x4) (LOp.eqr (LOp.add rfl rfl rfl) (congrArg (ik .i64) hx5))<|ym rfl (i64 x4)<|zN ?_
    cases oI h2_
    exact ⟨_, rfl, ⟨aR, aR, aR, aR, trivial⟩, trivial⟩
  ·refine yW<|yl rfl (b false) (LOp.eqb (LOp.lss rfl rfl rfl) hc1)<|zN ?_
   refine yS<|yF<|RunC.exit ?_
   cases oI h2_
   have hx := ho2 _ rfl
   exact ⟨trivial, trivial, hx⟩
 ·rintro τ4 Γ4 ⟨hw4, hd4, rfl⟩
  refine RunC.wl hw4 hd4 ?_
  replace h : K0s_k1 = some q0 := h
  unfold K0s_k1 at h
  refine zQ<|ya rfl (i64 (-1))<|zN ?_
  refine RunC.ret ?_
  have hq := oI h
  subst q0
  exact bR rfl
def K0t (a0 : List Int) (a1 : Int) (a2 : Int) : Option (Bool) :=
 obind (K0s a0 a1 a2) fun (r1 : Int) =>
 some (decide (0 ≤ r1))
theorem K0t_ok (a0 : List Int) (a1 : Int) (a2 : Int) (q0 : Bool) (h : K0t a0 a1 a2 = some q0) : Ev Try.prog 181 [sl a0.length (a0.map i64), fn (.func 182) [] [ptr [i64 a1], ptr [i64 a2]]] [] (b q0) [] := by
 refine yE Try.func181 0 19 0 ([(0, sl a0.length (a0.map i64)), (1, fn (.func 182) [] [ptr [i64 a1], ptr [i64 a2]])]) [] rfl ?_
 unfold K0t at h
 refine zQ<|ya rfl (b false)<|zN ?_
 refine yS ?_
 obtain ⟨r1, hf1, h⟩ := oS h
 refine yW<|ym rfl (sl a0.length (a0.map i64))<|ym rfl (fn (.func 182) [] [ptr [i64 a1], ptr [i64 a2]])<|yd rfl (i64 r1) (TOp.callB (CallAs.func ent209 rfl rfl) (bS (Bors.cons (Bor.fn bN (Bors.cons (Bor.ptr bN0) (Bors.cons (Bor.ptr bN0) bN))) bN)) rfl rfl (K0s_ok a0 a1 a2 r1 hf1))<|yl rfl (b (decide (0 ≤ r1))) (LOp.geq rfl rfl rfl)<|ya rfl (b (decide (0 ≤ r1)))<|zN ?_
 refine RunC.ret ?_
 have hq := oI h
 subst q0
 exact bR rfl
def K0u (a0 : List Int) (a1 : Int) (a2 : Int) : Option (Bool) :=
 obind (K0t a0 a1 a2) fun (r1 : Bool) =>
 some (!r1)
theorem K0u_ok (a0 : List Int) (a1 : Int) (a2 : Int) (q0 : Bool) (h : K0u a0 a1 a2 = some q0) : Ev Try.prog 106 [sl a0.length (a0.map i64), i64 a1, i64 a2] [] (b q0) [] := by
 refine yE Try.func106 0 23 0 [(0, sl a0.length (a0.map i64)), (1, i64 a1), (2, i64 a2)] [] rfl ?_
 unfold K0u at h
 refine zQ<|yd rfl (ptr [i64 a1]) (TOp.box_s rfl rfl rfl)<|yd rfl (ptr [i64 a2]) (TOp.box_s rfl rfl rfl)<|ya rfl (b false)<|zN ?_
 refine yS ?_
 obtain ⟨r1, hf1, h⟩ := oS h
 refine yW<|ym rfl (sl a0.length (a0.map i64))<|yl rfl (fn (.func 182) [] [ptr [i64 a1], ptr [i64 a2]]) (LOp.makeFunc rfl rfl)<|yd rfl (b r1) (TOp.callB (CallAs.func ent181 rfl rfl) (bS (Bors.cons (Bor.fn bN (Bors.cons (Bor.ptr bN0) (Bors.cons (Bor.ptr bN0) bN))) bN)) rfl rfl (K0t_ok a0 a1 a2 r1 hf1))<|yl rfl (b (!r1)) (LOp.not rfl rfl)<|ya rfl (b (!r1))<|zN ?_
 refine RunC.ret ?_
 have hq := oI h
 subst q0
 exact bR rfl
def K0v (a0 : F) : Option (Bool) :=
 some (!feq .f64 a0 a0)
theorem K0v_ok (a0 : F) (q0 : Bool) (h : K0v a0 = some q0) : Ev Try.prog 206 [f64 a0] [] (b q0) [] := by
 refine yE Try.func206 0 13 0 [(0, f64 a0)] [] rfl ?_
 unfold K0v at h
 refine zQ<|ya rfl (b false)<|zN ?_
 refine zQ<|ym rfl (f64 a0)<|ym rfl (f64 a0)<|yl rfl (b (!feq .f64 a0 a0)) (LOp.fne rfl (OpF.tmp rfl) (OpF.tmp rfl))<|ya rfl (b (!feq .f64 a0 a0))<|zN ?_
 refine RunC.ret ?_
 have hq := oI h
 subst q0
 exact bR rfl
def K0w (a0 : F) : Option (F) :=
 olet (fabs a0) fun (x1 : F) =>
 some x1
theorem K0w_ok (a0 : F) (q0 : F) (h : K0w a0 = some q0) : Ev Try.prog 213 [f64 a0] [] (f64 q0) [] := by
 refine yE Try.func213 0 15 0 [(0, f64 a0)] [] rfl ?_
 unfold K0w at h
 refine zQ<|yl rfl (f64 (some 0)) (LOp.le (LOp.assign rfl rfl) (ALe.fl (by kernel_rfl) (by kernel_rfl)))<|zN ?_
 refine yS ?_
 obtain ⟨x1, hx1, h⟩ := oL h
 refine yW<|ym rfl (f64 a0)<|yl rfl (bt .f64 .u64 a0) (LOp.fbits ext214 rfl (OpF.tmp rfl))<|yl rfl (bt .f64 .u64 x1) (LOp.eqr (LOp.andNot_bt rfl rfl rfl) (congrArg (bt .f64 .u64) hx1))<|yl rfl (f64 x1) (LOp.ffrom ext215 rfl rfl)<|ya rfl (f64 x1)<|zN ?_
 refine RunC.ret ?_
 have hq := oI h
 subst q0
 exact bR rfl
def K0x_k1 (y3 : F) : Option (Bool) :=
 some (flt .f64 (some 9218868437227405311) y3)
def K0x (a0 : F) (a1 : Int) : Option (Bool) :=
 bsel (decide (a1 = 0)) (
  obind (K0w a0) fun (r1 : F) =>
  K0x_k1 r1) (
  bsel (decide (a1 < 0)) (
   olet (fneg .f64 a0) fun (x2 : F) =>
   K0x_k1 x2) (
   K0x_k1 a0))
theorem K0x_ok (a0 : F) (a1 : Int) (q0 : Bool) (h : K0x a0 a1 = some q0) : Ev Try.prog 207 [f64 a0, i64 a1] [] (b q0) [] := by
 refine yE Try.func207 0 31 0 [(0, f64 a0), (1, i64 a1)] [] rfl ?_
 unfold K0x at h
 refine zQ<|ya rfl (b false)<|zN ?_
 refine yS<|RunC.cutN (fun τ Γ => ∃ (y3 : F), WeakLe τ [(0, f64 y3)] ∧ DeadLe Γ [] ∧ K0x_k1 y3 = some q0) ?_ ?_
 ·refine yS ?_
  rcases oB h with ⟨hc1, h⟩ | ⟨hc1, h⟩
  ·refine yW<|ym rfl (i64 a1)<|yl rfl (b true) (LOp.eqb (LOp.eql rfl rfl rfl) hc1)<|zN ?_
   refine yT ?_
   obtain ⟨r1, hf2, h⟩ := oS h
   refine yW<|ym rfl (f64 a0)<|yd rfl (f64 r1) (yc ent213 rfl rfl bN0 (K0w_ok a0 r1 hf2))<|ya rfl (f64 r1)<|zN ?_
   exact ⟨r1, ⟨aR, trivial⟩, trivial, h⟩
  ·refine yW<|ym rfl (i64 a1)<|yl rfl (b false) (LOp.eqb (LOp.eql rfl rfl rfl) hc1)<|zN ?_
   refine yF<|yS ?_
   rcases oB h with ⟨hc3, h⟩ | ⟨hc3, h⟩
   ·refine yW<|ym rfl (i64 a1)<|yl rfl (b true) (LOp.eqb (LOp.lss rfl rfl rfl) hc3)<|zN ?_
    refine yT ?_
    obtain ⟨x2, hx4, h⟩ := oL h
    refine yW<|ym rfl (f64 a0)<|yl rfl (f64 x2) (LOp.eqr (LOp.fneg rfl (OpF.tmp rfl)) (congrArg (f .f64) hx4))<|ya rfl (f64 x2)<|zN ?_
    exact ⟨x2, ⟨aR, trivial⟩, trivial, h⟩
   ·refine yW<|ym rfl (i64 a1)<|yl rfl (b false) (LOp.eqb (LOp.lss rfl rfl rfl) hc3)<|zN ?_
    refine yF<|RunC.skip ?_
    exact ⟨a0, ⟨aR, trivial⟩, trivial, h⟩
 ·rintro τ2 Γ2 ⟨y3, hw2, hd2, h⟩
  refine RunC.wl hw2 hd2 ?_
  unfold K0x_k1 at h
  refine zQ<|ym rfl (f64 y3)<|yl rfl (b (flt .f64 (some 9218868437227405311) y3)) (LOp.fgt rfl (OpF.tmp rfl) (OpF.const rfl (by kernel_rfl) (by kernel_rfl)))<|ya rfl (b (flt .f64 (some 9218868437227405311) y3))<|zN ?_
  refine RunC.ret ?_
  have hq := oI h
  subst q0
  exact bR rfl
def K0y (a0 : F) : Option (Bool) :=
 obind (K0v a0) fun (r1 : Bool) =>
 bsel r1 (
  some false) (
  obind (K0x a0 0) fun (r2 : Bool) =>
  some (!r2))
theorem K0y_ok (a0 : F) (q0 : Bool) (h : K0y a0 = some q0) : Ev Try.prog 178 [f64 a0] [] (b q0) [] := by
 refine yE Try.func178 0 23 0 [(0, f64 a0)] [] rfl ?_
 unfold K0y at h
 refine zQ<|ya rfl (b false)<|zN ?_
 refine yS ?_
 obtain ⟨r1, hf1, h⟩ := oS h
 rcases oB h with ⟨hc2, h⟩ | ⟨hc2, h⟩
 ·refine yW<|ym rfl (f64 a0)<|yd rfl (b true) (TOp.eqb (yc ent206 rfl rfl bN0 (K0v_ok a0 r1 hf1)) hc2)<|yl rfl (b false) n1<|ym rfl (b false)<|yR rfl<|yR rfl<|yR rfl<|yl rfl (b false) yp<|ya rfl (b false)<|zN ?_
  refine RunC.ret ?_
  have hq := oI h
  subst q0
  exact bR rfl
 ·obtain ⟨r2, hf3, h⟩ := oS h
  refine yW<|ym rfl (f64 a0)<|yd rfl (b false) (TOp.eqb (yc ent206 rfl rfl bN0 (K0v_ok a0 r1 hf1)) hc2)<|yl rfl (b true) n0<|ym rfl (b true)<|ym rfl (f64 a0)<|yd rfl (b r2) (yc ent207 rfl rfl (bP bN0) (K0x_ok a0 0 r2 hf3))<|yl rfl (b (!r2)) (LOp.not rfl rfl)<|yl rfl (b (!r2)) yq<|ya rfl (b (!r2))<|zN ?_
  refine RunC.ret ?_
  have hq := oI h
  subst q0
  exact bR rfl
def K0z (a0 : F) : Option (Bool) :=
 olet (fwiden a0) fun (x1 : F) =>
 obind (K0y x1) fun (r2 : Bool) =>
 some r2
theorem K0z_ok (a0 : F) (q0 : Bool) (h : K0z a0 = some q0) : Ev Try.prog 90 [f32 a0] [] (b q0) [] := by
 refine yE Try.func90 0 13 0 [(0, f32 a0)] [] rfl ?_
 unfold K0z at h
 refine zQ<|ya rfl (b false)<|zN ?_
 refine yS ?_
 obtain ⟨x1, hx1, h⟩ := oL h
 obtain ⟨r2, hf2, h⟩ := oS h
 refine yW<|ym rfl (f32 a0)<|yd rfl (f64 x1) (TOp.eqr (TOp.widen (src := 26) (dst := 56) ⟨_, pun26⟩ pun56 rfl (OpF.tmp rfl)) (congrArg (f .f64) hx1))<|yd rfl (b r2) (yc ent178 rfl rfl bN0 (K0y_ok x1 r2 hf2))<|ya rfl (b r2)<|zN ?_
 refine RunC.ret ?_
 have hq := oI h
 subst q0
 exact bR rfl
def K10 (a0 : F) : Option (Bool) :=
 obind (K0z a0) fun (r1 : Bool) =>
 some (!r1)
theorem K10_ok (a0 : F) (q0 : Bool) (h : K10 a0 = some q0) : Ev Try.prog 175 [f32 a0] [] (b q0) [] := by
 refine yE Try.func175 0 13 0 [(0, f32 a0)] [] rfl ?_
 unfold K10 at h
 refine zQ<|ya rfl (b false)<|zN ?_
 refine yS ?_
 obtain ⟨r1, hf1, h⟩ := oS h
 refine yW<|ym rfl (f32 a0)<|yd rfl (b r1) (yc ent90 rfl rfl bN0 (K0z_ok a0 r1 hf1))<|yl rfl (b (!r1)) (LOp.not rfl rfl)<|ya rfl (b (!r1))<|zN ?_
 refine RunC.ret ?_
 have hq := oI h
 subst q0
 exact bR rfl
def K11_b1 (a0 : List F) (v1 : Int) : Option (LR (Int) (Unit) (Int)) :=
 bsel (decide (v1 < (a0.length : Int))) (
  obind (at? a0 v1) fun (e2 : F) =>
  obind (K10 e2) fun (r3 : Bool) =>
  bsel r3 (
   some (LR.ret v1)) (
   olet (IntKind.i64.wrap (v1 + 1)) fun (x4 : Int) =>
   some (LR.next x4))) (
  some (LR.out ()))
def K11_s1 (a0 : List F) : (Int) → Option (LR (Int) (Unit) (Int)) := fun s => K11_b1 a0 s
def K11_k1  : Option (Int) :=
 some (-1)
def K11 (a0 : List F) : Option (Int) :=
 obind (loopM (K11_s1 a0) 0) fun z => osum z (fun _ => K11_k1) (fun r => some r)
theorem K11_ok (a0 : List F) (q0 : Int) (h : K11 a0 = some q0) : Ev Try.prog 196 [(sFc a0), fn (.func 175) [] []] [] (i64 q0) [] := by
 refine yE Try.func196 0 39 0 ([(0, (sFc a0)), (1, fn (.func 175) [] [])]) [] rfl ?_
 unfold K11 at h
 refine zQ<|ya rfl (i64 0)<|zN ?_
 refine yS<|zQ<|ym rfl (sFc a0)<|yl rfl (i64 (a0.length : Int)) (LOp.len_sl und23 rfl rfl)<|ym rfl (i64 0)<|zN ?_
 obtain ⟨z2, hz_2, h⟩ := oS h
 refine RunC.cutN (fun τ Γ => WeakLe τ [] ∧ DeadLe Γ [] ∧ z2 = .inl ()) ?_ ?_
 ·refine RunC.block (RunC.loop (RunL.loopM (x := z2) (K11_s1 a0) (fun (s : Int) τ Γ => WeakLe τ [(0, (sFc a0)), (1, fn (.func 175) [] []), (7, i64 (a0.length : Int)), (8, i64 s)] ∧ DeadLe Γ []) ?_ _ _ _ hz_2 ⟨⟨aR, aR, aR, aR, trivial⟩, trivial⟩))
  rintro v1 τ2 Γ2 y2_ ⟨hw2, hd2⟩ h2_ ho2 hr2
  refine RunC.wl (τ' := [(0, (sFc a0)), (1, fn (.func 175) [] []), (7, i64 (a0.length : Int)), (8, i64 v1)]) (Γ' := []) hw2 hd2 ?_
  replace h2_ : K11_b1 a0 v1 = some y2_ := h2_
  unfold K11_b1 at h2_
  refine yS ?_
  rcases oB h2_ with ⟨hc1, h2_⟩ | ⟨hc1, h2_⟩
  ·refine yW<|yl rfl (b true) (LOp.eqb (LOp.lss rfl rfl rfl) hc1)<|zN ?_
   refine yS<|yT<|RunC.skip<|yS<|RunC.block<|zQ<|ym rfl (i64 v1)<|ya rfl (i64 v1)<|zN ?_
   refine yS ?_
   obtain ⟨e2, he2, h2_⟩ := oS h2_
   obtain ⟨r3, hf3, h2_⟩ := oS h2_
   rcases oB h2_ with ⟨hc4, h2_⟩ | ⟨hc4, h2_⟩
   ·refine yW<|ym rfl (fn (.func 175) [] [])<|ym rfl (sFc a0)<|ym rfl (i64 v1)<|yl rfl (ptr [f32 e2]) (LOp.le (LOp.ix (f := f32) und23 siz26 rfl rfl rfl rfl he2) ALe.ptr)<|yl rfl (f32 e2) (n2 agg26)<|yd rfl (b true) (TOp.eqb (TOp.callB (CallAs.fn ent175 rfl rfl rfl rfl) bN0 rfl rfl (K10_ok e2 r3 hf3)) hc4)<|zN ?_
    refine yT<|zQ<|ym rfl (i64 v1)<|ya rfl (i64 v1)<|zN ?_
    refine RunC.ret ?_
    cases oI h2_
    have hx3_ := hr2 _ rfl
    subst hx3_
    have hq := oI h
    subst q0
    exact bR rfl
   ·refine yW<|ym rfl (fn (.func 175) [] [])<|ym rfl (sFc a0)<|ym rfl (i64 v1)<|yl rfl (ptr [f32 e2]) (LOp.le (LOp.ix (f := f32) und23 siz26 rfl rfl rfl rfl he2) ALe.ptr)<|yl rfl (f32 e2) (n2 agg26)<|yd rfl (b false) (TOp.eqb (TOp.callB (CallAs.fn ent175 rfl rfl rfl rfl) bN0 rfl rfl (K10_ok e2 r3 hf3)) hc4)<|zN ?_
    refine yF<|RunC.skip ?_
    obtain ⟨x4, hx5, h2_⟩ := oL h2_
    refine yW<|yl rfl (i64 x4) (LOp.eqr (LOp.add rfl rfl rfl) (congrArg (ik .i64) hx5))<|ym rfl (i64 x4)<|zN ?_
    cases oI h2_
    exact ⟨_, rfl, ⟨aR, aR, aR, aR, trivial⟩, trivial⟩
  ·refine yW<|yl rfl (b false) (LOp.eqb (LOp.lss rfl rfl rfl) hc1)<|zN ?_
   refine yS<|yF<|RunC.exit ?_
   cases oI h2_
   have hx := ho2 _ rfl
   exact ⟨trivial, trivial, hx⟩
 ·rintro τ4 Γ4 ⟨hw4, hd4, rfl⟩
  refine RunC.wl hw4 hd4 ?_
  replace h : K11_k1 = some q0 := h
  unfold K11_k1 at h
  refine zQ<|ya rfl (i64 (-1))<|zN ?_
  refine RunC.ret ?_
  have hq := oI h
  subst q0
  exact bR rfl
def K12 (a0 : List F) : Option (Bool) :=
 obind (K11 a0) fun (r1 : Int) =>
 some (decide (0 ≤ r1))
theorem K12_ok (a0 : List F) (q0 : Bool) (h : K12 a0 = some q0) : Ev Try.prog 152 [(sFc a0), fn (.func 175) [] []] [] (b q0) [] := by
 refine yE Try.func152 0 19 0 ([(0, (sFc a0)), (1, fn (.func 175) [] [])]) [] rfl ?_
 unfold K12 at h
 refine zQ<|ya rfl (b false)<|zN ?_
 refine yS ?_
 obtain ⟨r1, hf1, h⟩ := oS h
 refine yW<|ym rfl (sFc a0)<|ym rfl (fn (.func 175) [] [])<|yd rfl (i64 r1) (yc ent196 rfl rfl (bS (Bors.cons (Bor.fn bN bN) bN)) (K11_ok a0 r1 hf1))<|yl rfl (b (decide (0 ≤ r1))) (LOp.geq rfl rfl rfl)<|ya rfl (b (decide (0 ≤ r1)))<|zN ?_
 refine RunC.ret ?_
 have hq := oI h
 subst q0
 exact bR rfl
def K13 (a0 : List F) : Option (Bool) :=
 obind (K12 a0) fun (r1 : Bool) =>
 some (!r1)
theorem K13_ok (a0 : List F) (q0 : Bool) (h : K13 a0 = some q0) : Ev Try.prog 81 [(sFc a0)] [] (b q0) [] := by
 refine yE Try.func81 0 13 0 [(0, (sFc a0))] [] rfl ?_
 unfold K13 at h
 refine zQ<|ya rfl (b false)<|zN ?_
 refine yS ?_
 obtain ⟨r1, hf1, h⟩ := oS h
 refine yW<|ym rfl (sFc a0)<|yd rfl (b r1) (yc ent152 rfl rfl (bS (Bors.cons (Bor.fn bN bN) bN)) (K12_ok a0 r1 hf1))<|yl rfl (b (!r1)) (LOp.not rfl rfl)<|ya rfl (b (!r1))<|zN ?_
 refine RunC.ret ?_
 have hq := oI h
 subst q0
 exact bR rfl
end
end Go.Proofs.Ytfhbfpdeafpelaa
