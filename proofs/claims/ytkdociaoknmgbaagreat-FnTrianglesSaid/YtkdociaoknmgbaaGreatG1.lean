/- Generated. -/
import Derived.Test.YtkdociaoknmgbaaGreatG0
namespace Go.Proofs.YtkdociaoknmgbaaGreat
open Go Go.AM Go.AM.AV
set_option maxRecDepth 20000
set_option maxHeartbeats 4000000
set_option linter.unusedVariables false
set_option linter.unusedSimpArgs false
noncomputable section
def s_l02Order_b1 (a0 : List Int) (L1 : List Bool) (v3 : Int) : Option (LR ((List Bool) × Int) (Unit) (Bool)) :=
 bsel (decide (v3 < (a0.length : Int))) (
  obind (at? a0 v3) fun (e4 : Int) =>
  olet (IntKind.i64.wrap ((a0.length : Int) - 1)) fun (x5 : Int) =>
  obind (s_l00In e4 0 x5) fun (r6 : Bool) =>
  bsel r6 (
   obind (at? a0 v3) fun (e7 : Int) =>
   obind (at? L1 e7) fun (e8 : Bool) =>
   bsel e8 (
    some (LR.ret false)) (
    obind (at? a0 v3) fun (e9 : Int) =>
    obind (setAt? L1 e9 true) fun (L10 : List Bool) =>
    olet (IntKind.i64.wrap (v3 + 1)) fun (x11 : Int) =>
    some (LR.next (L10, x11)))) (
   some (LR.ret false))) (
  some (LR.out ()))
def s_l02Order_s1 (a0 : List Int) : ((List Bool) × Int) → Option (LR ((List Bool) × Int) (Unit) (Bool)) := fun s => s_l02Order_b1 a0 s.1 s.2
def s_l02Order_k1  : Option (Bool) :=
 some true
def s_l02Order (a0 : List Int) : Option (Bool) :=
 bsel (decide ((a0.length : Int) < 1)) (
  some false) (
  bsel (decide (12 < (a0.length : Int))) (
   some false) (
   need (mkok 1 (a0.length : Int)) <|
   obind (loopM (s_l02Order_s1 a0) ((List.replicate (a0.length : Int).toNat false), 0)) fun z => osum z (fun _ => s_l02Order_k1) (fun r => some r)))
theorem s_l02Order_ok (a0 : List Int) (q0 : Bool) (h : s_l02Order a0 = some q0) : Ev Tryz.prog 60 [sl a0.length (a0.map i64)] [] (b q0) [] := by
 refine yE Tryz.func60 1 93 0 [(0, sl a0.length (a0.map i64))] [⟨0, none⟩] rfl ?_
 unfold s_l02Order at h
 refine zQ<|ya rfl (b false)<|zN ?_
 refine yS<|yS ?_
 rcases oB h with ⟨hc1, h⟩ | ⟨hc1, h⟩
 ·refine yW<|ym rfl (sl a0.length (a0.map i64))<|yl rfl (i64 (a0.length : Int)) (LOp.len_sl und30 rfl rfl)<|yl rfl (b true) (LOp.eqb (LOp.lss rfl rfl rfl) hc1)<|ym rfl (b true)<|ROps.s rfl rfl rfl<|ROps.s rfl rfl rfl<|ROps.s rfl rfl rfl<|yl rfl (b true) yq<|zN ?_
  refine yT<|zQ<|ya rfl (b false)<|zN ?_
  refine RunC.ret ?_
  have hq := oI h
  subst q0
  exact bodyQ.pure (.inr rfl) rfl (Res.one rfl (RV.tmp rfl))
 ·rcases oB h with ⟨hc2, h⟩ | ⟨hc2, h⟩
  ·refine yW<|ym rfl (sl a0.length (a0.map i64))<|yl rfl (i64 (a0.length : Int)) (LOp.len_sl und30 rfl rfl)<|yl rfl (b false) (LOp.eqb (LOp.lss rfl rfl rfl) hc1)<|ym rfl (b false)<|ym rfl (sl a0.length (a0.map i64))<|yl rfl (i64 (a0.length : Int)) (LOp.len_sl und30 rfl rfl)<|yl rfl (b true) (LOp.eqb (LOp.gtr rfl rfl rfl) hc2)<|yl rfl (b true) yp<|zN ?_
   refine yT<|zQ<|ya rfl (b false)<|zN ?_
   refine RunC.ret ?_
   have hq := oI h
   subst q0
   exact bodyQ.pure (.inr rfl) rfl (Res.one rfl (RV.tmp rfl))
  ·refine yW<|ym rfl (sl a0.length (a0.map i64))<|yl rfl (i64 (a0.length : Int)) (LOp.len_sl und30 rfl rfl)<|yl rfl (b false) (LOp.eqb (LOp.lss rfl rfl rfl) hc1)<|ym rfl (b false)<|ym rfl (sl a0.length (a0.map i64))<|yl rfl (i64 (a0.length : Int)) (LOp.len_sl und30 rfl rfl)<|yl rfl (b false) (LOp.eqb (LOp.gtr rfl rfl rfl) hc2)<|yl rfl (b false) yp<|zN ?_
   refine yF<|RunC.skip<|yS ?_
   obtain ⟨hm3, h⟩ := need_some h
   refine yW<|ym rfl (sl a0.length (a0.map i64))<|yl rfl (i64 (a0.length : Int)) (LOp.len_sl und30 rfl rfl)<|ye rfl (oref 0 1 0 ((a0.length : Int).toNat)) [⟨1, some ((List.replicate (a0.length : Int).toNat false).map b)⟩] (TOp.mkS (g := ⟨0, none⟩) (t := 118) (e := 4) (by_ := 1) (f := b) (zv := false) 0 rfl und118 tin4 rfl siz4 zer4 rfl zel4 rfl rfl rfl hm3)<|ya rfl (oref 0 1 0 ((a0.length : Int).toNat))<|zN ?_
   refine yS<|zQ<|ya rfl (i64 0)<|zN ?_
   obtain ⟨z2, hz_2, h⟩ := oS h
   refine RunC.cutN (fun τ Γ => WeakLe τ [] ∧ DeadLe Γ [⟨1, none⟩] ∧ z2 = .inl ()) ?_ ?_
   ·refine RunC.block (RunC.loop (RunL.loopM (x := z2) (s_l02Order_s1 a0) (fun (s : (List Bool) × Int) τ Γ => s.1.length = (a0.length : Int).toNat ∧ WeakLe τ [(0, sl a0.length (a0.map i64)), (3, oref 0 1 0 ((a0.length : Int).toNat)), (4, i64 s.2)] ∧ DeadLe Γ [⟨1, some (s.1.map b)⟩]) ?_ _ _ _ hz_2 ⟨List.length_replicate, ⟨aR, aR, aR, trivial⟩, ⟨⟨rfl, .inr rfl⟩, trivial⟩⟩))
    rintro ⟨L1, v3⟩ τ2 Γ2 y2_ ⟨hl2, hw2, hd2⟩ h2_ ho2 hr2
    refine RunC.wl (τ' := [(0, sl a0.length (a0.map i64)), (3, oref 0 1 0 ((a0.length : Int).toNat)), (4, i64 v3)]) (Γ' := [⟨1, some (L1.map b)⟩]) hw2 hd2 ?_
    replace hl2 : L1.length = (a0.length : Int).toNat := hl2
    replace h2_ : s_l02Order_b1 a0 L1 v3 = some y2_ := h2_
    unfold s_l02Order_b1 at h2_
    refine yS<|yS ?_
    rcases oB h2_ with ⟨hc4, h2_⟩ | ⟨hc4, h2_⟩
    ·refine yW<|ym rfl (i64 v3)<|ym rfl (sl a0.length (a0.map i64))<|yl rfl (i64 (a0.length : Int)) (LOp.len_sl und30 rfl rfl)<|yl rfl (b true) (LOp.eqb (LOp.lss rfl rfl rfl) hc4)<|zN ?_
     refine yT<|RunC.skip<|yS<|RunC.block<|yS<|yS ?_
     obtain ⟨e4, he5, h2_⟩ := oS h2_
     obtain ⟨x5, hx6, h2_⟩ := oL h2_
     obtain ⟨r6, hf7, h2_⟩ := oS h2_
     rcases oB h2_ with ⟨hc8, h2_⟩ | ⟨hc8, h2_⟩
     ·obtain ⟨e7, he9, h2_⟩ := oS h2_
      obtain ⟨e8, he10, h2_⟩ := oS h2_
      rcases oB h2_ with ⟨hc11, h2_⟩ | ⟨hc11, h2_⟩
      ·refine yW<|ym rfl (sl a0.length (a0.map i64))<|ym rfl (i64 v3)<|yl rfl (ptr [i64 e4]) (LOp.le (LOp.ix (f := i64) und30 siz2 rfl rfl rfl rfl he5) ALe.ptr)<|yl rfl (i64 e4) (y2 agg2)<|ym rfl (sl a0.length (a0.map i64))<|yl rfl (i64 (a0.length : Int)) (LOp.len_sl und30 rfl rfl)<|yl rfl (i64 x5) (LOp.eqr (LOp.sub rfl rfl rfl) (congrArg (ik .i64) hx6))<|yd rfl (b true) (TOp.eqb (yc ent77 rfl rfl (bP (bP bN0)) (s_l00In_ok e4 0 x5 r6 hf7)) hc8)<|yl rfl (b false) y1<|ym rfl (b false)<|ym rfl (oref 0 1 0 ((a0.length : Int).toNat))<|ym rfl (sl a0.length (a0.map i64))<|ym rfl (i64 v3)<|yl rfl (ptr [i64 e7]) (LOp.le (LOp.ix (f := i64) und30 siz2 rfl rfl rfl rfl he9) ALe.ptr)<|yl rfl (i64 e7) (y2 agg2)<|yd rfl (optr 0 1 e7.toNat) (TOp.ixo und118 siz4 rfl rfl rfl (at_in he10 hl2) rfl)<|yd rfl (b true) (TOp.eqb (TOp.load1_o rfl (at_cell he10) agg4 rfl rfl) hc11)<|yl rfl (b true) yp<|zN ?_
       refine RunC.wl (τ' := [(0, sl a0.length (a0.map i64)), (3, oref 0 1 0 ((a0.length : Int).toNat)), (4, i64 v3), (32, oref 0 1 0 ((a0.length : Int).toNat)), (33, sl a0.length (a0.map i64)), (34, i64 v3), (35, ptr [i64 e7]), (36, i64 e7), (37, optr 0 1 e7.toNat), (38, b true), (39, b true)]) (Γ' := [⟨1, some (L1.map b)⟩]) ⟨aR, aR, aR, aR, aR, aR, aR, aR, aR, aR, aR, trivial⟩ ⟨⟨rfl, .inr rfl⟩, trivial⟩<|yT<|zQ<|ya rfl (b false)<|zN ?_
       refine RunC.ret ?_
       cases oI h2_
       have hx3_ := hr2 _ rfl
       subst hx3_
       have hq := oI h
       subst q0
       exact bodyQ.pure (.inr rfl) rfl (Res.one rfl (RV.tmp rfl))
      ·refine yW<|ym rfl (sl a0.length (a0.map i64))<|ym rfl (i64 v3)<|yl rfl (ptr [i64 e4]) (LOp.le (LOp.ix (f := i64) und30 siz2 rfl rfl rfl rfl he5) ALe.ptr)<|yl rfl (i64 e4) (y2 agg2)<|ym rfl (sl a0.length (a0.map i64))<|yl rfl (i64 (a0.length : Int)) (LOp.len_sl und30 rfl rfl)<|yl rfl (i64 x5) (LOp.eqr (LOp.sub rfl rfl rfl) (congrArg (ik .i64) hx6))<|yd rfl (b true) (TOp.eqb (yc ent77 rfl rfl (bP (bP bN0)) (s_l00In_ok e4 0 x5 r6 hf7)) hc8)<|yl rfl (b false) y1<|ym rfl (b false)<|ym rfl (oref 0 1 0 ((a0.length : Int).toNat))<|ym rfl (sl a0.length (a0.map i64))<|ym rfl (i64 v3)<|yl rfl (ptr [i64 e7]) (LOp.le (LOp.ix (f := i64) und30 siz2 rfl rfl rfl rfl he9) ALe.ptr)<|yl rfl (i64 e7) (y2 agg2)<|yd rfl (optr 0 1 e7.toNat) (TOp.ixo und118 siz4 rfl rfl rfl (at_in he10 hl2) rfl)<|yd rfl (b false) (TOp.eqb (TOp.load1_o rfl (at_cell he10) agg4 rfl rfl) hc11)<|yl rfl (b false) yp<|zN ?_
       refine RunC.wl (τ' := [(0, sl a0.length (a0.map i64)), (3, oref 0 1 0 ((a0.length : Int).toNat)), (4, i64 v3), (32, oref 0 1 0 ((a0.length : Int).toNat)), (33, sl a0.length (a0.map i64)), (34, i64 v3), (35, ptr [i64 e7]), (36, i64 e7), (37, optr 0 1 e7.toNat), (38, b false), (39, b false)]) (Γ' := [⟨1, some (L1.map b)⟩]) ⟨aR, aR, aR, aR, aR, aR, aR, aR, aR, aR, aR, trivial⟩ ⟨⟨rfl, .inr rfl⟩, trivial⟩<|yF<|RunC.skip ?_
       obtain ⟨e9, he12, h2_⟩ := oS h2_
       obtain ⟨L10, he13, h2_⟩ := oS h2_
       refine yW<|ym rfl (oref 0 1 0 ((a0.length : Int).toNat))<|ym rfl (sl a0.length (a0.map i64))<|ym rfl (i64 v3)<|yl rfl (ptr [i64 e9]) (LOp.le (LOp.ix (f := i64) und30 siz2 rfl rfl rfl rfl he12) ALe.ptr)<|yl rfl (i64 e9) (y2 agg2)<|yd rfl (optr 0 1 e9.toNat) (TOp.ixo und118 siz4 rfl rfl rfl (set_in he13 hl2) rfl)<|ROps.st (f := b) (i := e9) (Γ' := [⟨1, some (L10.map b)⟩]) rfl siz4 rfl rfl rfl aR rfl rfl rfl he13 rfl<|zN ?_
       obtain ⟨x11, hx14, h2_⟩ := oL h2_
       refine yW<|ym rfl (i64 v3)<|yl rfl (i64 x11) (LOp.eqr (LOp.add rfl rfl rfl) (congrArg (ik .i64) hx14))<|ya rfl (i64 x11)<|zN ?_
       cases oI h2_
       exact ⟨_, rfl, ((setAt?_len he13).trans hl2), ⟨aR, aR, aR, trivial⟩, ⟨⟨rfl, .inr rfl⟩, trivial⟩⟩
     ·refine yW<|ym rfl (sl a0.length (a0.map i64))<|ym rfl (i64 v3)<|yl rfl (ptr [i64 e4]) (LOp.le (LOp.ix (f := i64) und30 siz2 rfl rfl rfl rfl he5) ALe.ptr)<|yl rfl (i64 e4) (y2 agg2)<|ym rfl (sl a0.length (a0.map i64))<|yl rfl (i64 (a0.length : Int)) (LOp.len_sl und30 rfl rfl)<|yl rfl (i64 x5) (LOp.eqr (LOp.sub rfl rfl rfl) (congrArg (ik .i64) hx6))<|yd rfl (b false) (TOp.eqb (yc ent77 rfl rfl (bP (bP bN0)) (s_l00In_ok e4 0 x5 r6 hf7)) hc8)<|yl rfl (b true) y0<|ym rfl (b true)<|ROps.s rfl rfl rfl<|ROps.s rfl rfl rfl<|ROps.s rfl rfl rfl<|ROps.s rfl rfl rfl<|ROps.s rfl rfl rfl<|ROps.s rfl rfl rfl<|ROps.s rfl rfl rfl<|yl rfl (b true) yq<|zN ?_
      refine RunC.wl (τ' := [(0, sl a0.length (a0.map i64)), (3, oref 0 1 0 ((a0.length : Int).toNat)), (4, i64 v3), (39, b true)]) (Γ' := [⟨1, some (L1.map b)⟩]) ⟨aR, aR, aR, aR, trivial⟩ ⟨⟨rfl, .inr rfl⟩, trivial⟩<|yT<|zQ<|ya rfl (b false)<|zN ?_
      refine RunC.ret ?_
      cases oI h2_
      have hx4_ := hr2 _ rfl
      subst hx4_
      have hq := oI h
      subst q0
      exact bodyQ.pure (.inr rfl) rfl (Res.one rfl (RV.tmp rfl))
    ·refine yW<|ym rfl (i64 v3)<|ym rfl (sl a0.length (a0.map i64))<|yl rfl (i64 (a0.length : Int)) (LOp.len_sl und30 rfl rfl)<|yl rfl (b false) (LOp.eqb (LOp.lss rfl rfl rfl) hc4)<|zN ?_
     refine yF<|RunC.exit ?_
     cases oI h2_
     have hx := ho2 _ rfl
     exact ⟨trivial, ⟨⟨rfl, .inl rfl⟩, trivial⟩, hx⟩
   ·rintro τ5 Γ5 ⟨hw5, hd5, rfl⟩
    refine RunC.wl hw5 hd5 ?_
    replace h : s_l02Order_k1 = some q0 := h
    unfold s_l02Order_k1 at h
    refine zQ<|ya rfl (b true)<|zN ?_
    refine RunC.ret ?_
    have hq := oI h
    subst q0
    exact bodyQ.pure (.inr rfl) rfl (Res.one rfl (RV.tmp rfl))
def s_l02At (a0 : Int) (a1 : Int) (a2 : List F) (a3 : Int) (a4 : Int) : Option (F) :=
 olet (IntKind.i64.wrap (a3 * a1)) fun (x1 : Int) =>
 olet (IntKind.i64.wrap (x1 + a4)) fun (x2 : Int) =>
 obind (at? a2 x2) fun (e3 : F) =>
 some e3
theorem s_l02At_ok (a0 : Int) (a1 : Int) (a2 : List F) (a3 : Int) (a4 : Int) (q0 : F) (h : s_l02At a0 a1 a2 a3 a4 = some q0) : Ev Tryz.prog 87 [ptr (mXc a0 a1 a2), i64 a3, i64 a4] [] (f32 q0) [] := by
 refine yE Tryz.func87 0 43 0 [(0, ptr (mXc a0 a1 a2)), (1, i64 a3), (2, i64 a4)] [] rfl ?_
 unfold s_l02At at h
 refine zQ<|yl rfl (f32 (some 0)) (LOp.le (LOp.assign rfl rfl) (ALe.fl (by kernel_rfl) (by kernel_rfl)))<|zN ?_
 refine yS ?_
 obtain ⟨x1, hx1, h⟩ := oL h
 obtain ⟨x2, hx2, h⟩ := oL h
 obtain ⟨e3, he3, h⟩ := oS h
 refine RunC.region_draw (Γ' := []) 15 mixed 
  (tm rfl (ptr (mXc a0 a1 a2)) <|
  (tl rfl (ptr (mXc a0 a1 a2)) (LOp.nilCheck_ptr rfl rfl) <|
  (tl rfl (ptr [(sFc a2)]) (LOp.fap und27 rfl siz25 rfl rfl rfl) <|
  (tl rfl (sFc a2) (y2 agg25) <|
  (tm rfl (i64 a3) <|
  (tm rfl (ptr (mXc a0 a1 a2)) <|
  (tl rfl (ptr (mXc a0 a1 a2)) (LOp.nilCheck_ptr rfl rfl) <|
  (tl rfl (ptr [i64 a1, (sFc a2)]) (LOp.fap und27 rfl siz2 rfl rfl rfl) <|
  (tl rfl (i64 a1) (y2 agg2) <|
  (tl rfl (i64 x1) (LOp.eqr (LOp.mul rfl rfl rfl) (congrArg (ik .i64) hx1)) <|
  (tm rfl (i64 a4) <|
  (tl rfl (i64 x2) (LOp.eqr (LOp.add rfl rfl rfl) (congrArg (ik .i64) hx2)) <|
  (tl rfl (ptr [f32 e3]) (LOp.le (LOp.ix (f := f32) und25 siz41 rfl rfl rfl rfl he3) ALe.ptr) <|
  (tl rfl (f32 e3) (y2 agg41) <|
  (tl rfl (f32 e3) (LOp.assign rfl rfl) <|
  TR.nil))))))))))))))) rfl (by kernel_rfl) rfl fills_nil rfl ?_
 iterate 15 refine ROps.dropS ?_
 refine ROps.drop0<|zN ?_
 refine RunC.ret ?_
 have hq := oI h
 subst q0
 exact bodyQ.pure (.inr rfl) rfl (Res.one rfl (RV.tmp rfl))
def s_l03Is_b1 (a0 : Int) (a1 : Int) (a2 : List F) (v3 : Int) : Option (LR (Int) (Unit) (Bool)) :=
 bsel (decide (v3 < a0)) (
  obind (s_l02At a0 a1 a2 v3 v3) fun (r4 : F) =>
  bsel (feq .f32 r4 (some 0)) (
   some (LR.ret false)) (
   olet (IntKind.i64.wrap (v3 + 1)) fun (x5 : Int) =>
   some (LR.next x5))) (
  some (LR.out ()))
def s_l03Is_s1 (a0 : Int) (a1 : Int) (a2 : List F) : (Int) → Option (LR (Int) (Unit) (Bool)) := fun s => s_l03Is_b1 a0 a1 a2 s
def s_l03Is_k1  : Option (Bool) :=
 some true
def s_l03Is (a0 : Int) (a1 : Int) (a2 : List F) (a3 : List Int) : Option (Bool) :=
 obind (s_l02Square a0 a1 a2) fun (r1 : Bool) =>
 bsel r1 (
  obind (s_l02Order a3) fun (r2 : Bool) =>
  bsel r2 (
   bsel (!decide ((a3.length : Int) = a0)) (
    some false) (
    obind (loopM (s_l03Is_s1 a0 a1 a2) 0) fun z => osum z (fun _ => s_l03Is_k1) (fun r => some r))) (
   some false)) (
  some false)
theorem s_l03Is_ok (a0 : Int) (a1 : Int) (a2 : List F) (a3 : List Int) (q0 : Bool) (h : s_l03Is a0 a1 a2 a3 = some q0) : Ev Tryz.prog 52 [ptr [i64 a0, i64 a1, (sFc a2), sl a3.length (a3.map i64)]] [] (b q0) [] := by
 refine yE Tryz.func52 0 93 0 ([(0, ptr [i64 a0, i64 a1, (sFc a2), sl a3.length (a3.map i64)])]) [] rfl ?_
 unfold s_l03Is at h
 refine zQ<|ya rfl (b false)<|zN ?_
 refine yS<|yS ?_
 obtain ⟨r1, hf1, h⟩ := oS h
 rcases oB h with ⟨hc2, h⟩ | ⟨hc2, h⟩
 ·obtain ⟨r2, hf3, h⟩ := oS h
  rcases oB h with ⟨hc4, h⟩ | ⟨hc4, h⟩
  ·rcases oB h with ⟨hc5, h⟩ | ⟨hc5, h⟩
   ·refine RunC.region_draw (Γ' := []) 26 mixed 
     (tm rfl (ptr [i64 a0, i64 a1, (sFc a2), sl a3.length (a3.map i64)]) <|
     (tl rfl (ptr [i64 a0, i64 a1, (sFc a2), sl a3.length (a3.map i64)]) (LOp.nilCheck_ptr rfl rfl) <|
     (tl rfl (ptr [i64 a0, i64 a1, (sFc a2), sl a3.length (a3.map i64)]) (LOp.fap und32 rfl siz27 rfl rfl rfl) <|
     (TR.d (r := b true) (fs := []) rfl rfl (TOp.eqb (TOp.callB (CallAs.func ent83 rfl rfl) (Bors.cons (Bor.ptrT 3 (bP (bP (bS (bS bN)))) rfl) bN) rfl rfl (s_l02Square_ok a0 a1 a2 r1 hf1)) hc2) <|
     (tl rfl (b false) (LOp.eqb (LOp.not rfl rfl) rfl) <|
     (tm rfl (b false) <|
     (tm rfl (ptr [i64 a0, i64 a1, (sFc a2), sl a3.length (a3.map i64)]) <|
     (tl rfl (ptr [i64 a0, i64 a1, (sFc a2), sl a3.length (a3.map i64)]) (LOp.nilCheck_ptr rfl rfl) <|
     (tl rfl (ptr [sl a3.length (a3.map i64)]) (LOp.fap und32 rfl siz30 rfl rfl rfl) <|
     (tl rfl (sl a3.length (a3.map i64)) (y2 agg30) <|
     (TR.d (r := b true) (fs := []) rfl rfl (TOp.eqb (yc ent60 rfl rfl (bS bN) (s_l02Order_ok a3 r2 hf3)) hc4) <|
     (tl rfl (b false) (LOp.eqb (LOp.not rfl rfl) rfl) <|
     (tl rfl (b false) yp <|
     (tm rfl (b false) <|
     (tm rfl (ptr [i64 a0, i64 a1, (sFc a2), sl a3.length (a3.map i64)]) <|
     (tl rfl (ptr [i64 a0, i64 a1, (sFc a2), sl a3.length (a3.map i64)]) (LOp.nilCheck_ptr rfl rfl) <|
     (tl rfl (ptr [sl a3.length (a3.map i64)]) (LOp.fap und32 rfl siz30 rfl rfl rfl) <|
     (tl rfl (sl a3.length (a3.map i64)) (y2 agg30) <|
     (tl rfl (i64 (a3.length : Int)) (LOp.len_sl und30 rfl rfl) <|
     (tm rfl (ptr [i64 a0, i64 a1, (sFc a2), sl a3.length (a3.map i64)]) <|
     (tl rfl (ptr [i64 a0, i64 a1, (sFc a2), sl a3.length (a3.map i64)]) (LOp.nilCheck_ptr rfl rfl) <|
     (tl rfl (ptr [i64 a0, i64 a1, (sFc a2), sl a3.length (a3.map i64)]) (LOp.fap und32 rfl siz27 rfl rfl rfl) <|
     (tl rfl (ptr [i64 a0, i64 a1, (sFc a2), sl a3.length (a3.map i64)]) (LOp.fap und27 rfl siz2 rfl rfl rfl) <|
     (tl rfl (i64 a0) (y2 agg2) <|
     (tl rfl (b true) (LOp.eqb (LOp.neq rfl rfl rfl) hc5) <|
     (tl rfl (b true) yp <|
     TR.nil)))))))))))))))))))))))))) rfl (by kernel_rfl) rfl fills_nil rfl ?_
    iterate 26 refine ROps.dropS ?_
    refine ROps.drop0<|zN ?_
    refine RunC.wl (τ' := [(0, ptr [i64 a0, i64 a1, (sFc a2), sl a3.length (a3.map i64)]), (29, b true)]) (Γ' := []) ⟨aR, aR, trivial⟩ trivial<|yT<|zQ<|ya rfl (b false)<|zN ?_
    refine RunC.ret ?_
    have hq := oI h
    subst q0
    exact bodyQ.pure (.inr rfl) rfl (Res.one rfl (RV.tmp rfl))
   ·refine RunC.region_draw (Γ' := []) 26 mixed 
     (tm rfl (ptr [i64 a0, i64 a1, (sFc a2), sl a3.length (a3.map i64)]) <|
     (tl rfl (ptr [i64 a0, i64 a1, (sFc a2), sl a3.length (a3.map i64)]) (LOp.nilCheck_ptr rfl rfl) <|
     (tl rfl (ptr [i64 a0, i64 a1, (sFc a2), sl a3.length (a3.map i64)]) (LOp.fap und32 rfl siz27 rfl rfl rfl) <|
     (TR.d (r := b true) (fs := []) rfl rfl (TOp.eqb (TOp.callB (CallAs.func ent83 rfl rfl) (Bors.cons (Bor.ptrT 3 (bP (bP (bS (bS bN)))) rfl) bN) rfl rfl (s_l02Square_ok a0 a1 a2 r1 hf1)) hc2) <|
     (tl rfl (b false) (LOp.eqb (LOp.not rfl rfl) rfl) <|
     (tm rfl (b false) <|
     (tm rfl (ptr [i64 a0, i64 a1, (sFc a2), sl a3.length (a3.map i64)]) <|
     (tl rfl (ptr [i64 a0, i64 a1, (sFc a2), sl a3.length (a3.map i64)]) (LOp.nilCheck_ptr rfl rfl) <|
     (tl rfl (ptr [sl a3.length (a3.map i64)]) (LOp.fap und32 rfl siz30 rfl rfl rfl) <|
     (tl rfl (sl a3.length (a3.map i64)) (y2 agg30) <|
     (TR.d (r := b true) (fs := []) rfl rfl (TOp.eqb (yc ent60 rfl rfl (bS bN) (s_l02Order_ok a3 r2 hf3)) hc4) <|
     (tl rfl (b false) (LOp.eqb (LOp.not rfl rfl) rfl) <|
     (tl rfl (b false) yp <|
     (tm rfl (b false) <|
     (tm rfl (ptr [i64 a0, i64 a1, (sFc a2), sl a3.length (a3.map i64)]) <|
     (tl rfl (ptr [i64 a0, i64 a1, (sFc a2), sl a3.length (a3.map i64)]) (LOp.nilCheck_ptr rfl rfl) <|
     (tl rfl (ptr [sl a3.length (a3.map i64)]) (LOp.fap und32 rfl siz30 rfl rfl rfl) <|
     (tl rfl (sl a3.length (a3.map i64)) (y2 agg30) <|
     (tl rfl (i64 (a3.length : Int)) (LOp.len_sl und30 rfl rfl) <|
     (tm rfl (ptr [i64 a0, i64 a1, (sFc a2), sl a3.length (a3.map i64)]) <|
     (tl rfl (ptr [i64 a0, i64 a1, (sFc a2), sl a3.length (a3.map i64)]) (LOp.nilCheck_ptr rfl rfl) <|
     (tl rfl (ptr [i64 a0, i64 a1, (sFc a2), sl a3.length (a3.map i64)]) (LOp.fap und32 rfl siz27 rfl rfl rfl) <|
     (tl rfl (ptr [i64 a0, i64 a1, (sFc a2), sl a3.length (a3.map i64)]) (LOp.fap und27 rfl siz2 rfl rfl rfl) <|
     (tl rfl (i64 a0) (y2 agg2) <|
     (tl rfl (b false) (LOp.eqb (LOp.neq rfl rfl rfl) hc5) <|
     (tl rfl (b false) yp <|
     TR.nil)))))))))))))))))))))))))) rfl (by kernel_rfl) rfl fills_nil rfl ?_
    iterate 26 refine ROps.dropS ?_
    refine ROps.drop0<|zN ?_
    refine RunC.wl (τ' := [(0, ptr [i64 a0, i64 a1, (sFc a2), sl a3.length (a3.map i64)]), (29, b false)]) (Γ' := []) ⟨aR, aR, trivial⟩ trivial<|yF<|RunC.skip<|yS<|zQ<|ya rfl (i64 0)<|zN ?_
    obtain ⟨z2, hz_2, h⟩ := oS h
    refine RunC.cutN (fun τ Γ => WeakLe τ [] ∧ DeadLe Γ [] ∧ z2 = .inl ()) ?_ ?_
    ·refine RunC.block (RunC.loop (RunL.loopM (x := z2) (s_l03Is_s1 a0 a1 a2) (fun (s : Int) τ Γ => WeakLe τ [(0, ptr [i64 a0, i64 a1, (sFc a2), sl a3.length (a3.map i64)]), (3, i64 s)] ∧ DeadLe Γ []) ?_ _ _ _ hz_2 ⟨⟨aR, aR, trivial⟩, trivial⟩))
     rintro v3 τ2 Γ2 y2_ ⟨hw2, hd2⟩ h2_ ho2 hr2
     refine RunC.wl (τ' := [(0, ptr [i64 a0, i64 a1, (sFc a2), sl a3.length (a3.map i64)]), (3, i64 v3)]) (Γ' := []) hw2 hd2 ?_
     replace h2_ : s_l03Is_b1 a0 a1 a2 v3 = some y2_ := h2_
     unfold s_l03Is_b1 at h2_
     refine yS<|yS ?_
     rcases oB h2_ with ⟨hc6, h2_⟩ | ⟨hc6, h2_⟩
     ·refine yW<|ym rfl (i64 v3)<|ym rfl (ptr [i64 a0, i64 a1, (sFc a2), sl a3.length (a3.map i64)])<|yl rfl (ptr [i64 a0, i64 a1, (sFc a2), sl a3.length (a3.map i64)]) (LOp.nilCheck_ptr rfl rfl)<|yl rfl (ptr [i64 a0, i64 a1, (sFc a2), sl a3.length (a3.map i64)]) (LOp.fap und32 rfl siz27 rfl rfl rfl)<|yl rfl (ptr [i64 a0, i64 a1, (sFc a2), sl a3.length (a3.map i64)]) (LOp.fap und27 rfl siz2 rfl rfl rfl)<|yl rfl (i64 a0) (y2 agg2)<|yl rfl (b true) (LOp.eqb (LOp.lss rfl rfl rfl) hc6)<|zN ?_
      refine yT<|RunC.skip<|yS<|RunC.block<|yS ?_
      obtain ⟨r4, hf7, h2_⟩ := oS h2_
      rcases oB h2_ with ⟨hc8, h2_⟩ | ⟨hc8, h2_⟩
      ·refine yW<|ym rfl (ptr [i64 a0, i64 a1, (sFc a2), sl a3.length (a3.map i64)])<|yl rfl (ptr [i64 a0, i64 a1, (sFc a2), sl a3.length (a3.map i64)]) (LOp.nilCheck_ptr rfl rfl)<|yl rfl (ptr [i64 a0, i64 a1, (sFc a2), sl a3.length (a3.map i64)]) (LOp.fap und32 rfl siz27 rfl rfl rfl)<|ym rfl (i64 v3)<|ym rfl (i64 v3)<|yd rfl (f32 r4) (TOp.callB (CallAs.func ent87 rfl rfl) (Bors.cons (Bor.ptrT 3 (bP (bP (bS (bS bN)))) rfl) (bP bN0)) rfl rfl (s_l02At_ok a0 a1 a2 v3 v3 r4 hf7))<|yl rfl (b true) (LOp.eqb (LOp.feq rfl (OpF.tmp rfl) (OpF.const rfl (by kernel_rfl) (by kernel_rfl))) hc8)<|zN ?_
       refine RunC.wl (τ' := [(0, ptr [i64 a0, i64 a1, (sFc a2), sl a3.length (a3.map i64)]), (3, i64 v3), (45, b true)]) (Γ' := []) ⟨aR, aR, aR, trivial⟩ trivial<|yT<|zQ<|ya rfl (b false)<|zN ?_
       refine RunC.ret ?_
       cases oI h2_
       have hx3_ := hr2 _ rfl
       subst hx3_
       have hq := oI h
       subst q0
       exact bodyQ.pure (.inr rfl) rfl (Res.one rfl (RV.tmp rfl))
      ·refine yW<|ym rfl (ptr [i64 a0, i64 a1, (sFc a2), sl a3.length (a3.map i64)])<|yl rfl (ptr [i64 a0, i64 a1, (sFc a2), sl a3.length (a3.map i64)]) (LOp.nilCheck_ptr rfl rfl)<|yl rfl (ptr [i64 a0, i64 a1, (sFc a2), sl a3.length (a3.map i64)]) (LOp.fap und32 rfl siz27 rfl rfl rfl)<|ym rfl (i64 v3)<|ym rfl (i64 v3)<|yd rfl (f32 r4) (TOp.callB (CallAs.func ent87 rfl rfl) (Bors.cons (Bor.ptrT 3 (bP (bP (bS (bS bN)))) rfl) (bP bN0)) rfl rfl (s_l02At_ok a0 a1 a2 v3 v3 r4 hf7))<|yl rfl (b false) (LOp.eqb (LOp.feq rfl (OpF.tmp rfl) (OpF.const rfl (by kernel_rfl) (by kernel_rfl))) hc8)<|zN ?_
       refine RunC.wl (τ' := [(0, ptr [i64 a0, i64 a1, (sFc a2), sl a3.length (a3.map i64)]), (3, i64 v3), (45, b false)]) (Γ' := []) ⟨aR, aR, aR, trivial⟩ trivial<|yF<|RunC.skip ?_
       obtain ⟨x5, hx9, h2_⟩ := oL h2_
       refine yW<|ym rfl (i64 v3)<|yl rfl (i64 x5) (LOp.eqr (LOp.add rfl rfl rfl) (congrArg (ik .i64) hx9))<|ya rfl (i64 x5)<|zN ?_
       cases oI h2_
       exact ⟨_, rfl, ⟨aR, aR, trivial⟩, trivial⟩
     ·refine yW<|ym rfl (i64 v3)<|ym rfl (ptr [i64 a0, i64 a1, (sFc a2), sl a3.length (a3.map i64)])<|yl rfl (ptr [i64 a0, i64 a1, (sFc a2), sl a3.length (a3.map i64)]) (LOp.nilCheck_ptr rfl rfl)<|yl rfl (ptr [i64 a0, i64 a1, (sFc a2), sl a3.length (a3.map i64)]) (LOp.fap und32 rfl siz27 rfl rfl rfl)<|yl rfl (ptr [i64 a0, i64 a1, (sFc a2), sl a3.length (a3.map i64)]) (LOp.fap und27 rfl siz2 rfl rfl rfl)<|yl rfl (i64 a0) (y2 agg2)<|yl rfl (b false) (LOp.eqb (LOp.lss rfl rfl rfl) hc6)<|zN ?_
      refine yF<|RunC.exit ?_
      cases oI h2_
      have hx := ho2 _ rfl
      exact ⟨trivial, trivial, hx⟩
    ·rintro τ4 Γ4 ⟨hw4, hd4, rfl⟩
     refine RunC.wl hw4 hd4 ?_
     replace h : s_l03Is_k1 = some q0 := h
     unfold s_l03Is_k1 at h
     refine zQ<|ya rfl (b true)<|zN ?_
     refine RunC.ret ?_
     have hq := oI h
     subst q0
     exact bodyQ.pure (.inr rfl) rfl (Res.one rfl (RV.tmp rfl))
  ·refine RunC.region_draw (Γ' := []) 26 mixed 
    (tm rfl (ptr [i64 a0, i64 a1, (sFc a2), sl a3.length (a3.map i64)]) <|
    (tl rfl (ptr [i64 a0, i64 a1, (sFc a2), sl a3.length (a3.map i64)]) (LOp.nilCheck_ptr rfl rfl) <|
    (tl rfl (ptr [i64 a0, i64 a1, (sFc a2), sl a3.length (a3.map i64)]) (LOp.fap und32 rfl siz27 rfl rfl rfl) <|
    (TR.d (r := b true) (fs := []) rfl rfl (TOp.eqb (TOp.callB (CallAs.func ent83 rfl rfl) (Bors.cons (Bor.ptrT 3 (bP (bP (bS (bS bN)))) rfl) bN) rfl rfl (s_l02Square_ok a0 a1 a2 r1 hf1)) hc2) <|
    (tl rfl (b false) (LOp.eqb (LOp.not rfl rfl) rfl) <|
    (tm rfl (b false) <|
    (tm rfl (ptr [i64 a0, i64 a1, (sFc a2), sl a3.length (a3.map i64)]) <|
    (tl rfl (ptr [i64 a0, i64 a1, (sFc a2), sl a3.length (a3.map i64)]) (LOp.nilCheck_ptr rfl rfl) <|
    (tl rfl (ptr [sl a3.length (a3.map i64)]) (LOp.fap und32 rfl siz30 rfl rfl rfl) <|
    (tl rfl (sl a3.length (a3.map i64)) (y2 agg30) <|
    (TR.d (r := b false) (fs := []) rfl rfl (TOp.eqb (yc ent60 rfl rfl (bS bN) (s_l02Order_ok a3 r2 hf3)) hc4) <|
    (tl rfl (b true) (LOp.eqb (LOp.not rfl rfl) rfl) <|
    (tl rfl (b true) yp <|
    (tm rfl (b true) <|
    (ts rfl <|
    (ts rfl <|
    (ts rfl <|
    (ts rfl <|
    (ts rfl <|
    (ts rfl <|
    (ts rfl <|
    (ts rfl <|
    (ts rfl <|
    (ts rfl <|
    (ts rfl <|
    (tl rfl (b true) yq <|
    TR.nil)))))))))))))))))))))))))) rfl (by kernel_rfl) rfl fills_nil rfl ?_
   iterate 26 refine ROps.dropS ?_
   refine ROps.drop0<|zN ?_
   refine RunC.wl (τ' := [(0, ptr [i64 a0, i64 a1, (sFc a2), sl a3.length (a3.map i64)]), (29, b true)]) (Γ' := []) ⟨aR, aR, trivial⟩ trivial<|yT<|zQ<|ya rfl (b false)<|zN ?_
   refine RunC.ret ?_
   have hq := oI h
   subst q0
   exact bodyQ.pure (.inr rfl) rfl (Res.one rfl (RV.tmp rfl))
 ·refine RunC.region_draw (Γ' := []) 26 mixed 
   (tm rfl (ptr [i64 a0, i64 a1, (sFc a2), sl a3.length (a3.map i64)]) <|
   (tl rfl (ptr [i64 a0, i64 a1, (sFc a2), sl a3.length (a3.map i64)]) (LOp.nilCheck_ptr rfl rfl) <|
   (tl rfl (ptr [i64 a0, i64 a1, (sFc a2), sl a3.length (a3.map i64)]) (LOp.fap und32 rfl siz27 rfl rfl rfl) <|
   (TR.d (r := b false) (fs := []) rfl rfl (TOp.eqb (TOp.callB (CallAs.func ent83 rfl rfl) (Bors.cons (Bor.ptrT 3 (bP (bP (bS (bS bN)))) rfl) bN) rfl rfl (s_l02Square_ok a0 a1 a2 r1 hf1)) hc2) <|
   (tl rfl (b true) (LOp.eqb (LOp.not rfl rfl) rfl) <|
   (tm rfl (b true) <|
   (ts rfl <|
   (ts rfl <|
   (ts rfl <|
   (ts rfl <|
   (ts rfl <|
   (ts rfl <|
   (tl rfl (b true) yq <|
   (tm rfl (b true) <|
   (ts rfl <|
   (ts rfl <|
   (ts rfl <|
   (ts rfl <|
   (ts rfl <|
   (ts rfl <|
   (ts rfl <|
   (ts rfl <|
   (ts rfl <|
   (ts rfl <|
   (ts rfl <|
   (tl rfl (b true) yq <|
   TR.nil)))))))))))))))))))))))))) rfl (by kernel_rfl) rfl fills_nil rfl ?_
  iterate 26 refine ROps.dropS ?_
  refine ROps.drop0<|zN ?_
  refine RunC.wl (τ' := [(0, ptr [i64 a0, i64 a1, (sFc a2), sl a3.length (a3.map i64)]), (29, b true)]) (Γ' := []) ⟨aR, aR, trivial⟩ trivial<|yT<|zQ<|ya rfl (b false)<|zN ?_
  refine RunC.ret ?_
  have hq := oI h
  subst q0
  exact bodyQ.pure (.inr rfl) rfl (Res.one rfl (RV.tmp rfl))
def s_ValidFactor (a0 : Int) (a1 : Int) (a2 : List F) (a3 : List Int) : Option (Bool) :=
 obind (s_l03Is a0 a1 a2 a3) fun (r1 : Bool) =>
 some r1
theorem s_ValidFactor_ok (a0 : Int) (a1 : Int) (a2 : List F) (a3 : List Int) (q0 : Bool) (h : s_ValidFactor a0 a1 a2 a3 = some q0) : Ev Tryz.prog 12 [agg [i64 a0, i64 a1, (sFc a2), sl a3.length (a3.map i64)]] [] (b q0) [] := by
 refine yE Tryz.func12 0 9 0 ([(0, agg [i64 a0, i64 a1, (sFc a2), sl a3.length (a3.map i64)])]) [] rfl ?_
 unfold s_ValidFactor at h
 refine zQ<|yd rfl (ptr [i64 a0, i64 a1, (sFc a2), sl a3.length (a3.map i64)]) (TOp.box_s rfl rfl rfl)<|ya rfl (b false)<|zN ?_
 refine yS ?_
 obtain ⟨r1, hf1, h⟩ := oS h
 refine yW<|yd rfl (b r1) (TOp.callB (CallAs.func ent52 rfl rfl) (Bors.cons (Bor.ptr (bP (bP (bS (bS bN))))) bN) rfl rfl (s_l03Is_ok a0 a1 a2 a3 r1 hf1))<|ya rfl (b r1)<|zN ?_
 refine RunC.ret ?_
 have hq := oI h
 subst q0
 exact bodyQ.pure (.inr rfl) rfl (Res.one rfl (RV.tmp rfl))
def i_newMatrix (a0 : Int) (a1 : Int) : Option (Int × Int × (List F)) :=
 olet (IntKind.i64.wrap (a0 * a1)) fun (x1 : Int) =>
 need (mkok 4 x1) <|
 some (a0, a1, (List.replicate x1.toNat (some 0)))
theorem i_newMatrix_ok (a0 : Int) (a1 : Int) (q0 : Int) (q1 : Int) (q2 : List F) (h : i_newMatrix a0 a1 = some (q0, q1, q2)) : Ev Tryz.prog 68 [i64 a0, i64 a1] [] (agg (oXc q0 q1 0 0 q2.length)) [⟨0, some (q2.map f32)⟩] := by
 refine yE Tryz.func68 2 25 0 [(0, i64 a0), (1, i64 a1)] [⟨0, none⟩, ⟨0, none⟩] rfl ?_
 unfold i_newMatrix at h
 refine zQ<|ye rfl (optr 0 1 0) [⟨1, some zMx⟩, ⟨0, none⟩] (TOp.alloc_o (g := ⟨0, none⟩) 0 rfl zer27 zok27 rfl)<|zN ?_
 refine yS ?_
 obtain ⟨x1, hx1, h⟩ := oL h
 obtain ⟨hm2, h⟩ := need_some h
 refine yW<|ym rfl (i64 a0)<|ym rfl (i64 a1)<|ym rfl (i64 a0)<|ym rfl (i64 a1)<|yl rfl (i64 x1) (LOp.eqr (LOp.mul rfl rfl rfl) (congrArg (ik .i64) hx1))<|ye rfl (oref 1 1 0 x1.toNat) [⟨1, some zMx⟩, ⟨1, some ((List.replicate x1.toNat (some 0)).map f32)⟩] (TOp.mkS (g := ⟨0, none⟩) (t := 25) (e := 41) (by_ := 4) (f := f32) (zv := some 0) 1 rfl und25 tin41 rfl siz41 zer41 rfl zel41 rfl rfl rfl hm2)<|yl rfl (agg [i64 a0, i64 a1, oref 1 1 0 x1.toNat]) (LOp.build (qs := [(0, [i64 a0]), (1, [i64 a1]), (2, [oref 1 1 0 x1.toNat])]) zer27 zok27 und27 plc27 rfl ⟨rfl, ⟨_, ALe.refl _, rfl⟩, ⟨rfl, ⟨_, ALe.refl _, rfl⟩, ⟨rfl, ⟨_, ALe.refl _, rfl⟩, trivial⟩⟩⟩ rfl)<|ys (agg [i64 a0, i64 a1, oref 1 1 0 x1.toNat]) [i64 a0, i64 a1, oref 1 1 0 x1.toNat] ([⟨1, some [i64 a0, i64 a1, oref 1 1 0 x1.toNat]⟩, ⟨1, some ((List.replicate x1.toNat (some 0)).map f32)⟩]) siz27<|zN ?_
 refine RunC.ret ?_
 have hq := oI h
 obtain ⟨hq0, hq⟩ := Prod.mk.inj hq
 obtain ⟨hq1, hq⟩ := Prod.mk.inj hq
 subst q0
 subst q1
 subst q2
 exact yB (agg [i64 a0, i64 a1, oref 1 1 0 ((List.replicate x1.toNat (some 0)).length)]) [(1, 1)] (Res.eq (Res.one rfl (RV.cell agg27 siz27 rfl rfl rfl rfl)) (by rw [(show (List.replicate x1.toNat (some 0)).length = x1.toNat from by simp)] <;> rfl)) (SelL.arr0 (f := f32) (fun _ => rfl) rfl trivial)
def i_LowerOf_1 (a0 : Int) (a1 : Int) (a2 : Int) (a3 : Int) (a4 : List F) (a5 : List Int) : Option (F) :=
 bsel (decide (a0 = a1)) (
  some (some 1065353216)) (
  bsel (decide (a0 < a1)) (
   some (some 0)) (
   obind (i_Matrix_at a2 a3 a4 a0 a1) fun (r1 : F) =>
   some r1))
theorem i_LowerOf_1_ok (a0 : Int) (a1 : Int) (a2 : Int) (a3 : Int) (a4 : List F) (a5 : List Int) (q0 : F) (h : i_LowerOf_1 a0 a1 a2 a3 a4 a5 = some q0) : Ev Tryz.prog 54 [i64 a0, i64 a1, ptr [i64 a2, i64 a3, (sFc a4), sl a5.length (a5.map i64)]] [] (f32 q0) [] := by
 refine yE Tryz.func54 0 39 0 ([(0, i64 a0), (1, i64 a1), (2, ptr [i64 a2, i64 a3, (sFc a4), sl a5.length (a5.map i64)])]) [] rfl ?_
 unfold i_LowerOf_1 at h
 refine zQ<|yl rfl (f32 (some 0)) (LOp.le (LOp.assign rfl rfl) (ALe.fl (by kernel_rfl) (by kernel_rfl)))<|zN ?_
 refine yS<|RunC.block<|yS ?_
 rcases oB h with ⟨hc1, h⟩ | ⟨hc1, h⟩
 ·refine yW<|ym rfl (i64 a0)<|ym rfl (i64 a1)<|yl rfl (b true) (LOp.eqb (LOp.eql rfl rfl rfl) hc1)<|ya rfl (b true)<|zN ?_
  refine yT<|zQ<|yl rfl (f32 (some 1065353216)) (LOp.le (LOp.assign rfl rfl) (ALe.fl (by kernel_rfl) (by kernel_rfl)))<|zN ?_
  refine RunC.ret ?_
  have hq := oI h
  subst q0
  exact bodyQ.pure (.inr rfl) rfl (Res.one rfl (RV.tmp rfl))
 ·refine yW<|ym rfl (i64 a0)<|ym rfl (i64 a1)<|yl rfl (b false) (LOp.eqb (LOp.eql rfl rfl rfl) hc1)<|ya rfl (b false)<|zN ?_
  refine yF<|yS ?_
  rcases oB h with ⟨hc2, h⟩ | ⟨hc2, h⟩
  ·refine yW<|ym rfl (i64 a0)<|ym rfl (i64 a1)<|yl rfl (b true) (LOp.eqb (LOp.lss rfl rfl rfl) hc2)<|ya rfl (b true)<|zN ?_
   refine yT<|zQ<|yl rfl (f32 (some 0)) (LOp.le (LOp.assign rfl rfl) (ALe.fl (by kernel_rfl) (by kernel_rfl)))<|zN ?_
   refine RunC.ret ?_
   have hq := oI h
   subst q0
   exact bodyQ.pure (.inr rfl) rfl (Res.one rfl (RV.tmp rfl))
  ·refine yW<|ym rfl (i64 a0)<|ym rfl (i64 a1)<|yl rfl (b false) (LOp.eqb (LOp.lss rfl rfl rfl) hc2)<|ya rfl (b false)<|zN ?_
   refine yF<|RunC.skip<|yS ?_
   obtain ⟨r1, hf3, h⟩ := oS h
   refine yW<|yl rfl (ptr [i64 a2, i64 a3, (sFc a4), sl a5.length (a5.map i64)]) (LOp.fap und32 rfl siz27 rfl rfl rfl)<|yl rfl (agg (mXc a2 a3 a4)) (yL agg27 siz27)<|ym rfl (i64 a0)<|ym rfl (i64 a1)<|yd rfl (f32 r1) (TOp.callB (CallAs.func ent41 rfl rfl) (Bors.cons (Bor.agg (bP (bP (bS bN)))) (bP bN0)) rfl rfl (i_Matrix_at_ok a2 a3 a4 a0 a1 r1 hf3))<|ya rfl (f32 r1)<|zN ?_
   refine RunC.ret ?_
   have hq := oI h
   subst q0
   exact bodyQ.pure (.inr rfl) rfl (Res.one rfl (RV.tmp rfl))
def i_made_2Fi_LowerOf_1_b2 (a1 : Int) (a2 : Int) (a3 : Int) (a4 : List F) (a5 : List Int) (r1 : Int) (r2 : Int) (r3 : List F) (v6 : Int) (L7 : List F) (v9 : Int) : Option (LR ((List F) × Int) ((List F)) (Int × Int × (List F))) :=
 bsel (decide (v9 < a1)) (
  obind (i_LowerOf_1 v6 v9 a2 a3 a4 a5) fun (r11 : F) =>
  obind (i_Matrix_set_02o r1 r2 v6 v9 r11 L7) fun (r12 : List F) =>
  need (decide (r12.length = r3.length)) <|
  olet (IntKind.i64.wrap (v9 + 1)) fun (x13 : Int) =>
  some (LR.next (r12, x13))) (
  some (LR.out L7))
def i_made_2Fi_LowerOf_1_s2 (a1 : Int) (a2 : Int) (a3 : Int) (a4 : List F) (a5 : List Int) (r1 : Int) (r2 : Int) (r3 : List F) (v6 : Int) : ((List F) × Int) → Option (LR ((List F) × Int) ((List F)) (Int × Int × (List F))) := fun s => i_made_2Fi_LowerOf_1_b2 a1 a2 a3 a4 a5 r1 r2 r3 v6 s.1 s.2
def i_made_2Fi_LowerOf_1_k2 (v6 : Int) (L14 : List F) : Option (LR ((List F) × Int) ((List F)) (Int × Int × (List F))) :=
 olet (IntKind.i64.wrap (v6 + 1)) fun (x16 : Int) =>
 some (LR.next (L14, x16))
def i_made_2Fi_LowerOf_1_b3 (a0 : Int) (a1 : Int) (a2 : Int) (a3 : Int) (a4 : List F) (a5 : List Int) (r1 : Int) (r2 : Int) (r3 : List F) (L4 : List F) (v6 : Int) : Option (LR ((List F) × Int) ((List F)) (Int × Int × (List F))) :=
 bsel (decide (v6 < a0)) (
  obind (loopM (i_made_2Fi_LowerOf_1_s2 a1 a2 a3 a4 a5 r1 r2 r3 v6) (L4, 0)) fun z => osum z (fun e => i_made_2Fi_LowerOf_1_k2 v6 e) (fun r => some (LR.ret r))) (
  some (LR.out L4))
def i_made_2Fi_LowerOf_1_s3 (a0 : Int) (a1 : Int) (a2 : Int) (a3 : Int) (a4 : List F) (a5 : List Int) (r1 : Int) (r2 : Int) (r3 : List F) : ((List F) × Int) → Option (LR ((List F) × Int) ((List F)) (Int × Int × (List F))) := fun s => i_made_2Fi_LowerOf_1_b3 a0 a1 a2 a3 a4 a5 r1 r2 r3 s.1 s.2
def i_made_2Fi_LowerOf_1_k3 (r1 : Int) (r2 : Int) (L17 : List F) : Option (Int × Int × (List F)) :=
 some (r1, r2, L17)
def i_made_2Fi_LowerOf_1 (a0 : Int) (a1 : Int) (a2 : Int) (a3 : Int) (a4 : List F) (a5 : List Int) : Option (Int × Int × (List F)) :=
 obind3 (i_newMatrix a0 a1) fun (r1 : Int) (r2 : Int) (r3 : List F) =>
 obind (loopM (i_made_2Fi_LowerOf_1_s3 a0 a1 a2 a3 a4 a5 r1 r2 r3) (r3, 0)) fun z => osum z (fun e => i_made_2Fi_LowerOf_1_k3 r1 r2 e) (fun r => some r)
theorem i_made_2Fi_LowerOf_1_ok (a0 : Int) (a1 : Int) (a2 : Int) (a3 : Int) (a4 : List F) (a5 : List Int) (q0 : Int) (q1 : Int) (q2 : List F) (h : i_made_2Fi_LowerOf_1 a0 a1 a2 a3 a4 a5 = some (q0, q1, q2)) : Ev Tryz.prog 53 [i64 a0, i64 a1, fn (.func 54) [] [ptr [i64 a2, i64 a3, (sFc a4), sl a5.length (a5.map i64)]]] [] (agg (oXc q0 q1 0 0 q2.length)) [⟨0, some (q2.map f32)⟩] := by
 refine yE Tryz.func53 3 65 0 ([(0, i64 a0), (1, i64 a1), (2, fn (.func 54) [] [ptr [i64 a2, i64 a3, (sFc a4), sl a5.length (a5.map i64)]])]) [⟨0, none⟩, ⟨0, none⟩, ⟨0, none⟩] rfl ?_
 unfold i_made_2Fi_LowerOf_1 at h
 refine zQ<|ye rfl (optr 0 1 0) [⟨1, some zMx⟩, ⟨0, none⟩, ⟨0, none⟩] (TOp.alloc_o (g := ⟨0, none⟩) 0 rfl zer27 zok27 rfl)<|zN ?_
 refine yS ?_
 obtain ⟨r1, r2, r3, hf1, h⟩ := obind3_some h
 refine yW<|ym rfl (i64 a0)<|ym rfl (i64 a1)<|ye rfl (agg (oXc r1 r2 1 1 r3.length)) [⟨1, some zMx⟩, ⟨1, some (r3.map f32)⟩, ⟨0, none⟩] (TOp.callBN (ls := [(r3.map f32)]) [1] (CallAs.func ent68 rfl rfl) (bP bN0) rfl (i_newMatrix_ok a0 a1 r1 r2 r3 hf1) (and_all (lts0_map (f := f32) (fun _ => rfl) _) rfl) (and_all (noss_map (f := f32) (fun _ => rfl) _) rfl) rfl (by decide) (ns_of ⟨⟨_, rfl⟩, trivial⟩))<|ye rfl (optr 2 1 0) [⟨1, some zMx⟩, ⟨1, some (r3.map f32)⟩, ⟨1, some zMx⟩] (TOp.alloc_o (g := ⟨0, none⟩) 2 rfl zer27 zok27 rfl)<|ys (agg (oXc r1 r2 1 1 r3.length)) (oXc r1 r2 1 1 r3.length) [⟨1, some zMx⟩, ⟨1, some (r3.map f32)⟩, ⟨1, some (oXc r1 r2 1 1 r3.length)⟩] siz27<|zN ?_
 refine yS<|zQ<|ym rfl (i64 a0)<|ym rfl (i64 0)<|zN ?_
 obtain ⟨z4, hz_4, h⟩ := oS h
 refine RunC.cutN (fun τ Γ => ∃ (L17 : List F), L17.length = r3.length ∧ WeakLe τ [(6, optr 0 1 0), (7, optr 2 1 0)] ∧ DeadLe Γ [⟨1, some zMx⟩, ⟨1, some (L17.map f32)⟩, ⟨1, some (oXc r1 r2 1 1 r3.length)⟩] ∧ z4 = .inl L17) ?_ ?_
 ·refine RunC.block (RunC.loop (RunL.loopM (x := z4) (i_made_2Fi_LowerOf_1_s3 a0 a1 a2 a3 a4 a5 r1 r2 r3) (fun (s : (List F) × Int) τ Γ => s.1.length = r3.length ∧ WeakLe τ [(1, i64 a1), (2, fn (.func 54) [] [ptr [i64 a2, i64 a3, (sFc a4), sl a5.length (a5.map i64)]]), (6, optr 0 1 0), (7, optr 2 1 0), (13, i64 a0), (14, i64 s.2)] ∧ DeadLe Γ [⟨1, some zMx⟩, ⟨1, some (s.1.map f32)⟩, ⟨1, some (oXc r1 r2 1 1 r3.length)⟩]) ?_ _ _ _ hz_4 ⟨rfl, ⟨aR, aR, aR, aR, aR, aR, trivial⟩, ⟨⟨rfl, .inr rfl⟩, ⟨rfl, .inr rfl⟩, ⟨rfl, .inr rfl⟩, trivial⟩⟩))
  rintro ⟨L4, v6⟩ τ4 Γ4 y4_ ⟨hl5, hw4, hd4⟩ h4_ ho4 hr4
  refine RunC.wl (τ' := [(1, i64 a1), (2, fn (.func 54) [] [ptr [i64 a2, i64 a3, (sFc a4), sl a5.length (a5.map i64)]]), (6, optr 0 1 0), (7, optr 2 1 0), (13, i64 a0), (14, i64 v6)]) (Γ' := [⟨1, some zMx⟩, ⟨1, some (L4.map f32)⟩, ⟨1, some (oXc r1 r2 1 1 r3.length)⟩]) hw4 hd4 ?_
  replace hl5 : L4.length = r3.length := hl5
  replace h4_ : i_made_2Fi_LowerOf_1_b3 a0 a1 a2 a3 a4 a5 r1 r2 r3 L4 v6 = some y4_ := h4_
  unfold i_made_2Fi_LowerOf_1_b3 at h4_
  refine yS ?_
  rcases oB h4_ with ⟨hc2, h4_⟩ | ⟨hc2, h4_⟩
  ·refine yW<|yl rfl (b true) (LOp.eqb (LOp.lss rfl rfl rfl) hc2)<|zN ?_
   refine yS<|yT<|RunC.skip<|yS<|RunC.block<|zQ<|ym rfl (i64 v6)<|ya rfl (i64 v6)<|zN ?_
   refine zQ<|ym rfl (i64 a1)<|ym rfl (i64 0)<|zN ?_
   obtain ⟨z5, hz_5, h4_⟩ := oS h4_
   refine RunC.cutN (fun τ Γ => ∃ (L14 : List F), L14.length = r3.length ∧ WeakLe τ [(1, i64 a1), (2, fn (.func 54) [] [ptr [i64 a2, i64 a3, (sFc a4), sl a5.length (a5.map i64)]]), (6, optr 0 1 0), (7, optr 2 1 0), (13, i64 a0), (14, i64 v6)] ∧ DeadLe Γ [⟨1, some zMx⟩, ⟨1, some (L14.map f32)⟩, ⟨1, some (oXc r1 r2 1 1 r3.length)⟩] ∧ z5 = .inl L14) ?_ ?_
   ·refine RunC.block (RunC.loop (RunL.loopM (x := z5) (i_made_2Fi_LowerOf_1_s2 a1 a2 a3 a4 a5 r1 r2 r3 v6) (fun (s : (List F) × Int) τ Γ => s.1.length = r3.length ∧ WeakLe τ [(1, i64 a1), (2, fn (.func 54) [] [ptr [i64 a2, i64 a3, (sFc a4), sl a5.length (a5.map i64)]]), (6, optr 0 1 0), (7, optr 2 1 0), (8, i64 v6), (13, i64 a0), (14, i64 v6), (17, i64 a1), (18, i64 s.2)] ∧ DeadLe Γ [⟨1, some zMx⟩, ⟨1, some (s.1.map f32)⟩, ⟨1, some (oXc r1 r2 1 1 r3.length)⟩]) ?_ _ _ _ hz_5 ⟨hl5, ⟨aR, aR, aR, aR, aR, aR, aR, aR, aR, trivial⟩, ⟨⟨rfl, .inr rfl⟩, ⟨rfl, .inr rfl⟩, ⟨rfl, .inr rfl⟩, trivial⟩⟩))
    rintro ⟨L7, v9⟩ τ5 Γ5 y5_ ⟨hl8, hw5, hd5⟩ h5_ ho5 hr5
    refine RunC.wl (τ' := [(1, i64 a1), (2, fn (.func 54) [] [ptr [i64 a2, i64 a3, (sFc a4), sl a5.length (a5.map i64)]]), (6, optr 0 1 0), (7, optr 2 1 0), (8, i64 v6), (13, i64 a0), (14, i64 v6), (17, i64 a1), (18, i64 v9)]) (Γ' := [⟨1, some zMx⟩, ⟨1, some (L7.map f32)⟩, ⟨1, some (oXc r1 r2 1 1 r3.length)⟩]) hw5 hd5 ?_
    replace hl8 : L7.length = r3.length := hl8
    replace h5_ : i_made_2Fi_LowerOf_1_b2 a1 a2 a3 a4 a5 r1 r2 r3 v6 L7 v9 = some y5_ := h5_
    unfold i_made_2Fi_LowerOf_1_b2 at h5_
    refine yS ?_
    rcases oB h5_ with ⟨hc3, h5_⟩ | ⟨hc3, h5_⟩
    ·refine yW<|yl rfl (b true) (LOp.eqb (LOp.lss rfl rfl rfl) hc3)<|zN ?_
     refine yS<|yT<|RunC.skip<|yS<|RunC.block<|zQ<|ym rfl (i64 v9)<|ya rfl (i64 v9)<|zN ?_
     obtain ⟨r11, hf5, h5_⟩ := oS h5_
     obtain ⟨r12, hf6, h5_⟩ := oS h5_
     obtain ⟨hn7, h5_⟩ := need_some h5_
     refine RunC.region_draw (Γ' := [⟨1, some zMx⟩, ⟨1, some (L7.map f32)⟩, ⟨1, some (oXc r1 r2 1 1 r3.length)⟩]) 7 mixed 
      (TR.d (r := agg (oXc r1 r2 1 1 r3.length)) (fs := []) rfl rfl (TOp.loadAgg_o rfl agg27 siz27 rfl rfl rfl rfl) <|
      (tm rfl (i64 v6) <|
      (tm rfl (i64 v9) <|
      (tm rfl (fn (.func 54) [] [ptr [i64 a2, i64 a3, (sFc a4), sl a5.length (a5.map i64)]]) <|
      (tm rfl (i64 v6) <|
      (tm rfl (i64 v9) <|
      (TR.d (r := f32 r11) (fs := []) rfl rfl (TOp.callB (CallAs.fn ent54 rfl rfl rfl rfl) (bP (bP (Bors.cons (Bor.ptr (bP (bP (bS (bS bN))))) bN))) rfl rfl (i_LowerOf_1_ok v6 v9 a2 a3 a4 a5 r11 hf5)) <|
      TR.nil))))))) rfl (by kernel_rfl) rfl fills_nil rfl ?_
     iterate 7 refine ROps.dropS ?_
     refine ROps.drop0<|ROps.callO (A := [agg (oXc r1 r2 1 1 r3.length), i64 v6, i64 v9, f32 r11]) (args := [agg (oXc r1 r2 0 0 L7.length), i64 v6, i64 v9, f32 r11]) (Γc := [⟨0, some (L7.map f32)⟩]) (Γc' := [⟨0, some (r12.map f32)⟩]) (r' := tup []) (Γ' := [⟨1, some zMx⟩, ⟨1, some (r12.map f32)⟩, ⟨1, some (oXc r1 r2 1 1 r3.length)⟩]) [(1, 1)] [] rfl (CallAs.func ent97 rfl rfl) rfl rfl (SelOk.of (ndB_ok rfl) (SelL.arr0 (f := f32) (fun _ => rfl) rfl trivial)) (live_of ⟨⟨_, _, rfl⟩, trivial⟩) (by simp [ren, rens, sigma, rens_f32, rens_f64, rens_i64, rens_ik, rens_str, rens_cp, hl8]) rfl (i_Matrix_set_02o_ok r1 r2 v6 v9 r11 L7 r12 hf6) rfl (news_of trivial) (ndB_ok rfl) (by simp [ren, rens, sigma, of_decide_eq_true hn7]) (by simp [backOb, sigma, ren, rens, rens_f32, rens_f64, rens_i64, rens_ik, rens_str, rens_cp])<|zN ?_
     obtain ⟨x13, hx8, h5_⟩ := oL h5_
     refine yW<|yl rfl (i64 x13) (LOp.eqr (LOp.add rfl rfl rfl) (congrArg (ik .i64) hx8))<|ym rfl (i64 x13)<|zN ?_
     cases oI h5_
     exact ⟨_, rfl, (of_decide_eq_true hn7), ⟨aR, aR, aR, aR, aR, aR, aR, aR, aR, trivial⟩, ⟨⟨rfl, .inr rfl⟩, ⟨rfl, .inr rfl⟩, ⟨rfl, .inr rfl⟩, trivial⟩⟩
    ·refine yW<|yl rfl (b false) (LOp.eqb (LOp.lss rfl rfl rfl) hc3)<|zN ?_
     refine yS<|yF<|RunC.exit ?_
     cases oI h5_
     have hx := ho5 _ rfl
     exact ⟨L7, hl8, ⟨aR, aR, aR, aR, aR, aR, trivial⟩, ⟨⟨rfl, .inr rfl⟩, ⟨rfl, .inr rfl⟩, ⟨rfl, .inr rfl⟩, trivial⟩, hx⟩
   ·rintro τ6 Γ6 ⟨L14, hl15, hw6, hd6, rfl⟩
    refine RunC.wl hw6 hd6 ?_
    replace h4_ : i_made_2Fi_LowerOf_1_k2 v6 L14 = some y4_ := h4_
    unfold i_made_2Fi_LowerOf_1_k2 at h4_
    obtain ⟨x16, hx9, h4_⟩ := oL h4_
    refine yW<|yl rfl (i64 x16) (LOp.eqr (LOp.add rfl rfl rfl) (congrArg (ik .i64) hx9))<|ym rfl (i64 x16)<|zN ?_
    cases oI h4_
    exact ⟨_, rfl, hl15, ⟨aR, aR, aR, aR, aR, aR, trivial⟩, ⟨⟨rfl, .inr rfl⟩, ⟨rfl, .inr rfl⟩, ⟨rfl, .inr rfl⟩, trivial⟩⟩
  ·refine yW<|yl rfl (b false) (LOp.eqb (LOp.lss rfl rfl rfl) hc2)<|zN ?_
   refine yS<|yF<|RunC.exit ?_
   cases oI h4_
   have hx := ho4 _ rfl
   exact ⟨L4, hl5, ⟨aR, aR, trivial⟩, ⟨⟨rfl, .inr rfl⟩, ⟨rfl, .inr rfl⟩, ⟨rfl, .inr rfl⟩, trivial⟩, hx⟩
 ·rintro τ7 Γ7 ⟨L17, hl18, hw7, hd7, rfl⟩
  refine RunC.wl hw7 hd7 ?_
  replace h : i_made_2Fi_LowerOf_1_k3 r1 r2 L17 = some (q0, q1, q2) := h
  unfold i_made_2Fi_LowerOf_1_k3 at h
  refine zQ<|yd rfl (agg (oXc r1 r2 1 1 r3.length)) (TOp.loadAgg_o rfl agg27 siz27 rfl rfl rfl rfl)<|ys (agg (oXc r1 r2 1 1 r3.length)) (oXc r1 r2 1 1 r3.length) [⟨1, some (oXc r1 r2 1 1 r3.length)⟩, ⟨1, some (L17.map f32)⟩, ⟨1, some (oXc r1 r2 1 1 r3.length)⟩] siz27<|zN ?_
  refine RunC.ret ?_
  have hq := oI h
  obtain ⟨hq0, hq⟩ := Prod.mk.inj hq
  obtain ⟨hq1, hq⟩ := Prod.mk.inj hq
  subst q0
  subst q1
  subst q2
  exact yB (agg (oXc r1 r2 1 1 L17.length)) [(1, 1)] (Res.eq (Res.one rfl (RV.cell agg27 siz27 rfl rfl rfl rfl)) (by rw [(show L17.length = r3.length from hl18)] <;> rfl)) (SelL.arr0 (f := f32) (fun _ => rfl) rfl trivial)
def i_LowerOf (a0 : Int) (a1 : Int) (a2 : List F) (a3 : List Int) : Option (Int × Int × Bool × (List F)) :=
 obind (i_ValidFactor a0 a1 a2 a3) fun (r1 : Bool) =>
 bsel r1 (
  obind3 (i_made_2Fi_LowerOf_1 a0 a0 a0 a1 a2 a3) fun (r2 : Int) (r3 : Int) (r4 : List F) =>
  some (r2, r3, true, r4)) (
  some (0, 0, false, ([] : List F)))
theorem i_LowerOf_ok (a0 : Int) (a1 : Int) (a2 : List F) (a3 : List Int) (q0 : Int) (q1 : Int) (q2 : Bool) (q3 : List F) (h : i_LowerOf a0 a1 a2 a3 = some (q0, q1, q2, q3)) : Ev Tryz.prog 13 [agg [i64 a0, i64 a1, (sFc a2), sl a3.length (a3.map i64)]] [] (tup [agg (oXc q0 q1 0 0 q3.length), b q2]) [⟨0, some (q3.map f32)⟩] := by
 refine yE Tryz.func13 2 33 0 ([(0, agg [i64 a0, i64 a1, (sFc a2), sl a3.length (a3.map i64)])]) [⟨0, none⟩, ⟨0, none⟩] rfl ?_
 unfold i_LowerOf at h
 refine zQ<|yd rfl (ptr [i64 a0, i64 a1, (sFc a2), sl a3.length (a3.map i64)]) (TOp.box_s rfl rfl rfl)<|ye rfl (optr 0 1 0) [⟨1, some zMx⟩, ⟨0, none⟩] (TOp.alloc_o (g := ⟨0, none⟩) 0 rfl zer27 zok27 rfl)<|ya rfl (b false)<|zN ?_
 refine yS<|yS ?_
 obtain ⟨r1, hf1, h⟩ := oS h
 rcases oB h with ⟨hc2, h⟩ | ⟨hc2, h⟩
 ·refine yW<|yl rfl (agg [i64 a0, i64 a1, (sFc a2), sl a3.length (a3.map i64)]) (yL agg32 siz32)<|yd rfl (b true) (TOp.eqb (TOp.callB (CallAs.func ent10 rfl rfl) (Bors.cons (Bor.agg (bP (bP (bS (bS bN))))) bN) rfl rfl (i_ValidFactor_ok a0 a1 a2 a3 r1 hf1)) hc2)<|yl rfl (b false) y1<|zN ?_
  refine yF<|RunC.skip<|yS ?_
  obtain ⟨r2, r3, r4, hf3, h⟩ := obind3_some h
  refine yW<|yl rfl (ptr [i64 a0, i64 a1, (sFc a2), sl a3.length (a3.map i64)]) (LOp.fap und32 rfl siz27 rfl rfl rfl)<|yl rfl (ptr [i64 a0, i64 a1, (sFc a2), sl a3.length (a3.map i64)]) (LOp.fap und27 rfl siz2 rfl rfl rfl)<|yl rfl (i64 a0) (y2 agg2)<|yl rfl (ptr [i64 a0, i64 a1, (sFc a2), sl a3.length (a3.map i64)]) (LOp.fap und32 rfl siz27 rfl rfl rfl)<|yl rfl (ptr [i64 a0, i64 a1, (sFc a2), sl a3.length (a3.map i64)]) (LOp.fap und27 rfl siz2 rfl rfl rfl)<|yl rfl (i64 a0) (y2 agg2)<|yl rfl (fn (.func 54) [] [ptr [i64 a0, i64 a1, (sFc a2), sl a3.length (a3.map i64)]]) (LOp.makeFunc rfl rfl)<|ye rfl (agg (oXc r2 r3 1 1 r4.length)) [⟨1, some zMx⟩, ⟨1, some (r4.map f32)⟩] (TOp.callBN (ls := [(r4.map f32)]) [1] (CallAs.func ent53 rfl rfl) (bP (bP (Bors.cons (Bor.fn bN (Bors.cons (Bor.ptr (bP (bP (bS (bS bN))))) bN)) bN))) rfl (i_made_2Fi_LowerOf_1_ok a0 a0 a0 a1 a2 a3 r2 r3 r4 hf3) (and_all (lts0_map (f := f32) (fun _ => rfl) _) rfl) (and_all (noss_map (f := f32) (fun _ => rfl) _) rfl) rfl (by decide) (ns_of ⟨⟨_, rfl⟩, trivial⟩))<|ys (agg (oXc r2 r3 1 1 r4.length)) (oXc r2 r3 1 1 r4.length) [⟨1, some (oXc r2 r3 1 1 r4.length)⟩, ⟨1, some (r4.map f32)⟩] siz27<|ya rfl (b true)<|zN ?_
  refine RunC.ret ?_
  have hq := oI h
  obtain ⟨hq0, hq⟩ := Prod.mk.inj hq
  obtain ⟨hq1, hq⟩ := Prod.mk.inj hq
  obtain ⟨hq2, hq⟩ := Prod.mk.inj hq
  subst q0
  subst q1
  subst q2
  subst q3
  exact yB (tup [agg (oXc r2 r3 1 1 r4.length), b true]) [(1, 1)] (Res.two rfl (RV.cell agg27 siz27 rfl rfl rfl rfl) (RV.tmp rfl)) (SelL.arr0 (f := f32) (fun _ => rfl) rfl trivial)
 ·refine yW<|yl rfl (agg [i64 a0, i64 a1, (sFc a2), sl a3.length (a3.map i64)]) (yL agg32 siz32)<|yd rfl (b false) (TOp.eqb (TOp.callB (CallAs.func ent10 rfl rfl) (Bors.cons (Bor.agg (bP (bP (bS (bS bN))))) bN) rfl rfl (i_ValidFactor_ok a0 a1 a2 a3 r1 hf1)) hc2)<|yl rfl (b true) y0<|zN ?_
  refine yT<|zQ<|yl rfl (agg zMx) (LOp.build (qs := []) zer27 zok27 und27 plc27 rfl trivial rfl)<|ys (agg zMx) zMx [⟨1, some zMx⟩, ⟨0, none⟩] siz27<|ya rfl (b false)<|zN ?_
  refine RunC.nil_cell (l' := [i64 0, i64 0, oref 1 1 0 0]) (Γ' := [⟨1, some [i64 0, i64 0, oref 1 1 0 0]⟩, ⟨1, some (([] : List F).map f32)⟩]) 0 2 1 rfl rfl rfl rfl rfl<|RunC.ret ?_
  have hq := oI h
  obtain ⟨hq0, hq⟩ := Prod.mk.inj hq
  obtain ⟨hq1, hq⟩ := Prod.mk.inj hq
  obtain ⟨hq2, hq⟩ := Prod.mk.inj hq
  subst q0
  subst q1
  subst q2
  subst q3
  exact yB (tup [agg [i64 0, i64 0, oref 1 1 0 (([] : List F).length)], b false]) [(1, 1)] (Res.eq (Res.two rfl (RV.cell agg27 siz27 rfl rfl rfl rfl) (RV.tmp rfl)) (by rw [(show ([] : List F).length = 0 from rfl)] <;> rfl)) (SelL.arr0 (f := f32) (fun _ => rfl) rfl trivial)
def i_Matrix_upper_1 (a0 : Int) (a1 : Int) (a2 : Int) (a3 : Int) (a4 : List F) : Option (F) :=
 bsel (decide (a1 < a0)) (
  some (some 0)) (
  obind (i_Matrix_at a2 a3 a4 a0 a1) fun (r1 : F) =>
  some r1)
theorem i_Matrix_upper_1_ok (a0 : Int) (a1 : Int) (a2 : Int) (a3 : Int) (a4 : List F) (q0 : F) (h : i_Matrix_upper_1 a0 a1 a2 a3 a4 = some q0) : Ev Tryz.prog 103 [i64 a0, i64 a1, ptr (mXc a2 a3 a4)] [] (f32 q0) [] := by
 refine yE Tryz.func103 0 27 0 [(0, i64 a0), (1, i64 a1), (2, ptr (mXc a2 a3 a4))] [] rfl ?_
 unfold i_Matrix_upper_1 at h
 refine zQ<|yl rfl (f32 (some 0)) (LOp.le (LOp.assign rfl rfl) (ALe.fl (by kernel_rfl) (by kernel_rfl)))<|zN ?_
 refine yS<|yS ?_
 rcases oB h with ⟨hc1, h⟩ | ⟨hc1, h⟩
 ·refine yW<|ym rfl (i64 a0)<|ym rfl (i64 a1)<|yl rfl (b true) (LOp.eqb (LOp.gtr rfl rfl rfl) hc1)<|zN ?_
  refine yT<|zQ<|yl rfl (f32 (some 0)) (LOp.le (LOp.assign rfl rfl) (ALe.fl (by kernel_rfl) (by kernel_rfl)))<|zN ?_
  refine RunC.ret ?_
  have hq := oI h
  subst q0
  exact bodyQ.pure (.inr rfl) rfl (Res.one rfl (RV.tmp rfl))
 ·refine yW<|ym rfl (i64 a0)<|ym rfl (i64 a1)<|yl rfl (b false) (LOp.eqb (LOp.gtr rfl rfl rfl) hc1)<|zN ?_
  refine yF<|RunC.skip<|yS ?_
  obtain ⟨r1, hf2, h⟩ := oS h
  refine yW<|yl rfl (agg (mXc a2 a3 a4)) (yL agg27 siz27)<|ym rfl (i64 a0)<|ym rfl (i64 a1)<|yd rfl (f32 r1) (TOp.callB (CallAs.func ent41 rfl rfl) (Bors.cons (Bor.agg (bP (bP (bS bN)))) (bP bN0)) rfl rfl (i_Matrix_at_ok a2 a3 a4 a0 a1 r1 hf2))<|ya rfl (f32 r1)<|zN ?_
  refine RunC.ret ?_
  have hq := oI h
  subst q0
  exact bodyQ.pure (.inr rfl) rfl (Res.one rfl (RV.tmp rfl))
def i_made_2Fi_Matrix_upper_1_b2 (a1 : Int) (a2 : Int) (a3 : Int) (a4 : List F) (r1 : Int) (r2 : Int) (r3 : List F) (v6 : Int) (L7 : List F) (v9 : Int) : Option (LR ((List F) × Int) ((List F)) (Int × Int × (List F))) :=
 bsel (decide (v9 < a1)) (
  obind (i_Matrix_upper_1 v6 v9 a2 a3 a4) fun (r11 : F) =>
  obind (i_Matrix_set_02o r1 r2 v6 v9 r11 L7) fun (r12 : List F) =>
  need (decide (r12.length = r3.length)) <|
  olet (IntKind.i64.wrap (v9 + 1)) fun (x13 : Int) =>
  some (LR.next (r12, x13))) (
  some (LR.out L7))
def i_made_2Fi_Matrix_upper_1_s2 (a1 : Int) (a2 : Int) (a3 : Int) (a4 : List F) (r1 : Int) (r2 : Int) (r3 : List F) (v6 : Int) : ((List F) × Int) → Option (LR ((List F) × Int) ((List F)) (Int × Int × (List F))) := fun s => i_made_2Fi_Matrix_upper_1_b2 a1 a2 a3 a4 r1 r2 r3 v6 s.1 s.2
def i_made_2Fi_Matrix_upper_1_k2 (v6 : Int) (L14 : List F) : Option (LR ((List F) × Int) ((List F)) (Int × Int × (List F))) :=
 olet (IntKind.i64.wrap (v6 + 1)) fun (x16 : Int) =>
 some (LR.next (L14, x16))
def i_made_2Fi_Matrix_upper_1_b3 (a0 : Int) (a1 : Int) (a2 : Int) (a3 : Int) (a4 : List F) (r1 : Int) (r2 : Int) (r3 : List F) (L4 : List F) (v6 : Int) : Option (LR ((List F) × Int) ((List F)) (Int × Int × (List F))) :=
 bsel (decide (v6 < a0)) (
  obind (loopM (i_made_2Fi_Matrix_upper_1_s2 a1 a2 a3 a4 r1 r2 r3 v6) (L4, 0)) fun z => osum z (fun e => i_made_2Fi_Matrix_upper_1_k2 v6 e) (fun r => some (LR.ret r))) (
  some (LR.out L4))
def i_made_2Fi_Matrix_upper_1_s3 (a0 : Int) (a1 : Int) (a2 : Int) (a3 : Int) (a4 : List F) (r1 : Int) (r2 : Int) (r3 : List F) : ((List F) × Int) → Option (LR ((List F) × Int) ((List F)) (Int × Int × (List F))) := fun s => i_made_2Fi_Matrix_upper_1_b3 a0 a1 a2 a3 a4 r1 r2 r3 s.1 s.2
def i_made_2Fi_Matrix_upper_1_k3 (r1 : Int) (r2 : Int) (L17 : List F) : Option (Int × Int × (List F)) :=
 some (r1, r2, L17)
def i_made_2Fi_Matrix_upper_1 (a0 : Int) (a1 : Int) (a2 : Int) (a3 : Int) (a4 : List F) : Option (Int × Int × (List F)) :=
 obind3 (i_newMatrix a0 a1) fun (r1 : Int) (r2 : Int) (r3 : List F) =>
 obind (loopM (i_made_2Fi_Matrix_upper_1_s3 a0 a1 a2 a3 a4 r1 r2 r3) (r3, 0)) fun z => osum z (fun e => i_made_2Fi_Matrix_upper_1_k3 r1 r2 e) (fun r => some r)
theorem i_made_2Fi_Matrix_upper_1_ok (a0 : Int) (a1 : Int) (a2 : Int) (a3 : Int) (a4 : List F) (q0 : Int) (q1 : Int) (q2 : List F) (h : i_made_2Fi_Matrix_upper_1 a0 a1 a2 a3 a4 = some (q0, q1, q2)) : Ev Tryz.prog 53 [i64 a0, i64 a1, fn (.func 103) [] [ptr (mXc a2 a3 a4)]] [] (agg (oXc q0 q1 0 0 q2.length)) [⟨0, some (q2.map f32)⟩] := by
 refine yE Tryz.func53 3 65 0 ([(0, i64 a0), (1, i64 a1), (2, fn (.func 103) [] [ptr (mXc a2 a3 a4)])]) [⟨0, none⟩, ⟨0, none⟩, ⟨0, none⟩] rfl ?_
 unfold i_made_2Fi_Matrix_upper_1 at h
 refine zQ<|ye rfl (optr 0 1 0) [⟨1, some zMx⟩, ⟨0, none⟩, ⟨0, none⟩] (TOp.alloc_o (g := ⟨0, none⟩) 0 rfl zer27 zok27 rfl)<|zN ?_
 refine yS ?_
 obtain ⟨r1, r2, r3, hf1, h⟩ := obind3_some h
 refine yW<|ym rfl (i64 a0)<|ym rfl (i64 a1)<|ye rfl (agg (oXc r1 r2 1 1 r3.length)) [⟨1, some zMx⟩, ⟨1, some (r3.map f32)⟩, ⟨0, none⟩] (TOp.callBN (ls := [(r3.map f32)]) [1] (CallAs.func ent68 rfl rfl) (bP bN0) rfl (i_newMatrix_ok a0 a1 r1 r2 r3 hf1) (and_all (lts0_map (f := f32) (fun _ => rfl) _) rfl) (and_all (noss_map (f := f32) (fun _ => rfl) _) rfl) rfl (by decide) (ns_of ⟨⟨_, rfl⟩, trivial⟩))<|ye rfl (optr 2 1 0) [⟨1, some zMx⟩, ⟨1, some (r3.map f32)⟩, ⟨1, some zMx⟩] (TOp.alloc_o (g := ⟨0, none⟩) 2 rfl zer27 zok27 rfl)<|ys (agg (oXc r1 r2 1 1 r3.length)) (oXc r1 r2 1 1 r3.length) [⟨1, some zMx⟩, ⟨1, some (r3.map f32)⟩, ⟨1, some (oXc r1 r2 1 1 r3.length)⟩] siz27<|zN ?_
 refine yS<|zQ<|ym rfl (i64 a0)<|ym rfl (i64 0)<|zN ?_
 obtain ⟨z4, hz_4, h⟩ := oS h
 refine RunC.cutN (fun τ Γ => ∃ (L17 : List F), L17.length = r3.length ∧ WeakLe τ [(6, optr 0 1 0), (7, optr 2 1 0)] ∧ DeadLe Γ [⟨1, some zMx⟩, ⟨1, some (L17.map f32)⟩, ⟨1, some (oXc r1 r2 1 1 r3.length)⟩] ∧ z4 = .inl L17) ?_ ?_
 ·refine RunC.block (RunC.loop (RunL.loopM (x := z4) (i_made_2Fi_Matrix_upper_1_s3 a0 a1 a2 a3 a4 r1 r2 r3) (fun (s : (List F) × Int) τ Γ => s.1.length = r3.length ∧ WeakLe τ [(1, i64 a1), (2, fn (.func 103) [] [ptr (mXc a2 a3 a4)]), (6, optr 0 1 0), (7, optr 2 1 0), (13, i64 a0), (14, i64 s.2)] ∧ DeadLe Γ [⟨1, some zMx⟩, ⟨1, some (s.1.map f32)⟩, ⟨1, some (oXc r1 r2 1 1 r3.length)⟩]) ?_ _ _ _ hz_4 ⟨rfl, ⟨aR, aR, aR, aR, aR, aR, trivial⟩, ⟨⟨rfl, .inr rfl⟩, ⟨rfl, .inr rfl⟩, ⟨rfl, .inr rfl⟩, trivial⟩⟩))
  rintro ⟨L4, v6⟩ τ4 Γ4 y4_ ⟨hl5, hw4, hd4⟩ h4_ ho4 hr4
  refine RunC.wl (τ' := [(1, i64 a1), (2, fn (.func 103) [] [ptr (mXc a2 a3 a4)]), (6, optr 0 1 0), (7, optr 2 1 0), (13, i64 a0), (14, i64 v6)]) (Γ' := [⟨1, some zMx⟩, ⟨1, some (L4.map f32)⟩, ⟨1, some (oXc r1 r2 1 1 r3.length)⟩]) hw4 hd4 ?_
  replace hl5 : L4.length = r3.length := hl5
  replace h4_ : i_made_2Fi_Matrix_upper_1_b3 a0 a1 a2 a3 a4 r1 r2 r3 L4 v6 = some y4_ := h4_
  unfold i_made_2Fi_Matrix_upper_1_b3 at h4_
  refine yS ?_
  rcases oB h4_ with ⟨hc2, h4_⟩ | ⟨hc2, h4_⟩
  ·refine yW<|yl rfl (b true) (LOp.eqb (LOp.lss rfl rfl rfl) hc2)<|zN ?_
   refine yS<|yT<|RunC.skip<|yS<|RunC.block<|zQ<|ym rfl (i64 v6)<|ya rfl (i64 v6)<|zN ?_
   refine zQ<|ym rfl (i64 a1)<|ym rfl (i64 0)<|zN ?_
   obtain ⟨z5, hz_5, h4_⟩ := oS h4_
   refine RunC.cutN (fun τ Γ => ∃ (L14 : List F), L14.length = r3.length ∧ WeakLe τ [(1, i64 a1), (2, fn (.func 103) [] [ptr (mXc a2 a3 a4)]), (6, optr 0 1 0), (7, optr 2 1 0), (13, i64 a0), (14, i64 v6)] ∧ DeadLe Γ [⟨1, some zMx⟩, ⟨1, some (L14.map f32)⟩, ⟨1, some (oXc r1 r2 1 1 r3.length)⟩] ∧ z5 = .inl L14) ?_ ?_
   ·refine RunC.block (RunC.loop (RunL.loopM (x := z5) (i_made_2Fi_Matrix_upper_1_s2 a1 a2 a3 a4 r1 r2 r3 v6) (fun (s : (List F) × Int) τ Γ => s.1.length = r3.length ∧ WeakLe τ [(1, i64 a1), (2, fn (.func 103) [] [ptr (mXc a2 a3 a4)]), (6, optr 0 1 0), (7, optr 2 1 0), (8, i64 v6), (13, i64 a0), (14, i64 v6), (17, i64 a1), (18, i64 s.2)] ∧ DeadLe Γ [⟨1, some zMx⟩, ⟨1, some (s.1.map f32)⟩, ⟨1, some (oXc r1 r2 1 1 r3.length)⟩]) ?_ _ _ _ hz_5 ⟨hl5, ⟨aR, aR, aR, aR, aR, aR, aR, aR, aR, trivial⟩, ⟨⟨rfl, .inr rfl⟩, ⟨rfl, .inr rfl⟩, ⟨rfl, .inr rfl⟩, trivial⟩⟩))
    rintro ⟨L7, v9⟩ τ5 Γ5 y5_ ⟨hl8, hw5, hd5⟩ h5_ ho5 hr5
    refine RunC.wl (τ' := [(1, i64 a1), (2, fn (.func 103) [] [ptr (mXc a2 a3 a4)]), (6, optr 0 1 0), (7, optr 2 1 0), (8, i64 v6), (13, i64 a0), (14, i64 v6), (17, i64 a1), (18, i64 v9)]) (Γ' := [⟨1, some zMx⟩, ⟨1, some (L7.map f32)⟩, ⟨1, some (oXc r1 r2 1 1 r3.length)⟩]) hw5 hd5 ?_
    replace hl8 : L7.length = r3.length := hl8
    replace h5_ : i_made_2Fi_Matrix_upper_1_b2 a1 a2 a3 a4 r1 r2 r3 v6 L7 v9 = some y5_ := h5_
    unfold i_made_2Fi_Matrix_upper_1_b2 at h5_
    refine yS ?_
    rcases oB h5_ with ⟨hc3, h5_⟩ | ⟨hc3, h5_⟩
    ·refine yW<|yl rfl (b true) (LOp.eqb (LOp.lss rfl rfl rfl) hc3)<|zN ?_
     refine yS<|yT<|RunC.skip<|yS<|RunC.block<|zQ<|ym rfl (i64 v9)<|ya rfl (i64 v9)<|zN ?_
     obtain ⟨r11, hf5, h5_⟩ := oS h5_
     obtain ⟨r12, hf6, h5_⟩ := oS h5_
     obtain ⟨hn7, h5_⟩ := need_some h5_
     refine RunC.region_draw (Γ' := [⟨1, some zMx⟩, ⟨1, some (L7.map f32)⟩, ⟨1, some (oXc r1 r2 1 1 r3.length)⟩]) 7 mixed 
      (TR.d (r := agg (oXc r1 r2 1 1 r3.length)) (fs := []) rfl rfl (TOp.loadAgg_o rfl agg27 siz27 rfl rfl rfl rfl) <|
      (tm rfl (i64 v6) <|
      (tm rfl (i64 v9) <|
      (tm rfl (fn (.func 103) [] [ptr (mXc a2 a3 a4)]) <|
      (tm rfl (i64 v6) <|
      (tm rfl (i64 v9) <|
      (TR.d (r := f32 r11) (fs := []) rfl rfl (TOp.callB (CallAs.fn ent103 rfl rfl rfl rfl) (bP (bP (Bors.cons (Bor.ptr (bP (bP (bS bN)))) bN))) rfl rfl (i_Matrix_upper_1_ok v6 v9 a2 a3 a4 r11 hf5)) <|
      TR.nil))))))) rfl (by kernel_rfl) rfl fills_nil rfl ?_
     iterate 7 refine ROps.dropS ?_
     refine ROps.drop0<|ROps.callO (A := [agg (oXc r1 r2 1 1 r3.length), i64 v6, i64 v9, f32 r11]) (args := [agg (oXc r1 r2 0 0 L7.length), i64 v6, i64 v9, f32 r11]) (Γc := [⟨0, some (L7.map f32)⟩]) (Γc' := [⟨0, some (r12.map f32)⟩]) (r' := tup []) (Γ' := [⟨1, some zMx⟩, ⟨1, some (r12.map f32)⟩, ⟨1, some (oXc r1 r2 1 1 r3.length)⟩]) [(1, 1)] [] rfl (CallAs.func ent97 rfl rfl) rfl rfl (SelOk.of (ndB_ok rfl) (SelL.arr0 (f := f32) (fun _ => rfl) rfl trivial)) (live_of ⟨⟨_, _, rfl⟩, trivial⟩) (by simp [ren, rens, sigma, rens_f32, rens_f64, rens_i64, rens_ik, rens_str, rens_cp, hl8]) rfl (i_Matrix_set_02o_ok r1 r2 v6 v9 r11 L7 r12 hf6) rfl (news_of trivial) (ndB_ok rfl) (by simp [ren, rens, sigma, of_decide_eq_true hn7]) (by simp [backOb, sigma, ren, rens, rens_f32, rens_f64, rens_i64, rens_ik, rens_str, rens_cp])<|zN ?_
     obtain ⟨x13, hx8, h5_⟩ := oL h5_
     refine yW<|yl rfl (i64 x13) (LOp.eqr (LOp.add rfl rfl rfl) (congrArg (ik .i64) hx8))<|ym rfl (i64 x13)<|zN ?_
     cases oI h5_
     exact ⟨_, rfl, (of_decide_eq_true hn7), ⟨aR, aR, aR, aR, aR, aR, aR, aR, aR, trivial⟩, ⟨⟨rfl, .inr rfl⟩, ⟨rfl, .inr rfl⟩, ⟨rfl, .inr rfl⟩, trivial⟩⟩
    ·refine yW<|yl rfl (b false) (LOp.eqb (LOp.lss rfl rfl rfl) hc3)<|zN ?_
     refine yS<|yF<|RunC.exit ?_
     cases oI h5_
     have hx := ho5 _ rfl
     exact ⟨L7, hl8, ⟨aR, aR, aR, aR, aR, aR, trivial⟩, ⟨⟨rfl, .inr rfl⟩, ⟨rfl, .inr rfl⟩, ⟨rfl, .inr rfl⟩, trivial⟩, hx⟩
   ·rintro τ6 Γ6 ⟨L14, hl15, hw6, hd6, rfl⟩
    refine RunC.wl hw6 hd6 ?_
    replace h4_ : i_made_2Fi_Matrix_upper_1_k2 v6 L14 = some y4_ := h4_
    unfold i_made_2Fi_Matrix_upper_1_k2 at h4_
    obtain ⟨x16, hx9, h4_⟩ := oL h4_
    refine yW<|yl rfl (i64 x16) (LOp.eqr (LOp.add rfl rfl rfl) (congrArg (ik .i64) hx9))<|ym rfl (i64 x16)<|zN ?_
    cases oI h4_
    exact ⟨_, rfl, hl15, ⟨aR, aR, aR, aR, aR, aR, trivial⟩, ⟨⟨rfl, .inr rfl⟩, ⟨rfl, .inr rfl⟩, ⟨rfl, .inr rfl⟩, trivial⟩⟩
  ·refine yW<|yl rfl (b false) (LOp.eqb (LOp.lss rfl rfl rfl) hc2)<|zN ?_
   refine yS<|yF<|RunC.exit ?_
   cases oI h4_
   have hx := ho4 _ rfl
   exact ⟨L4, hl5, ⟨aR, aR, trivial⟩, ⟨⟨rfl, .inr rfl⟩, ⟨rfl, .inr rfl⟩, ⟨rfl, .inr rfl⟩, trivial⟩, hx⟩
 ·rintro τ7 Γ7 ⟨L17, hl18, hw7, hd7, rfl⟩
  refine RunC.wl hw7 hd7 ?_
  replace h : i_made_2Fi_Matrix_upper_1_k3 r1 r2 L17 = some (q0, q1, q2) := h
  unfold i_made_2Fi_Matrix_upper_1_k3 at h
  refine zQ<|yd rfl (agg (oXc r1 r2 1 1 r3.length)) (TOp.loadAgg_o rfl agg27 siz27 rfl rfl rfl rfl)<|ys (agg (oXc r1 r2 1 1 r3.length)) (oXc r1 r2 1 1 r3.length) [⟨1, some (oXc r1 r2 1 1 r3.length)⟩, ⟨1, some (L17.map f32)⟩, ⟨1, some (oXc r1 r2 1 1 r3.length)⟩] siz27<|zN ?_
  refine RunC.ret ?_
  have hq := oI h
  obtain ⟨hq0, hq⟩ := Prod.mk.inj hq
  obtain ⟨hq1, hq⟩ := Prod.mk.inj hq
  subst q0
  subst q1
  subst q2
  exact yB (agg (oXc r1 r2 1 1 L17.length)) [(1, 1)] (Res.eq (Res.one rfl (RV.cell agg27 siz27 rfl rfl rfl rfl)) (by rw [(show L17.length = r3.length from hl18)] <;> rfl)) (SelL.arr0 (f := f32) (fun _ => rfl) rfl trivial)
def i_Matrix_upper (a0 : Int) (a1 : Int) (a2 : List F) : Option (Int × Int × (List F)) :=
 obind3 (i_made_2Fi_Matrix_upper_1 a0 a1 a0 a1 a2) fun (r1 : Int) (r2 : Int) (r3 : List F) =>
 some (r1, r2, r3)
theorem i_Matrix_upper_ok (a0 : Int) (a1 : Int) (a2 : List F) (q0 : Int) (q1 : Int) (q2 : List F) (h : i_Matrix_upper a0 a1 a2 = some (q0, q1, q2)) : Ev Tryz.prog 55 [agg (mXc a0 a1 a2)] [] (agg (oXc q0 q1 0 0 q2.length)) [⟨0, some (q2.map f32)⟩] := by
 refine yE Tryz.func55 2 19 0 [(0, agg (mXc a0 a1 a2))] [⟨0, none⟩, ⟨0, none⟩] rfl ?_
 unfold i_Matrix_upper at h
 refine zQ<|yd rfl (ptr (mXc a0 a1 a2)) (TOp.box_s rfl rfl rfl)<|ye rfl (optr 0 1 0) [⟨1, some zMx⟩, ⟨0, none⟩] (TOp.alloc_o (g := ⟨0, none⟩) 0 rfl zer27 zok27 rfl)<|zN ?_
 refine yS ?_
 obtain ⟨r1, r2, r3, hf1, h⟩ := obind3_some h
 refine yW<|yl rfl (ptr (mXc a0 a1 a2)) (LOp.fap und27 rfl siz2 rfl rfl rfl)<|yl rfl (i64 a0) (y2 agg2)<|yl rfl (ptr [i64 a1, (sFc a2)]) (LOp.fap und27 rfl siz2 rfl rfl rfl)<|yl rfl (i64 a1) (y2 agg2)<|yl rfl (fn (.func 103) [] [ptr (mXc a0 a1 a2)]) (LOp.makeFunc rfl rfl)<|ye rfl (agg (oXc r1 r2 1 1 r3.length)) [⟨1, some zMx⟩, ⟨1, some (r3.map f32)⟩] (TOp.callBN (ls := [(r3.map f32)]) [1] (CallAs.func ent53 rfl rfl) (bP (bP (Bors.cons (Bor.fn bN (Bors.cons (Bor.ptr (bP (bP (bS bN)))) bN)) bN))) rfl (i_made_2Fi_Matrix_upper_1_ok a0 a1 a0 a1 a2 r1 r2 r3 hf1) (and_all (lts0_map (f := f32) (fun _ => rfl) _) rfl) (and_all (noss_map (f := f32) (fun _ => rfl) _) rfl) rfl (by decide) (ns_of ⟨⟨_, rfl⟩, trivial⟩))<|ys (agg (oXc r1 r2 1 1 r3.length)) (oXc r1 r2 1 1 r3.length) [⟨1, some (oXc r1 r2 1 1 r3.length)⟩, ⟨1, some (r3.map f32)⟩] siz27<|zN ?_
 refine RunC.ret ?_
 have hq := oI h
 obtain ⟨hq0, hq⟩ := Prod.mk.inj hq
 obtain ⟨hq1, hq⟩ := Prod.mk.inj hq
 subst q0
 subst q1
 subst q2
 exact yB (agg (oXc r1 r2 1 1 r3.length)) [(1, 1)] (Res.one rfl (RV.cell agg27 siz27 rfl rfl rfl rfl)) (SelL.arr0 (f := f32) (fun _ => rfl) rfl trivial)
def i_UpperOf (a0 : Int) (a1 : Int) (a2 : List F) (a3 : List Int) : Option (Int × Int × Bool × (List F)) :=
 obind (i_ValidFactor a0 a1 a2 a3) fun (r1 : Bool) =>
 bsel r1 (
  obind3 (i_Matrix_upper a0 a1 a2) fun (r2 : Int) (r3 : Int) (r4 : List F) =>
  some (r2, r3, true, r4)) (
  some (0, 0, false, ([] : List F)))
theorem i_UpperOf_ok (a0 : Int) (a1 : Int) (a2 : List F) (a3 : List Int) (q0 : Int) (q1 : Int) (q2 : Bool) (q3 : List F) (h : i_UpperOf a0 a1 a2 a3 = some (q0, q1, q2, q3)) : Ev Tryz.prog 14 [agg [i64 a0, i64 a1, (sFc a2), sl a3.length (a3.map i64)]] [] (tup [agg (oXc q0 q1 0 0 q3.length), b q2]) [⟨0, some (q3.map f32)⟩] := by
 refine yE Tryz.func14 2 23 0 ([(0, agg [i64 a0, i64 a1, (sFc a2), sl a3.length (a3.map i64)])]) [⟨0, none⟩, ⟨0, none⟩] rfl ?_
 unfold i_UpperOf at h
 refine zQ<|yd rfl (ptr [i64 a0, i64 a1, (sFc a2), sl a3.length (a3.map i64)]) (TOp.box_s rfl rfl rfl)<|ye rfl (optr 0 1 0) [⟨1, some zMx⟩, ⟨0, none⟩] (TOp.alloc_o (g := ⟨0, none⟩) 0 rfl zer27 zok27 rfl)<|ya rfl (b false)<|zN ?_
 refine yS<|yS ?_
 obtain ⟨r1, hf1, h⟩ := oS h
 rcases oB h with ⟨hc2, h⟩ | ⟨hc2, h⟩
 ·refine yW<|yl rfl (agg [i64 a0, i64 a1, (sFc a2), sl a3.length (a3.map i64)]) (yL agg32 siz32)<|yd rfl (b true) (TOp.eqb (TOp.callB (CallAs.func ent10 rfl rfl) (Bors.cons (Bor.agg (bP (bP (bS (bS bN))))) bN) rfl rfl (i_ValidFactor_ok a0 a1 a2 a3 r1 hf1)) hc2)<|yl rfl (b false) y1<|zN ?_
  refine yF<|RunC.skip<|yS ?_
  obtain ⟨r2, r3, r4, hf3, h⟩ := obind3_some h
  refine yW<|yl rfl (ptr [i64 a0, i64 a1, (sFc a2), sl a3.length (a3.map i64)]) (LOp.fap und32 rfl siz27 rfl rfl rfl)<|yl rfl (agg (mXc a0 a1 a2)) (yL agg27 siz27)<|ye rfl (agg (oXc r2 r3 1 1 r4.length)) [⟨1, some zMx⟩, ⟨1, some (r4.map f32)⟩] (TOp.callBN (ls := [(r4.map f32)]) [1] (CallAs.func ent55 rfl rfl) (Bors.cons (Bor.agg (bP (bP (bS bN)))) bN) rfl (i_Matrix_upper_ok a0 a1 a2 r2 r3 r4 hf3) (and_all (lts0_map (f := f32) (fun _ => rfl) _) rfl) (and_all (noss_map (f := f32) (fun _ => rfl) _) rfl) rfl (by decide) (ns_of ⟨⟨_, rfl⟩, trivial⟩))<|ys (agg (oXc r2 r3 1 1 r4.length)) (oXc r2 r3 1 1 r4.length) [⟨1, some (oXc r2 r3 1 1 r4.length)⟩, ⟨1, some (r4.map f32)⟩] siz27<|ya rfl (b true)<|zN ?_
  refine RunC.ret ?_
  have hq := oI h
  obtain ⟨hq0, hq⟩ := Prod.mk.inj hq
  obtain ⟨hq1, hq⟩ := Prod.mk.inj hq
  obtain ⟨hq2, hq⟩ := Prod.mk.inj hq
  subst q0
  subst q1
  subst q2
  subst q3
  exact yB (tup [agg (oXc r2 r3 1 1 r4.length), b true]) [(1, 1)] (Res.two rfl (RV.cell agg27 siz27 rfl rfl rfl rfl) (RV.tmp rfl)) (SelL.arr0 (f := f32) (fun _ => rfl) rfl trivial)
 ·refine yW<|yl rfl (agg [i64 a0, i64 a1, (sFc a2), sl a3.length (a3.map i64)]) (yL agg32 siz32)<|yd rfl (b false) (TOp.eqb (TOp.callB (CallAs.func ent10 rfl rfl) (Bors.cons (Bor.agg (bP (bP (bS (bS bN))))) bN) rfl rfl (i_ValidFactor_ok a0 a1 a2 a3 r1 hf1)) hc2)<|yl rfl (b true) y0<|zN ?_
  refine yT<|zQ<|yl rfl (agg zMx) (LOp.build (qs := []) zer27 zok27 und27 plc27 rfl trivial rfl)<|ys (agg zMx) zMx [⟨1, some zMx⟩, ⟨0, none⟩] siz27<|ya rfl (b false)<|zN ?_
  refine RunC.nil_cell (l' := [i64 0, i64 0, oref 1 1 0 0]) (Γ' := [⟨1, some [i64 0, i64 0, oref 1 1 0 0]⟩, ⟨1, some (([] : List F).map f32)⟩]) 0 2 1 rfl rfl rfl rfl rfl<|RunC.ret ?_
  have hq := oI h
  obtain ⟨hq0, hq⟩ := Prod.mk.inj hq
  obtain ⟨hq1, hq⟩ := Prod.mk.inj hq
  obtain ⟨hq2, hq⟩ := Prod.mk.inj hq
  subst q0
  subst q1
  subst q2
  subst q3
  exact yB (tup [agg [i64 0, i64 0, oref 1 1 0 (([] : List F).length)], b false]) [(1, 1)] (Res.eq (Res.two rfl (RV.cell agg27 siz27 rfl rfl rfl rfl) (RV.tmp rfl)) (by rw [(show ([] : List F).length = 0 from rfl)] <;> rfl)) (SelL.arr0 (f := f32) (fun _ => rfl) rfl trivial)
def s_l02Fit (a0 : Int) (a1 : Int) (a2 : List F) (a3 : Int) (a4 : Int) (a5 : List F) : Option (Bool) :=
 obind (s_l02Is a0 a1 a2) fun (r1 : Bool) =>
 bsel r1 (
  obind (s_l02Is a3 a4 a5) fun (r2 : Bool) =>
  bsel r2 (
   some (decide (a1 = a3))) (
   some false)) (
  some false)
theorem s_l02Fit_ok (a0 : Int) (a1 : Int) (a2 : List F) (a3 : Int) (a4 : Int) (a5 : List F) (q0 : Bool) (h : s_l02Fit a0 a1 a2 a3 a4 a5 = some q0) : Ev Tryz.prog 56 [ptr (mXc a0 a1 a2), ptr (mXc a3 a4 a5)] [] (b q0) [] := by
 refine yE Tryz.func56 0 45 0 [(0, ptr (mXc a0 a1 a2)), (1, ptr (mXc a3 a4 a5))] [] rfl ?_
 unfold s_l02Fit at h
 refine zQ<|ya rfl (b false)<|zN ?_
 refine yS ?_
 obtain ⟨r1, hf1, h⟩ := oS h
 rcases oB h with ⟨hc2, h⟩ | ⟨hc2, h⟩
 ·obtain ⟨r2, hf3, h⟩ := oS h
  rcases oB h with ⟨hc4, h⟩ | ⟨hc4, h⟩
  ·refine RunC.region_draw (Γ' := []) 18 mixed 
    (tm rfl (ptr (mXc a0 a1 a2)) <|
    (TR.d (r := b true) (fs := []) rfl rfl (TOp.eqb (TOp.callB (CallAs.func ent59 rfl rfl) (Bors.cons (Bor.ptr (bP (bP (bS bN)))) bN) rfl rfl (s_l02Is_ok a0 a1 a2 r1 hf1)) hc2) <|
    (tm rfl (b true) <|
    (tm rfl (ptr (mXc a3 a4 a5)) <|
    (TR.d (r := b true) (fs := []) rfl rfl (TOp.eqb (TOp.callB (CallAs.func ent59 rfl rfl) (Bors.cons (Bor.ptr (bP (bP (bS bN)))) bN) rfl rfl (s_l02Is_ok a3 a4 a5 r2 hf3)) hc4) <|
    (tl rfl (b true) yq <|
    (tm rfl (b true) <|
    (tm rfl (ptr (mXc a0 a1 a2)) <|
    (tl rfl (ptr (mXc a0 a1 a2)) (LOp.nilCheck_ptr rfl rfl) <|
    (tl rfl (ptr [i64 a1, (sFc a2)]) (LOp.fap und27 rfl siz2 rfl rfl rfl) <|
    (tl rfl (i64 a1) (y2 agg2) <|
    (tm rfl (ptr (mXc a3 a4 a5)) <|
    (tl rfl (ptr (mXc a3 a4 a5)) (LOp.nilCheck_ptr rfl rfl) <|
    (tl rfl (ptr (mXc a3 a4 a5)) (LOp.fap und27 rfl siz2 rfl rfl rfl) <|
    (tl rfl (i64 a3) (y2 agg2) <|
    (tl rfl (b (decide (a1 = a3))) (LOp.eql rfl rfl rfl) <|
    (tl rfl (b (decide (a1 = a3))) yq <|
    (tl rfl (b (decide (a1 = a3))) (LOp.assign rfl rfl) <|
    TR.nil)))))))))))))))))) rfl (by kernel_rfl) rfl fills_nil rfl ?_
   iterate 18 refine ROps.dropS ?_
   refine ROps.drop0<|zN ?_
   refine RunC.ret ?_
   have hq := oI h
   subst q0
   exact bodyQ.pure (.inr rfl) rfl (Res.one rfl (RV.tmp rfl))
  ·refine RunC.region_draw (Γ' := []) 18 mixed 
    (tm rfl (ptr (mXc a0 a1 a2)) <|
    (TR.d (r := b true) (fs := []) rfl rfl (TOp.eqb (TOp.callB (CallAs.func ent59 rfl rfl) (Bors.cons (Bor.ptr (bP (bP (bS bN)))) bN) rfl rfl (s_l02Is_ok a0 a1 a2 r1 hf1)) hc2) <|
    (tm rfl (b true) <|
    (tm rfl (ptr (mXc a3 a4 a5)) <|
    (TR.d (r := b false) (fs := []) rfl rfl (TOp.eqb (TOp.callB (CallAs.func ent59 rfl rfl) (Bors.cons (Bor.ptr (bP (bP (bS bN)))) bN) rfl rfl (s_l02Is_ok a3 a4 a5 r2 hf3)) hc4) <|
    (tl rfl (b false) yq <|
    (tm rfl (b false) <|
    (ts rfl <|
    (ts rfl <|
    (ts rfl <|
    (ts rfl <|
    (ts rfl <|
    (ts rfl <|
    (ts rfl <|
    (ts rfl <|
    (ts rfl <|
    (tl rfl (b false) yp <|
    (tl rfl (b false) (LOp.assign rfl rfl) <|
    TR.nil)))))))))))))))))) rfl (by kernel_rfl) rfl fills_nil rfl ?_
   iterate 18 refine ROps.dropS ?_
   refine ROps.drop0<|zN ?_
   refine RunC.ret ?_
   have hq := oI h
   subst q0
   exact bodyQ.pure (.inr rfl) rfl (Res.one rfl (RV.tmp rfl))
 ·refine RunC.region_draw (Γ' := []) 18 mixed 
   (tm rfl (ptr (mXc a0 a1 a2)) <|
   (TR.d (r := b false) (fs := []) rfl rfl (TOp.eqb (TOp.callB (CallAs.func ent59 rfl rfl) (Bors.cons (Bor.ptr (bP (bP (bS bN)))) bN) rfl rfl (s_l02Is_ok a0 a1 a2 r1 hf1)) hc2) <|
   (tm rfl (b false) <|
   (ts rfl <|
   (ts rfl <|
   (tl rfl (b false) yp <|
   (tm rfl (b false) <|
   (ts rfl <|
   (ts rfl <|
   (ts rfl <|
   (ts rfl <|
   (ts rfl <|
   (ts rfl <|
   (ts rfl <|
   (ts rfl <|
   (ts rfl <|
   (tl rfl (b false) yp <|
   (tl rfl (b false) (LOp.assign rfl rfl) <|
   TR.nil)))))))))))))))))) rfl (by kernel_rfl) rfl fills_nil rfl ?_
  iterate 18 refine ROps.dropS ?_
  refine ROps.drop0<|zN ?_
  refine RunC.ret ?_
  have hq := oI h
  subst q0
  exact bodyQ.pure (.inr rfl) rfl (Res.one rfl (RV.tmp rfl))
def s_l02Mul_b2 (a0 : Int) (a1 : Int) (a2 : List F) (a3 : Int) (a4 : Int) (a5 : List F) (v7 : Int) (y9 : F) (v10 : Int) : Option (LR (F × Int) (F) (Int × Int × (List F))) :=
 bsel (decide (v10 < a1)) (
  need (!decide (a4 = 0)) <|
  olet (IntKind.i64.wrap (v7.tdiv a4)) fun (x11 : Int) =>
  obind (s_l02At a0 a1 a2 x11 v10) fun (r12 : F) =>
  need (!decide (a4 = 0)) <|
  olet (v7.tmod a4) fun (x13 : Int) =>
  obind (s_l02At a3 a4 a5 v10 x13) fun (r14 : F) =>
  olet (fop .mul .f32 r12 r14) fun (x15 : F) =>
  olet (fop .add .f32 y9 x15) fun (x16 : F) =>
  olet (IntKind.i64.wrap (v10 + 1)) fun (x17 : Int) =>
  some (LR.next (x16, x17))) (
  some (LR.out y9))
def s_l02Mul_s2 (a0 : Int) (a1 : Int) (a2 : List F) (a3 : Int) (a4 : Int) (a5 : List F) (v7 : Int) : (F × Int) → Option (LR (F × Int) (F) (Int × Int × (List F))) := fun s => s_l02Mul_b2 a0 a1 a2 a3 a4 a5 v7 s.1 s.2
def s_l02Mul_k2 (L6 : List F) (v7 : Int) (y18 : F) : Option (LR ((List F) × Int) ((List F)) (Int × Int × (List F))) :=
 need (apok 4 L6.length 1) <|
 olet (IntKind.i64.wrap (v7 + 1)) fun (x19 : Int) =>
 some (LR.next ((L6 ++ ([y18] : List F)), x19))
def s_l02Mul_b3 (a0 : Int) (a1 : Int) (a2 : List F) (a3 : Int) (a4 : Int) (a5 : List F) (L6 : List F) (v7 : Int) : Option (LR ((List F) × Int) ((List F)) (Int × Int × (List F))) :=
 olet (IntKind.i64.wrap (a0 * a4)) fun (x8 : Int) =>
 bsel (decide (v7 < x8)) (
  obind (loopM (s_l02Mul_s2 a0 a1 a2 a3 a4 a5 v7) (some 0, 0)) fun z => osum z (fun e => s_l02Mul_k2 L6 v7 e) (fun r => some (LR.ret r))) (
  some (LR.out L6))
def s_l02Mul_s3 (a0 : Int) (a1 : Int) (a2 : List F) (a3 : Int) (a4 : Int) (a5 : List F) : ((List F) × Int) → Option (LR ((List F) × Int) ((List F)) (Int × Int × (List F))) := fun s => s_l02Mul_b3 a0 a1 a2 a3 a4 a5 s.1 s.2
def s_l02Mul_k3 (r1 : Int) (r2 : Int) (L22 : List F) : Option (Int × Int × (List F)) :=
 some (r1, r2, L22)
def s_l02Mul (a0 : Int) (a1 : Int) (a2 : List F) (a3 : Int) (a4 : Int) (a5 : List F) : Option (Int × Int × (List F)) :=
 obind3 (s_l02Blank a0 a4) fun (r1 : Int) (r2 : Int) (r3 : List F) =>
 obind (loopM (s_l02Mul_s3 a0 a1 a2 a3 a4 a5) (r3, 0)) fun z => osum z (fun e => s_l02Mul_k3 r1 r2 e) (fun r => some r)
theorem s_l02Mul_ok (a0 : Int) (a1 : Int) (a2 : List F) (a3 : Int) (a4 : Int) (a5 : List F) (q0 : Int) (q1 : Int) (q2 : List F) (h : s_l02Mul a0 a1 a2 a3 a4 a5 = some (q0, q1, q2)) : Ev Tryz.prog 58 [ptr (mXc a0 a1 a2), ptr (mXc a3 a4 a5)] [] (agg (oXc q0 q1 0 0 q2.length)) [⟨0, some (q2.map f32)⟩] := by
 refine yE Tryz.func58 4 135 0 [(0, ptr (mXc a0 a1 a2)), (1, ptr (mXc a3 a4 a5))] [⟨0, none⟩, ⟨0, none⟩, ⟨0, none⟩, ⟨0, none⟩] rfl ?_
 unfold s_l02Mul at h
 refine zQ<|ye rfl (optr 0 1 0) [⟨1, some zMx⟩, ⟨0, none⟩, ⟨0, none⟩, ⟨0, none⟩] (TOp.alloc_o (g := ⟨0, none⟩) 0 rfl zer27 zok27 rfl)<|zN ?_
 refine yS ?_
 obtain ⟨r1, r2, r3, hf1, h⟩ := obind3_some h
 refine RunC.region_draw (Γ' := [⟨1, some zMx⟩, ⟨1, some (r3.map f32)⟩, ⟨1, some zMx⟩, ⟨0, none⟩]) 10 mixed 
  (tm rfl (ptr (mXc a0 a1 a2)) <|
  (tl rfl (ptr (mXc a0 a1 a2)) (LOp.nilCheck_ptr rfl rfl) <|
  (tl rfl (ptr (mXc a0 a1 a2)) (LOp.fap und27 rfl siz2 rfl rfl rfl) <|
  (tl rfl (i64 a0) (y2 agg2) <|
  (tm rfl (ptr (mXc a3 a4 a5)) <|
  (tl rfl (ptr (mXc a3 a4 a5)) (LOp.nilCheck_ptr rfl rfl) <|
  (tl rfl (ptr [i64 a4, (sFc a5)]) (LOp.fap und27 rfl siz2 rfl rfl rfl) <|
  (tl rfl (i64 a4) (y2 agg2) <|
  (TR.d (r := agg (oXc r1 r2 1 1 r3.length)) (fs := [(1, (r3.map f32))]) rfl rfl (TOp.callBN (ls := [(r3.map f32)]) [1] (CallAs.func ent35 rfl rfl) (bP bN0) rfl (s_l02Blank_ok a0 a4 r1 r2 r3 hf1) (and_all (lts0_map (f := f32) (fun _ => rfl) _) rfl) (and_all (noss_map (f := f32) (fun _ => rfl) _) rfl) rfl (by decide) (ns_of ⟨⟨_, rfl⟩, trivial⟩)) <|
  (TR.d (r := optr 2 1 0) (fs := [(2, zMx)]) rfl rfl (TOp.alloc_o (g := ⟨0, none⟩) 2 rfl zer27 zok27 rfl) <|
  TR.nil)))))))))) rfl (by kernel_rfl) rfl (fills_of (by show List.Nodup [1, 2]; decide) ⟨⟨_, rfl⟩, ⟨_, rfl⟩, trivial⟩) rfl ?_
 iterate 10 refine ROps.dropS ?_
 refine ROps.drop0<|ys (agg (oXc r1 r2 1 1 r3.length)) (oXc r1 r2 1 1 r3.length) [⟨1, some zMx⟩, ⟨1, some (r3.map f32)⟩, ⟨1, some (oXc r1 r2 1 1 r3.length)⟩, ⟨0, none⟩] siz27<|zN ?_
 refine yS<|zQ<|ya rfl (i64 0)<|zN ?_
 obtain ⟨z4, hz_4, h⟩ := oS h
 refine RunC.cutN (fun τ Γ => ∃ (L22 : List F) (u20 : Nat) (u21 : Nat), WeakLe τ [(4, optr 0 1 0), (5, optr 2 1 0)] ∧ DeadLe Γ [⟨1, some zMx⟩, ⟨u20, some (L22.map f32)⟩, ⟨1, some (oXc r1 r2 1 u20 L22.length)⟩, ⟨u21, none⟩] ∧ z4 = .inl L22) ?_ ?_
 ·refine RunC.block (RunC.loop (RunL.loopM (x := z4) (s_l02Mul_s3 a0 a1 a2 a3 a4 a5) (fun (s : (List F) × Int) τ Γ => ∃ (u4 : Nat) (u5 : Nat), WeakLe τ [(0, ptr (mXc a0 a1 a2)), (1, ptr (mXc a3 a4 a5)), (4, optr 0 1 0), (5, optr 2 1 0), (6, i64 s.2)] ∧ DeadLe Γ [⟨1, some zMx⟩, ⟨u4, some (s.1.map f32)⟩, ⟨1, some [i64 r1, i64 r2, oref 1 u4 0 s.1.length]⟩, ⟨u5, none⟩]) ?_ _ _ _ hz_4 ⟨1, 0, ⟨aR, aR, aR, aR, aR, trivial⟩, ⟨⟨rfl, .inr rfl⟩, ⟨rfl, .inr rfl⟩, ⟨rfl, .inr (by first | rfl | simp)⟩, ⟨rfl, .inl rfl⟩, trivial⟩⟩))
  rintro ⟨L6, v7⟩ τ4 Γ4 y4_ ⟨u4, u5, hw4, hd4⟩ h4_ ho4 hr4
  refine RunC.wl (τ' := [(0, ptr (mXc a0 a1 a2)), (1, ptr (mXc a3 a4 a5)), (4, optr 0 1 0), (5, optr 2 1 0), (6, i64 v7)]) (Γ' := [⟨1, some zMx⟩, ⟨u4, some (L6.map f32)⟩, ⟨1, some (oXc r1 r2 1 u4 L6.length)⟩, ⟨u5, none⟩]) hw4 hd4 ?_
  replace h4_ : s_l02Mul_b3 a0 a1 a2 a3 a4 a5 L6 v7 = some y4_ := h4_
  unfold s_l02Mul_b3 at h4_
  refine yS<|yS ?_
  obtain ⟨x8, hx2, h4_⟩ := oL h4_
  rcases oB h4_ with ⟨hc3, h4_⟩ | ⟨hc3, h4_⟩
  ·refine RunC.region_draw (Γ' := [⟨1, some zMx⟩, ⟨u4, some (L6.map f32)⟩, ⟨1, some (oXc r1 r2 1 u4 L6.length)⟩, ⟨u5, none⟩]) 11 mixed 
    (tm rfl (i64 v7) <|
    (tm rfl (ptr (mXc a0 a1 a2)) <|
    (tl rfl (ptr (mXc a0 a1 a2)) (LOp.nilCheck_ptr rfl rfl) <|
    (tl rfl (ptr (mXc a0 a1 a2)) (LOp.fap und27 rfl siz2 rfl rfl rfl) <|
    (tl rfl (i64 a0) (y2 agg2) <|
    (tm rfl (ptr (mXc a3 a4 a5)) <|
    (tl rfl (ptr (mXc a3 a4 a5)) (LOp.nilCheck_ptr rfl rfl) <|
    (tl rfl (ptr [i64 a4, (sFc a5)]) (LOp.fap und27 rfl siz2 rfl rfl rfl) <|
    (tl rfl (i64 a4) (y2 agg2) <|
    (tl rfl (i64 x8) (LOp.eqr (LOp.mul rfl rfl rfl) (congrArg (ik .i64) hx2)) <|
    (tl rfl (b true) (LOp.eqb (LOp.lss rfl rfl rfl) hc3) <|
    TR.nil))))))))))) rfl (by kernel_rfl) rfl fills_nil rfl ?_
   iterate 11 refine ROps.dropS ?_
   refine ROps.drop0<|zN ?_
   refine yT<|RunC.skip<|yS<|RunC.block<|zQ<|yl rfl (f32 (some 0)) (LOp.le (LOp.assign rfl rfl) (ALe.fl (by kernel_rfl) (by kernel_rfl)))<|zN ?_
   refine yS<|zQ<|ya rfl (i64 0)<|zN ?_
   obtain ⟨z5, hz_5, h4_⟩ := oS h4_
   refine RunC.cutN (fun τ Γ => ∃ (y18 : F), WeakLe τ [(0, ptr (mXc a0 a1 a2)), (1, ptr (mXc a3 a4 a5)), (4, optr 0 1 0), (5, optr 2 1 0), (6, i64 v7), (7, f32 y18)] ∧ DeadLe Γ [⟨1, some zMx⟩, ⟨u4, some (L6.map f32)⟩, ⟨1, some (oXc r1 r2 1 u4 L6.length)⟩, ⟨u5, none⟩] ∧ z5 = .inl y18) ?_ ?_
   ·refine RunC.block (RunC.loop (RunL.loopM (x := z5) (s_l02Mul_s2 a0 a1 a2 a3 a4 a5 v7) (fun (s : F × Int) τ Γ => WeakLe τ [(0, ptr (mXc a0 a1 a2)), (1, ptr (mXc a3 a4 a5)), (4, optr 0 1 0), (5, optr 2 1 0), (6, i64 v7), (7, f32 s.1), (8, i64 s.2)] ∧ DeadLe Γ [⟨1, some zMx⟩, ⟨u4, some (L6.map f32)⟩, ⟨1, some (oXc r1 r2 1 u4 L6.length)⟩, ⟨u5, none⟩]) ?_ _ _ _ hz_5 ⟨⟨aR, aR, aR, aR, aR, aR, aR, trivial⟩, ⟨⟨rfl, .inr rfl⟩, ⟨rfl, .inr rfl⟩, ⟨rfl, .inr rfl⟩, ⟨rfl, .inl rfl⟩, trivial⟩⟩))
    rintro ⟨y9, v10⟩ τ5 Γ5 y5_ ⟨hw5, hd5⟩ h5_ ho5 hr5
    refine RunC.wl (τ' := [(0, ptr (mXc a0 a1 a2)), (1, ptr (mXc a3 a4 a5)), (4, optr 0 1 0), (5, optr 2 1 0), (6, i64 v7), (7, f32 y9), (8, i64 v10)]) (Γ' := [⟨1, some zMx⟩, ⟨u4, some (L6.map f32)⟩, ⟨1, some (oXc r1 r2 1 u4 L6.length)⟩, ⟨u5, none⟩]) hw5 hd5 ?_
    replace h5_ : s_l02Mul_b2 a0 a1 a2 a3 a4 a5 v7 y9 v10 = some y5_ := h5_
    unfold s_l02Mul_b2 at h5_
    refine yS<|yS ?_
    rcases oB h5_ with ⟨hc4, h5_⟩ | ⟨hc4, h5_⟩
    ·refine yW<|ym rfl (i64 v10)<|ym rfl (ptr (mXc a0 a1 a2))<|yl rfl (ptr (mXc a0 a1 a2)) (LOp.nilCheck_ptr rfl rfl)<|yl rfl (ptr [i64 a1, (sFc a2)]) (LOp.fap und27 rfl siz2 rfl rfl rfl)<|yl rfl (i64 a1) (y2 agg2)<|yl rfl (b true) (LOp.eqb (LOp.lss rfl rfl rfl) hc4)<|zN ?_
     refine yT<|RunC.skip<|yS<|RunC.block ?_
     obtain ⟨hz5, h5_⟩ := need_some h5_
     obtain ⟨x11, hx6, h5_⟩ := oL h5_
     obtain ⟨r12, hf7, h5_⟩ := oS h5_
     obtain ⟨hz8, h5_⟩ := need_some h5_
     obtain ⟨x13, hx9, h5_⟩ := oL h5_
     obtain ⟨r14, hf10, h5_⟩ := oS h5_
     obtain ⟨x15, hx11, h5_⟩ := oL h5_
     obtain ⟨x16, hx12, h5_⟩ := oL h5_
     refine RunC.region_draw (Γ' := [⟨1, some zMx⟩, ⟨u4, some (L6.map f32)⟩, ⟨1, some (oXc r1 r2 1 u4 L6.length)⟩, ⟨u5, none⟩]) 22 mixed 
      (tm rfl (f32 y9) <|
      (tm rfl (ptr (mXc a0 a1 a2)) <|
      (tm rfl (i64 v7) <|
      (tm rfl (ptr (mXc a3 a4 a5)) <|
      (tl rfl (ptr (mXc a3 a4 a5)) (LOp.nilCheck_ptr rfl rfl) <|
      (tl rfl (ptr [i64 a4, (sFc a5)]) (LOp.fap und27 rfl siz2 rfl rfl rfl) <|
      (tl rfl (i64 a4) (y2 agg2) <|
      (tl rfl (i64 x11) (LOp.eqr (LOp.quo rfl rfl rfl (nz hz5)) (congrArg (ik .i64) hx6)) <|
      (tm rfl (i64 v10) <|
      (TR.d (r := f32 r12) (fs := []) rfl rfl (TOp.callB (CallAs.func ent87 rfl rfl) (Bors.cons (Bor.ptr (bP (bP (bS bN)))) (bP bN0)) rfl rfl (s_l02At_ok a0 a1 a2 x11 v10 r12 hf7)) <|
      (tm rfl (ptr (mXc a3 a4 a5)) <|
      (tm rfl (i64 v10) <|
      (tm rfl (i64 v7) <|
      (tm rfl (ptr (mXc a3 a4 a5)) <|
      (tl rfl (ptr (mXc a3 a4 a5)) (LOp.nilCheck_ptr rfl rfl) <|
      (tl rfl (ptr [i64 a4, (sFc a5)]) (LOp.fap und27 rfl siz2 rfl rfl rfl) <|
      (tl rfl (i64 a4) (y2 agg2) <|
      (tl rfl (i64 x13) (LOp.eqr (LOp.rem rfl rfl rfl (nz hz8)) (congrArg (ik .i64) hx9)) <|
      (TR.d (r := f32 r14) (fs := []) rfl rfl (TOp.callB (CallAs.func ent87 rfl rfl) (Bors.cons (Bor.ptr (bP (bP (bS bN)))) (bP bN0)) rfl rfl (s_l02At_ok a3 a4 a5 v10 x13 r14 hf10)) <|
      (TR.d (r := f32 x15) (fs := []) rfl rfl (TOp.eqr (TOp.fop (.inr (.inr (.inl rfl))) rfl (OpF.tmp rfl) (OpF.tmp rfl)) (congrArg (f .f32) hx11)) <|
      (TR.d (r := f32 x16) (fs := []) rfl rfl (TOp.eqr (TOp.fop (.inl rfl) rfl (OpF.tmp rfl) (OpF.tmp rfl)) (congrArg (f .f32) hx12)) <|
      (tl rfl (f32 x16) (LOp.assign rfl rfl) <|
      TR.nil)))))))))))))))))))))) rfl (by kernel_rfl) rfl fills_nil rfl ?_
     iterate 22 refine ROps.dropS ?_
     refine ROps.drop0<|zN ?_
     refine RunC.wl (τ' := [(0, ptr (mXc a0 a1 a2)), (1, ptr (mXc a3 a4 a5)), (4, optr 0 1 0), (5, optr 2 1 0), (6, i64 v7), (7, f32 x16), (8, i64 v10)]) (Γ' := [⟨1, some zMx⟩, ⟨u4, some (L6.map f32)⟩, ⟨1, some (oXc r1 r2 1 u4 L6.length)⟩, ⟨u5, none⟩]) ⟨aR, aR, aR, aR, aR, aR, aR, trivial⟩ ⟨⟨rfl, .inr rfl⟩, ⟨rfl, .inr rfl⟩, ⟨rfl, .inr rfl⟩, ⟨rfl, .inl rfl⟩, trivial⟩ ?_
     obtain ⟨x17, hx13, h5_⟩ := oL h5_
     refine yW<|ym rfl (i64 v10)<|yl rfl (i64 x17) (LOp.eqr (LOp.add rfl rfl rfl) (congrArg (ik .i64) hx13))<|ya rfl (i64 x17)<|zN ?_
     cases oI h5_
     exact ⟨_, rfl, ⟨aR, aR, aR, aR, aR, aR, aR, trivial⟩, ⟨⟨rfl, .inr rfl⟩, ⟨rfl, .inr rfl⟩, ⟨rfl, .inr rfl⟩, ⟨rfl, .inl rfl⟩, trivial⟩⟩
    ·refine yW<|ym rfl (i64 v10)<|ym rfl (ptr (mXc a0 a1 a2))<|yl rfl (ptr (mXc a0 a1 a2)) (LOp.nilCheck_ptr rfl rfl)<|yl rfl (ptr [i64 a1, (sFc a2)]) (LOp.fap und27 rfl siz2 rfl rfl rfl)<|yl rfl (i64 a1) (y2 agg2)<|yl rfl (b false) (LOp.eqb (LOp.lss rfl rfl rfl) hc4)<|zN ?_
     refine yF<|RunC.exit ?_
     cases oI h5_
     have hx := ho5 _ rfl
     exact ⟨y9, ⟨aR, aR, aR, aR, aR, aR, trivial⟩, ⟨⟨rfl, .inr rfl⟩, ⟨rfl, .inr rfl⟩, ⟨rfl, .inr rfl⟩, ⟨rfl, .inl rfl⟩, trivial⟩, hx⟩
   ·rintro τ6 Γ6 ⟨y18, hw6, hd6, rfl⟩
    refine RunC.wl hw6 hd6 ?_
    replace h4_ : s_l02Mul_k2 L6 v7 y18 = some y4_ := h4_
    unfold s_l02Mul_k2 at h4_
    obtain ⟨hm14, h4_⟩ := need_some h4_
    refine yW<|yl rfl (optr 2 1 2) (LOp.fao und27 rfl siz25 rfl rfl rfl)<|yd rfl (oref 1 u4 0 L6.length) (TOp.load1_o rfl rfl agg25 rfl rfl)<|ym rfl (f32 y18)<|ye rfl (oref 3 (u5 + 1) 0 1) ([⟨1, some zMx⟩, ⟨u4, some (L6.map f32)⟩, ⟨1, some (oXc r1 r2 1 u4 L6.length)⟩, ⟨(u5 + 1), some (([y18] : List F).map f32)⟩]) (TOp.buildSlice_o (g := ⟨u5, none⟩) (za := f32 (some 0)) (qs := [(0, [f32 y18])]) 3 rfl und25 siz41 zer41 rfl zel41 rfl rfl ⟨rfl, ⟨_, ALe.refl _, rfl⟩, trivial⟩ rfl)<|ROps.app (f := f32) (xs := L6) (ys := ([y18] : List F)) (Γ' := [⟨1, some zMx⟩, ⟨(u4 + 1), some ((L6 ++ ([y18] : List F)).map f32)⟩, ⟨1, some (oXc r1 r2 1 u4 L6.length)⟩, ⟨(u5 + 1), some (([y18] : List F).map f32)⟩]) rfl pun25 inf41 rfl rfl rfl rfl rfl rfl rfl rfl rfl (by simp) (ReadAs.own rfl (by simp)) (ones_map (fun _ => rfl)) (ap_by hm14) (ap_mx hm14) rfl<|yl rfl (optr 2 1 2) (LOp.fao und27 rfl siz25 rfl rfl rfl)<|ys (oref 1 (u4 + 1) 0 (L6.length + 1)) [i64 r1, i64 r2, oref 1 (u4 + 1) 0 (L6.length + 1)] ([⟨1, some zMx⟩, ⟨(u4 + 1), some ((L6 ++ ([y18] : List F)).map f32)⟩, ⟨1, some [i64 r1, i64 r2, oref 1 (u4 + 1) 0 (L6.length + 1)]⟩, ⟨(u5 + 1), some (([y18] : List F).map f32)⟩]) siz25<|zN ?_
    refine RunC.wl (τ' := [(0, ptr (mXc a0 a1 a2)), (1, ptr (mXc a3 a4 a5)), (4, optr 0 1 0), (5, optr 2 1 0), (6, i64 v7)]) (Γ' := [⟨1, some zMx⟩, ⟨(u4 + 1), some ((L6 ++ ([y18] : List F)).map f32)⟩, ⟨1, some [i64 r1, i64 r2, oref 1 (u4 + 1) 0 (L6.length + 1)]⟩, ⟨(u5 + 1), none⟩]) ⟨aR, aR, aR, aR, aR, trivial⟩ ⟨⟨rfl, .inr rfl⟩, ⟨rfl, .inr rfl⟩, ⟨rfl, .inr rfl⟩, ⟨rfl, .inl rfl⟩, trivial⟩ ?_
    obtain ⟨x19, hx15, h4_⟩ := oL h4_
    refine yW<|ym rfl (i64 v7)<|yl rfl (i64 x19) (LOp.eqr (LOp.add rfl rfl rfl) (congrArg (ik .i64) hx15))<|ya rfl (i64 x19)<|zN ?_
    cases oI h4_
    exact ⟨_, rfl, (u4 + 1), (u5 + 1), ⟨aR, aR, aR, aR, aR, trivial⟩, ⟨⟨rfl, .inr rfl⟩, ⟨rfl, .inr rfl⟩, ⟨rfl, .inr (by first | rfl | simp)⟩, ⟨rfl, .inl rfl⟩, trivial⟩⟩
  ·refine RunC.region_draw (Γ' := [⟨1, some zMx⟩, ⟨u4, some (L6.map f32)⟩, ⟨1, some (oXc r1 r2 1 u4 L6.length)⟩, ⟨u5, none⟩]) 11 mixed 
    (tm rfl (i64 v7) <|
    (tm rfl (ptr (mXc a0 a1 a2)) <|
    (tl rfl (ptr (mXc a0 a1 a2)) (LOp.nilCheck_ptr rfl rfl) <|
    (tl rfl (ptr (mXc a0 a1 a2)) (LOp.fap und27 rfl siz2 rfl rfl rfl) <|
    (tl rfl (i64 a0) (y2 agg2) <|
    (tm rfl (ptr (mXc a3 a4 a5)) <|
    (tl rfl (ptr (mXc a3 a4 a5)) (LOp.nilCheck_ptr rfl rfl) <|
    (tl rfl (ptr [i64 a4, (sFc a5)]) (LOp.fap und27 rfl siz2 rfl rfl rfl) <|
    (tl rfl (i64 a4) (y2 agg2) <|
    (tl rfl (i64 x8) (LOp.eqr (LOp.mul rfl rfl rfl) (congrArg (ik .i64) hx2)) <|
    (tl rfl (b false) (LOp.eqb (LOp.lss rfl rfl rfl) hc3) <|
    TR.nil))))))))))) rfl (by kernel_rfl) rfl fills_nil rfl ?_
   iterate 11 refine ROps.dropS ?_
   refine ROps.drop0<|zN ?_
   refine yF<|RunC.exit ?_
   cases oI h4_
   have hx := ho4 _ rfl
   exact ⟨L6, u4, u5, ⟨aR, aR, trivial⟩, ⟨⟨rfl, .inr rfl⟩, ⟨rfl, .inr rfl⟩, ⟨rfl, .inr (by first | rfl | simp)⟩, ⟨rfl, .inl rfl⟩, trivial⟩, hx⟩
 ·rintro τ7 Γ7 ⟨L22, u20, u21, hw7, hd7, rfl⟩
  refine RunC.wl hw7 hd7 ?_
  replace h : s_l02Mul_k3 r1 r2 L22 = some (q0, q1, q2) := h
  unfold s_l02Mul_k3 at h
  refine zQ<|yd rfl (agg (oXc r1 r2 1 u20 L22.length)) (TOp.loadAgg_o rfl agg27 siz27 rfl rfl rfl rfl)<|ys (agg (oXc r1 r2 1 u20 L22.length)) (oXc r1 r2 1 u20 L22.length) [⟨1, some (oXc r1 r2 1 u20 L22.length)⟩, ⟨u20, some (L22.map f32)⟩, ⟨1, some (oXc r1 r2 1 u20 L22.length)⟩, ⟨u21, none⟩] siz27<|zN ?_
  refine RunC.ret ?_
  have hq := oI h
  obtain ⟨hq0, hq⟩ := Prod.mk.inj hq
  obtain ⟨hq1, hq⟩ := Prod.mk.inj hq
  subst q0
  subst q1
  subst q2
  exact bodyQ.mk (r' := agg (oXc r1 r2 1 u20 L22.length)) [(1, u20)] (.inr rfl) rfl (ndB_ok rfl) (by simp [ren, rens, sigma]) rfl (Res.one rfl (RV.cell agg27 siz27 rfl rfl rfl rfl)) (SelL.arr0 (f := f32) (fun _ => rfl) rfl trivial)
def s_l02Give_02o (a0 : Int) (a1 : Int) (a2 : List F) : Option ((Int × Int × Bool × (List F)) ⊕ (Int × Int × Bool × (List F) × (List F))) :=
 obind (s_l02Is a0 a1 a2) fun (r1 : Bool) =>
 bsel r1 (
  some (Sum.inl (a0, a1, true, a2))) (
  some (Sum.inr (0, 0, false, a2, ([] : List F))))
theorem s_l02Give_02o_ok0 (a0 : Int) (a1 : Int) (a2 : List F) (q0 : Int) (q1 : Int) (q2 : Bool) (q3 : List F) (h : s_l02Give_02o a0 a1 a2 = some (Sum.inl (q0, q1, q2, q3))) : Ev Tryz.prog 57 [agg (oXc a0 a1 0 0 a2.length)] [⟨0, some (a2.map f32)⟩] (tup [agg (oXc q0 q1 0 0 q3.length), b q2]) [⟨0, some (q3.map f32)⟩] := by
 refine Ev.start Tryz.func57 rfl rfl 2 (τ := [(0, agg (oXc a0 a1 0 0 a2.length))]) rfl (Γ' := [⟨0, some (a2.map f32)⟩, ⟨0, none⟩, ⟨0, none⟩]) rfl (n := 16) rfl (g := 1) rfl (by decide) ?_
 unfold s_l02Give_02o at h
 refine zQ<|yd rfl (ptr (oXc a0 a1 0 0 a2.length)) (TOp.box_s rfl rfl rfl)<|ye rfl (optr 1 1 0) [⟨0, some (a2.map f32)⟩, ⟨1, some zMx⟩, ⟨0, none⟩] (TOp.alloc_o (g := ⟨0, none⟩) 1 rfl zer27 zok27 rfl)<|ya rfl (b false)<|zN ?_
 refine yS<|yS ?_
 obtain ⟨r1, hf1, h⟩ := oS h
 rcases oB h with ⟨hc2, h⟩ | ⟨hc2, h⟩
 ·refine yW<|yd rfl (b true) (TOp.eqb (TOp.callB (CallAs.func ent59 rfl rfl) (Bors.cons (Bor.ptr (bP (bP (Bors.cons (Bor.own (f := f32) (fun _ => rfl) rfl rfl) bN)))) bN) rfl rfl (s_l02Is_ok a0 a1 a2 r1 hf1)) hc2)<|yl rfl (b false) y1<|zN ?_
  refine yF<|RunC.skip<|zQ<|yl rfl (agg (oXc a0 a1 0 0 a2.length)) (yL agg27 siz27)<|ys (agg (oXc a0 a1 0 0 a2.length)) (oXc a0 a1 0 0 a2.length) [⟨0, some (a2.map f32)⟩, ⟨1, some (oXc a0 a1 0 0 a2.length)⟩, ⟨0, none⟩] siz27<|ya rfl (b true)<|zN ?_
  refine RunC.ret ?_
  have hq := oI h
  have hq := Sum.inl.inj hq
  obtain ⟨hq0, hq⟩ := Prod.mk.inj hq
  obtain ⟨hq1, hq⟩ := Prod.mk.inj hq
  obtain ⟨hq2, hq⟩ := Prod.mk.inj hq
  subst q0
  subst q1
  subst q2
  subst q3
  exact yB (tup [agg (oXc a0 a1 0 0 a2.length), b true]) [(0, 0)] (Res.two rfl (RV.cell agg27 siz27 rfl rfl rfl rfl) (RV.tmp rfl)) (SelL.arr (f := f32) (fun _ => rfl) rfl trivial)
 ·refine yW<|yd rfl (b false) (TOp.eqb (TOp.callB (CallAs.func ent59 rfl rfl) (Bors.cons (Bor.ptr (bP (bP (Bors.cons (Bor.own (f := f32) (fun _ => rfl) rfl rfl) bN)))) bN) rfl rfl (s_l02Is_ok a0 a1 a2 r1 hf1)) hc2)<|yl rfl (b true) y0<|zN ?_
  refine yT<|zQ<|yl rfl (agg zMx) (LOp.build (qs := []) zer27 zok27 und27 plc27 rfl trivial rfl)<|ys (agg zMx) zMx [⟨0, some (a2.map f32)⟩, ⟨1, some zMx⟩, ⟨0, none⟩] siz27<|ya rfl (b false)<|zN ?_
  cases oI h
theorem s_l02Give_02o_ok1 (a0 : Int) (a1 : Int) (a2 : List F) (q0 : Int) (q1 : Int) (q2 : Bool) (q3 : List F) (q4 : List F) (h : s_l02Give_02o a0 a1 a2 = some (Sum.inr (q0, q1, q2, q3, q4))) : Ev Tryz.prog 57 [agg (oXc a0 a1 0 0 a2.length)] [⟨0, some (a2.map f32)⟩] (tup [agg (oXc q0 q1 1 0 q4.length), b q2]) [⟨0, some (q3.map f32)⟩, ⟨0, some (q4.map f32)⟩] := by
 refine Ev.start Tryz.func57 rfl rfl 2 (τ := [(0, agg (oXc a0 a1 0 0 a2.length))]) rfl (Γ' := [⟨0, some (a2.map f32)⟩, ⟨0, none⟩, ⟨0, none⟩]) rfl (n := 16) rfl (g := 1) rfl (by decide) ?_
 unfold s_l02Give_02o at h
 refine zQ<|yd rfl (ptr (oXc a0 a1 0 0 a2.length)) (TOp.box_s rfl rfl rfl)<|ye rfl (optr 1 1 0) [⟨0, some (a2.map f32)⟩, ⟨1, some zMx⟩, ⟨0, none⟩] (TOp.alloc_o (g := ⟨0, none⟩) 1 rfl zer27 zok27 rfl)<|ya rfl (b false)<|zN ?_
 refine yS<|yS ?_
 obtain ⟨r1, hf1, h⟩ := oS h
 rcases oB h with ⟨hc2, h⟩ | ⟨hc2, h⟩
 ·refine yW<|yd rfl (b true) (TOp.eqb (TOp.callB (CallAs.func ent59 rfl rfl) (Bors.cons (Bor.ptr (bP (bP (Bors.cons (Bor.own (f := f32) (fun _ => rfl) rfl rfl) bN)))) bN) rfl rfl (s_l02Is_ok a0 a1 a2 r1 hf1)) hc2)<|yl rfl (b false) y1<|zN ?_
  refine yF<|RunC.skip<|zQ<|yl rfl (agg (oXc a0 a1 0 0 a2.length)) (yL agg27 siz27)<|ys (agg (oXc a0 a1 0 0 a2.length)) (oXc a0 a1 0 0 a2.length) [⟨0, some (a2.map f32)⟩, ⟨1, some (oXc a0 a1 0 0 a2.length)⟩, ⟨0, none⟩] siz27<|ya rfl (b true)<|zN ?_
  cases oI h
 ·refine yW<|yd rfl (b false) (TOp.eqb (TOp.callB (CallAs.func ent59 rfl rfl) (Bors.cons (Bor.ptr (bP (bP (Bors.cons (Bor.own (f := f32) (fun _ => rfl) rfl rfl) bN)))) bN) rfl rfl (s_l02Is_ok a0 a1 a2 r1 hf1)) hc2)<|yl rfl (b true) y0<|zN ?_
  refine yT<|zQ<|yl rfl (agg zMx) (LOp.build (qs := []) zer27 zok27 und27 plc27 rfl trivial rfl)<|ys (agg zMx) zMx [⟨0, some (a2.map f32)⟩, ⟨1, some zMx⟩, ⟨0, none⟩] siz27<|ya rfl (b false)<|zN ?_
  refine RunC.nil_cell (l' := [i64 0, i64 0, oref 2 1 0 0]) (Γ' := [⟨0, some (a2.map f32)⟩, ⟨1, some [i64 0, i64 0, oref 2 1 0 0]⟩, ⟨1, some (([] : List F).map f32)⟩]) 1 2 2 rfl rfl rfl rfl rfl<|RunC.ret ?_
  have hq := oI h
  have hq := Sum.inr.inj hq
  obtain ⟨hq0, hq⟩ := Prod.mk.inj hq
  obtain ⟨hq1, hq⟩ := Prod.mk.inj hq
  obtain ⟨hq2, hq⟩ := Prod.mk.inj hq
  obtain ⟨hq3, hq⟩ := Prod.mk.inj hq
  subst q0
  subst q1
  subst q2
  subst q3
  subst q4
  exact yB (tup [agg [i64 0, i64 0, oref 2 1 0 (([] : List F).length)], b false]) [(0, 0), (2, 1)] (Res.eq (Res.two rfl (RV.cell agg27 siz27 rfl rfl rfl rfl) (RV.tmp rfl)) (by rw [(show ([] : List F).length = 0 from rfl)] <;> rfl)) (SelL.arr (f := f32) (fun _ => rfl) rfl (SelL.arr0 (f := f32) (fun _ => rfl) rfl trivial))
def s_MulMatrices (a0 : Int) (a1 : Int) (a2 : List F) (a3 : Int) (a4 : Int) (a5 : List F) : Option (Int × Int × Bool × (List F)) :=
 obind (s_l02Fit a0 a1 a2 a3 a4 a5) fun (r1 : Bool) =>
 bsel r1 (
  obind3 (s_l02Mul a0 a1 a2 a3 a4 a5) fun (r2 : Int) (r3 : Int) (r4 : List F) =>
  obind (s_l02Give_02o r2 r3 r4) (fun z => osum z (fun y => obind4 (some y) fun (r5 : Int) (r6 : Int) (r7 : Bool) (r8 : List F) =>
   need (decide (r8.length = r4.length)) <|
   some (r5, r6, r7, r8)) (fun y => obind5 (some y) fun (r9 : Int) (r10 : Int) (r11 : Bool) (r12 : List F) (r13 : List F) =>
   need (decide (r12.length = r4.length)) <|
   some (r9, r10, r11, r13)))) (
  some (0, 0, false, ([] : List F)))
theorem s_MulMatrices_ok (a0 : Int) (a1 : Int) (a2 : List F) (a3 : Int) (a4 : Int) (a5 : List F) (q0 : Int) (q1 : Int) (q2 : Bool) (q3 : List F) (h : s_MulMatrices a0 a1 a2 a3 a4 a5 = some (q0, q1, q2, q3)) : Ev Tryz.prog 15 [agg (mXc a0 a1 a2), agg (mXc a3 a4 a5)] [] (tup [agg (oXc q0 q1 0 0 q3.length), b q2]) [⟨0, some (q3.map f32)⟩] := by
 refine yE Tryz.func15 3 27 0 [(0, agg (mXc a0 a1 a2)), (1, agg (mXc a3 a4 a5))] [⟨0, none⟩, ⟨0, none⟩, ⟨0, none⟩] rfl ?_
 unfold s_MulMatrices at h
 refine zQ<|yd rfl (ptr (mXc a0 a1 a2)) (TOp.box_s rfl rfl rfl)<|yd rfl (ptr (mXc a3 a4 a5)) (TOp.box_s rfl rfl rfl)<|ye rfl (optr 0 1 0) [⟨1, some zMx⟩, ⟨0, none⟩, ⟨0, none⟩] (TOp.alloc_o (g := ⟨0, none⟩) 0 rfl zer27 zok27 rfl)<|ya rfl (b false)<|zN ?_
 refine yS<|yS ?_
 obtain ⟨r1, hf1, h⟩ := oS h
 rcases oB h with ⟨hc2, h⟩ | ⟨hc2, h⟩
 ·refine yW<|yd rfl (b true) (TOp.eqb (TOp.callB (CallAs.func ent56 rfl rfl) (Bors.cons (Bor.ptr (bP (bP (bS bN)))) (Bors.cons (Bor.ptr (bP (bP (bS bN)))) bN)) rfl rfl (s_l02Fit_ok a0 a1 a2 a3 a4 a5 r1 hf1)) hc2)<|yl rfl (b false) y1<|zN ?_
  refine yF<|RunC.skip<|yS ?_
  obtain ⟨r2, r3, r4, hf3, h⟩ := obind3_some h
  obtain ⟨z1, hf4, h⟩ := oS h
  rcases z1 with z1 | z1
  ·replace h := (osum_inl _ _ _).symm.trans h
   obtain ⟨r5, r6, r7, r8, hz2, h⟩ := obind4_some h
   cases hz2
   obtain ⟨hn5, h⟩ := need_some h
   refine yW<|ye rfl (agg (oXc r2 r3 1 1 r4.length)) [⟨1, some zMx⟩, ⟨1, some (r4.map f32)⟩, ⟨0, none⟩] (TOp.callBN (ls := [(r4.map f32)]) [1] (CallAs.func ent58 rfl rfl) (Bors.cons (Bor.ptr (bP (bP (bS bN)))) (Bors.cons (Bor.ptr (bP (bP (bS bN)))) bN)) rfl (s_l02Mul_ok a0 a1 a2 a3 a4 a5 r2 r3 r4 hf3) (and_all (lts0_map (f := f32) (fun _ => rfl) _) rfl) (and_all (noss_map (f := f32) (fun _ => rfl) _) rfl) rfl (by decide) (ns_of ⟨⟨_, rfl⟩, trivial⟩))<|ROps.callO (A := [agg (oXc r2 r3 1 1 r4.length)]) (args := [agg (oXc r2 r3 0 0 r4.length)]) (Γc := [⟨0, some (r4.map f32)⟩]) (Γc' := [⟨0, some (r8.map f32)⟩]) (r' := tup [agg (oXc r5 r6 1 1 r4.length), b r7]) (Γ' := [⟨1, some zMx⟩, ⟨1, some (r8.map f32)⟩, ⟨0, none⟩]) [(1, 1)] [] rfl (CallAs.func ent57 rfl rfl) rfl rfl (SelOk.of (ndB_ok rfl) (SelL.arr0 (f := f32) (fun _ => rfl) rfl trivial)) (live_of ⟨⟨_, _, rfl⟩, trivial⟩) (by simp [ren, rens, sigma, rens_f32, rens_f64, rens_i64, rens_ik, rens_str, rens_cp]) rfl (s_l02Give_02o_ok0 r2 r3 r4 r5 r6 r7 r8 hf4) rfl (news_of trivial) (ndB_ok rfl) (by simp [ren, rens, sigma, of_decide_eq_true hn5]) (by simp [backOb, sigma, ren, rens, rens_f32, rens_f64, rens_i64, rens_ik, rens_str, rens_cp])<|yl rfl (agg (oXc r5 r6 1 1 r4.length)) y3<|yl rfl (b r7) y3<|ys (agg (oXc r5 r6 1 1 r4.length)) (oXc r5 r6 1 1 r4.length) [⟨1, some (oXc r5 r6 1 1 r4.length)⟩, ⟨1, some (r8.map f32)⟩, ⟨0, none⟩] siz27<|ya rfl (b r7)<|zN ?_
   refine RunC.ret ?_
   have hq := oI h
   obtain ⟨hq0, hq⟩ := Prod.mk.inj hq
   obtain ⟨hq1, hq⟩ := Prod.mk.inj hq
   obtain ⟨hq2, hq⟩ := Prod.mk.inj hq
   subst q0
   subst q1
   subst q2
   subst q3
   exact yB (tup [agg (oXc r5 r6 1 1 r8.length), b r7]) [(1, 1)] (Res.eq (Res.two rfl (RV.cell agg27 siz27 rfl rfl rfl rfl) (RV.tmp rfl)) (by rw [(show r8.length = r4.length from (of_decide_eq_true hn5))] <;> rfl)) (SelL.arr0 (f := f32) (fun _ => rfl) rfl trivial)
  ·replace h := (osum_inr _ _ _).symm.trans h
   obtain ⟨r9, r10, r11, r12, r13, hz3, h⟩ := obind5_some h
   cases hz3
   obtain ⟨hn6, h⟩ := need_some h
   refine yW<|ye rfl (agg (oXc r2 r3 1 1 r4.length)) [⟨1, some zMx⟩, ⟨1, some (r4.map f32)⟩, ⟨0, none⟩] (TOp.callBN (ls := [(r4.map f32)]) [1] (CallAs.func ent58 rfl rfl) (Bors.cons (Bor.ptr (bP (bP (bS bN)))) (Bors.cons (Bor.ptr (bP (bP (bS bN)))) bN)) rfl (s_l02Mul_ok a0 a1 a2 a3 a4 a5 r2 r3 r4 hf3) (and_all (lts0_map (f := f32) (fun _ => rfl) _) rfl) (and_all (noss_map (f := f32) (fun _ => rfl) _) rfl) rfl (by decide) (ns_of ⟨⟨_, rfl⟩, trivial⟩))<|ROps.callO (A := [agg (oXc r2 r3 1 1 r4.length)]) (args := [agg (oXc r2 r3 0 0 r4.length)]) (Γc := [⟨0, some (r4.map f32)⟩]) (Γc' := [⟨0, some (r12.map f32)⟩, ⟨0, some (r13.map f32)⟩]) (r' := tup [agg (oXc r9 r10 2 1 r13.length), b r11]) (Γ' := [⟨1, some zMx⟩, ⟨1, some (r12.map f32)⟩, ⟨1, some (r13.map f32)⟩]) [(1, 1)] [(2, 1)] rfl (CallAs.func ent57 rfl rfl) rfl rfl (SelOk.of (ndB_ok rfl) (SelL.arr0 (f := f32) (fun _ => rfl) rfl trivial)) (live_of ⟨⟨_, _, rfl⟩, trivial⟩) (by simp [ren, rens, sigma, rens_f32, rens_f64, rens_i64, rens_ik, rens_str, rens_cp]) rfl (s_l02Give_02o_ok1 r2 r3 r4 r9 r10 r11 r12 r13 hf4) rfl (news_of ⟨⟨_, rfl, rfl⟩, trivial⟩) (show List.Nodup [1, 2] from by decide) (by simp [ren, rens, sigma, of_decide_eq_true hn6]) (by simp [backOb, sigma, ren, rens, rens_f32, rens_f64, rens_i64, rens_ik, rens_str, rens_cp])<|yl rfl (agg (oXc r9 r10 2 1 r13.length)) y3<|yl rfl (b r11) y3<|ys (agg (oXc r9 r10 2 1 r13.length)) (oXc r9 r10 2 1 r13.length) [⟨1, some (oXc r9 r10 2 1 r13.length)⟩, ⟨1, some (r12.map f32)⟩, ⟨1, some (r13.map f32)⟩] siz27<|ya rfl (b r11)<|zN ?_
   refine RunC.ret ?_
   have hq := oI h
   obtain ⟨hq0, hq⟩ := Prod.mk.inj hq
   obtain ⟨hq1, hq⟩ := Prod.mk.inj hq
   obtain ⟨hq2, hq⟩ := Prod.mk.inj hq
   subst q0
   subst q1
   subst q2
   subst q3
   exact yB (tup [agg (oXc r9 r10 2 1 r13.length), b r11]) [(2, 1)] (Res.two rfl (RV.cell agg27 siz27 rfl rfl rfl rfl) (RV.tmp rfl)) (SelL.arr0 (f := f32) (fun _ => rfl) rfl trivial)
 ·refine yW<|yd rfl (b false) (TOp.eqb (TOp.callB (CallAs.func ent56 rfl rfl) (Bors.cons (Bor.ptr (bP (bP (bS bN)))) (Bors.cons (Bor.ptr (bP (bP (bS bN)))) bN)) rfl rfl (s_l02Fit_ok a0 a1 a2 a3 a4 a5 r1 hf1)) hc2)<|yl rfl (b true) y0<|zN ?_
  refine yT<|zQ<|yl rfl (agg zMx) (LOp.build (qs := []) zer27 zok27 und27 plc27 rfl trivial rfl)<|ys (agg zMx) zMx [⟨1, some zMx⟩, ⟨0, none⟩, ⟨0, none⟩] siz27<|ya rfl (b false)<|zN ?_
  refine RunC.nil_cell (l' := [i64 0, i64 0, oref 1 1 0 0]) (Γ' := [⟨1, some [i64 0, i64 0, oref 1 1 0 0]⟩, ⟨1, some (([] : List F).map f32)⟩, ⟨0, none⟩]) 0 2 1 rfl rfl rfl rfl rfl<|RunC.ret ?_
  have hq := oI h
  obtain ⟨hq0, hq⟩ := Prod.mk.inj hq
  obtain ⟨hq1, hq⟩ := Prod.mk.inj hq
  obtain ⟨hq2, hq⟩ := Prod.mk.inj hq
  subst q0
  subst q1
  subst q2
  subst q3
  exact yB (tup [agg [i64 0, i64 0, oref 1 1 0 (([] : List F).length)], b false]) [(1, 1)] (Res.eq (Res.two rfl (RV.cell agg27 siz27 rfl rfl rfl rfl) (RV.tmp rfl)) (by rw [(show ([] : List F).length = 0 from rfl)] <;> rfl)) (SelL.arr0 (f := f32) (fun _ => rfl) rfl trivial)
def s_OrderRows_b1 (a1 : Int) (a2 : List F) (a3 : List Int) (L7 : List F) (v8 : Int) : Option (LR ((List F) × Int) ((List F)) (Int × Int × Bool × (List F))) :=
 bsel (decide (v8 < (a3.length : Int))) (
  obind (at? a3 v8) fun (e9 : Int) =>
  olet (IntKind.i64.wrap (e9 * a1)) fun (x10 : Int) =>
  obind (at? a3 v8) fun (e11 : Int) =>
  olet (IntKind.i64.wrap (e11 + 1)) fun (x12 : Int) =>
  olet (IntKind.i64.wrap (x12 * a1)) fun (x13 : Int) =>
  obind (sub? a2 x10 x13) fun (l14 : List F) =>
  need (apok 4 L7.length l14.length) <|
  olet (IntKind.i64.wrap (v8 + 1)) fun (x15 : Int) =>
  some (LR.next ((L7 ++ l14), x15))) (
  some (LR.out L7))
def s_OrderRows_s1 (a1 : Int) (a2 : List F) (a3 : List Int) : ((List F) × Int) → Option (LR ((List F) × Int) ((List F)) (Int × Int × Bool × (List F))) := fun s => s_OrderRows_b1 a1 a2 a3 s.1 s.2
def s_OrderRows_k1 (r3 : Int) (r4 : Int) (L17 : List F) : Option (Int × Int × Bool × (List F)) :=
 some (r3, r4, true, L17)
def s_OrderRows (a0 : Int) (a1 : Int) (a2 : List F) (a3 : List Int) : Option (Int × Int × Bool × (List F)) :=
 obind (s_l02Is a0 a1 a2) fun (r1 : Bool) =>
 bsel r1 (
  obind (s_l02Order a3) fun (r2 : Bool) =>
  bsel r2 (
   bsel (!decide ((a3.length : Int) = a0)) (
    some (0, 0, false, ([] : List F))) (
    obind3 (s_l02Blank a0 a1) fun (r3 : Int) (r4 : Int) (r5 : List F) =>
    obind (loopM (s_OrderRows_s1 a1 a2 a3) (r5, 0)) fun z => osum z (fun e => s_OrderRows_k1 r3 r4 e) (fun r => some r))) (
   some (0, 0, false, ([] : List F)))) (
  some (0, 0, false, ([] : List F)))
theorem s_OrderRows_ok (a0 : Int) (a1 : Int) (a2 : List F) (a3 : List Int) (q0 : Int) (q1 : Int) (q2 : Bool) (q3 : List F) (h : s_OrderRows a0 a1 a2 a3 = some (q0, q1, q2, q3)) : Ev Tryz.prog 16 [agg (mXc a0 a1 a2), sl a3.length (a3.map i64)] [] (tup [agg (oXc q0 q1 0 0 q3.length), b q2]) [⟨0, some (q3.map f32)⟩] := by
 refine yE Tryz.func16 3 115 0 [(0, agg (mXc a0 a1 a2)), (1, sl a3.length (a3.map i64))] [⟨0, none⟩, ⟨0, none⟩, ⟨0, none⟩] rfl ?_
 unfold s_OrderRows at h
 refine zQ<|yd rfl (ptr (mXc a0 a1 a2)) (TOp.box_s rfl rfl rfl)<|ye rfl (optr 0 1 0) [⟨1, some zMx⟩, ⟨0, none⟩, ⟨0, none⟩] (TOp.alloc_o (g := ⟨0, none⟩) 0 rfl zer27 zok27 rfl)<|ya rfl (b false)<|zN ?_
 refine yS<|yS ?_
 obtain ⟨r1, hf1, h⟩ := oS h
 rcases oB h with ⟨hc2, h⟩ | ⟨hc2, h⟩
 ·obtain ⟨r2, hf3, h⟩ := oS h
  rcases oB h with ⟨hc4, h⟩ | ⟨hc4, h⟩
  ·rcases oB h with ⟨hc5, h⟩ | ⟨hc5, h⟩
   ·refine yW<|yd rfl (b true) (TOp.eqb (TOp.callB (CallAs.func ent59 rfl rfl) (Bors.cons (Bor.ptr (bP (bP (bS bN)))) bN) rfl rfl (s_l02Is_ok a0 a1 a2 r1 hf1)) hc2)<|yl rfl (b false) y1<|ym rfl (b false)<|ym rfl (sl a3.length (a3.map i64))<|yd rfl (b true) (TOp.eqb (yc ent60 rfl rfl (bS bN) (s_l02Order_ok a3 r2 hf3)) hc4)<|yl rfl (b false) y1<|yl rfl (b false) yp<|ym rfl (b false)<|ym rfl (sl a3.length (a3.map i64))<|yl rfl (i64 (a3.length : Int)) (LOp.len_sl und30 rfl rfl)<|yl rfl (ptr (mXc a0 a1 a2)) (LOp.fap und27 rfl siz2 rfl rfl rfl)<|yl rfl (i64 a0) (y2 agg2)<|yl rfl (b true) (LOp.eqb (LOp.neq rfl rfl rfl) hc5)<|yl rfl (b true) yp<|zN ?_
    refine RunC.wl (τ' := [(1, sl a3.length (a3.map i64)), (2, ptr (mXc a0 a1 a2)), (4, optr 0 1 0), (21, b true)]) (Γ' := [⟨1, some zMx⟩, ⟨0, none⟩, ⟨0, none⟩]) ⟨aR, aR, aR, aR, trivial⟩ ⟨⟨rfl, .inr rfl⟩, ⟨rfl, .inr rfl⟩, ⟨rfl, .inr rfl⟩, trivial⟩<|yT<|zQ<|yl rfl (agg zMx) (LOp.build (qs := []) zer27 zok27 und27 plc27 rfl trivial rfl)<|ys (agg zMx) zMx [⟨1, some zMx⟩, ⟨0, none⟩, ⟨0, none⟩] siz27<|ya rfl (b false)<|zN ?_
    refine RunC.nil_cell (l' := [i64 0, i64 0, oref 1 1 0 0]) (Γ' := [⟨1, some [i64 0, i64 0, oref 1 1 0 0]⟩, ⟨1, some (([] : List F).map f32)⟩, ⟨0, none⟩]) 0 2 1 rfl rfl rfl rfl rfl<|RunC.ret ?_
    have hq := oI h
    obtain ⟨hq0, hq⟩ := Prod.mk.inj hq
    obtain ⟨hq1, hq⟩ := Prod.mk.inj hq
    obtain ⟨hq2, hq⟩ := Prod.mk.inj hq
    subst q0
    subst q1
    subst q2
    subst q3
    exact yB (tup [agg [i64 0, i64 0, oref 1 1 0 (([] : List F).length)], b false]) [(1, 1)] (Res.eq (Res.two rfl (RV.cell agg27 siz27 rfl rfl rfl rfl) (RV.tmp rfl)) (by rw [(show ([] : List F).length = 0 from rfl)] <;> rfl)) (SelL.arr0 (f := f32) (fun _ => rfl) rfl trivial)
   ·refine yW<|yd rfl (b true) (TOp.eqb (TOp.callB (CallAs.func ent59 rfl rfl) (Bors.cons (Bor.ptr (bP (bP (bS bN)))) bN) rfl rfl (s_l02Is_ok a0 a1 a2 r1 hf1)) hc2)<|yl rfl (b false) y1<|ym rfl (b false)<|ym rfl (sl a3.length (a3.map i64))<|yd rfl (b true) (TOp.eqb (yc ent60 rfl rfl (bS bN) (s_l02Order_ok a3 r2 hf3)) hc4)<|yl rfl (b false) y1<|yl rfl (b false) yp<|ym rfl (b false)<|ym rfl (sl a3.length (a3.map i64))<|yl rfl (i64 (a3.length : Int)) (LOp.len_sl und30 rfl rfl)<|yl rfl (ptr (mXc a0 a1 a2)) (LOp.fap und27 rfl siz2 rfl rfl rfl)<|yl rfl (i64 a0) (y2 agg2)<|yl rfl (b false) (LOp.eqb (LOp.neq rfl rfl rfl) hc5)<|yl rfl (b false) yp<|zN ?_
    refine RunC.wl (τ' := [(1, sl a3.length (a3.map i64)), (2, ptr (mXc a0 a1 a2)), (4, optr 0 1 0), (21, b false)]) (Γ' := [⟨1, some zMx⟩, ⟨0, none⟩, ⟨0, none⟩]) ⟨aR, aR, aR, aR, trivial⟩ ⟨⟨rfl, .inr rfl⟩, ⟨rfl, .inr rfl⟩, ⟨rfl, .inr rfl⟩, trivial⟩<|yF<|RunC.skip<|yS ?_
    obtain ⟨r3, r4, r5, hf6, h⟩ := obind3_some h
    refine yW<|yl rfl (ptr (mXc a0 a1 a2)) (LOp.fap und27 rfl siz2 rfl rfl rfl)<|yl rfl (i64 a0) (y2 agg2)<|yl rfl (ptr [i64 a1, (sFc a2)]) (LOp.fap und27 rfl siz2 rfl rfl rfl)<|yl rfl (i64 a1) (y2 agg2)<|ye rfl (agg (oXc r3 r4 1 1 r5.length)) [⟨1, some zMx⟩, ⟨1, some (r5.map f32)⟩, ⟨0, none⟩] (TOp.callBN (ls := [(r5.map f32)]) [1] (CallAs.func ent35 rfl rfl) (bP bN0) rfl (s_l02Blank_ok a0 a1 r3 r4 r5 hf6) (and_all (lts0_map (f := f32) (fun _ => rfl) _) rfl) (and_all (noss_map (f := f32) (fun _ => rfl) _) rfl) rfl (by decide) (ns_of ⟨⟨_, rfl⟩, trivial⟩))<|ye rfl (optr 2 1 0) [⟨1, some zMx⟩, ⟨1, some (r5.map f32)⟩, ⟨1, some zMx⟩] (TOp.alloc_o (g := ⟨0, none⟩) 2 rfl zer27 zok27 rfl)<|ys (agg (oXc r3 r4 1 1 r5.length)) (oXc r3 r4 1 1 r5.length) [⟨1, some zMx⟩, ⟨1, some (r5.map f32)⟩, ⟨1, some (oXc r3 r4 1 1 r5.length)⟩] siz27<|zN ?_
    refine yS<|zQ<|ya rfl (i64 0)<|zN ?_
    obtain ⟨z2, hz_2, h⟩ := oS h
    refine RunC.cutN (fun τ Γ => ∃ (L17 : List F) (u16 : Nat), WeakLe τ [(4, optr 0 1 0), (6, optr 2 1 0)] ∧ DeadLe Γ [⟨1, some zMx⟩, ⟨u16, some (L17.map f32)⟩, ⟨1, some (oXc r3 r4 1 u16 L17.length)⟩] ∧ z2 = .inl L17) ?_ ?_
    ·refine RunC.block (RunC.loop (RunL.loopM (x := z2) (s_OrderRows_s1 a1 a2 a3) (fun (s : (List F) × Int) τ Γ => ∃ (u6 : Nat), WeakLe τ [(1, sl a3.length (a3.map i64)), (2, ptr (mXc a0 a1 a2)), (4, optr 0 1 0), (6, optr 2 1 0), (7, i64 s.2)] ∧ DeadLe Γ [⟨1, some zMx⟩, ⟨u6, some (s.1.map f32)⟩, ⟨1, some [i64 r3, i64 r4, oref 1 u6 0 s.1.length]⟩]) ?_ _ _ _ hz_2 ⟨1, ⟨aR, aR, aR, aR, aR, trivial⟩, ⟨⟨rfl, .inr rfl⟩, ⟨rfl, .inr rfl⟩, ⟨rfl, .inr (by first | rfl | simp)⟩, trivial⟩⟩))
     rintro ⟨L7, v8⟩ τ2 Γ2 y2_ ⟨u6, hw2, hd2⟩ h2_ ho2 hr2
     refine RunC.wl (τ' := [(1, sl a3.length (a3.map i64)), (2, ptr (mXc a0 a1 a2)), (4, optr 0 1 0), (6, optr 2 1 0), (7, i64 v8)]) (Γ' := [⟨1, some zMx⟩, ⟨u6, some (L7.map f32)⟩, ⟨1, some (oXc r3 r4 1 u6 L7.length)⟩]) hw2 hd2 ?_
     replace h2_ : s_OrderRows_b1 a1 a2 a3 L7 v8 = some y2_ := h2_
     unfold s_OrderRows_b1 at h2_
     refine yS<|yS ?_
     rcases oB h2_ with ⟨hc7, h2_⟩ | ⟨hc7, h2_⟩
     ·refine yW<|ym rfl (i64 v8)<|ym rfl (sl a3.length (a3.map i64))<|yl rfl (i64 (a3.length : Int)) (LOp.len_sl und30 rfl rfl)<|yl rfl (b true) (LOp.eqb (LOp.lss rfl rfl rfl) hc7)<|zN ?_
      refine yT<|RunC.skip<|yS<|RunC.block ?_
      obtain ⟨e9, he8, h2_⟩ := oS h2_
      obtain ⟨x10, hx9, h2_⟩ := oL h2_
      obtain ⟨e11, he10, h2_⟩ := oS h2_
      obtain ⟨x12, hx11, h2_⟩ := oL h2_
      obtain ⟨x13, hx12, h2_⟩ := oL h2_
      obtain ⟨l14, hs13, h2_⟩ := oS h2_
      obtain ⟨hm14, h2_⟩ := need_some h2_
      refine RunC.region_draw (Γ' := [⟨1, some zMx⟩, ⟨u6, some (L7.map f32)⟩, ⟨1, some (oXc r3 r4 1 u6 L7.length)⟩]) 20 mixed 
       (tl rfl (optr 2 1 2) (LOp.fao und27 rfl siz25 rfl rfl rfl) <|
       (TR.d (r := oref 1 u6 0 L7.length) (fs := []) rfl rfl (TOp.load1_o rfl rfl agg25 rfl rfl) <|
       (tl rfl (ptr [(sFc a2)]) (LOp.fap und27 rfl siz25 rfl rfl rfl) <|
       (tl rfl (sFc a2) (y2 agg25) <|
       (tm rfl (sl a3.length (a3.map i64)) <|
       (tm rfl (i64 v8) <|
       (tl rfl (ptr [i64 e9]) (LOp.le (LOp.ix (f := i64) und30 siz2 rfl rfl rfl rfl he8) ALe.ptr) <|
       (tl rfl (i64 e9) (y2 agg2) <|
       (tl rfl (ptr [i64 a1, (sFc a2)]) (LOp.fap und27 rfl siz2 rfl rfl rfl) <|
       (tl rfl (i64 a1) (y2 agg2) <|
       (tl rfl (i64 x10) (LOp.eqr (LOp.mul rfl rfl rfl) (congrArg (ik .i64) hx9)) <|
       (tm rfl (sl a3.length (a3.map i64)) <|
       (tm rfl (i64 v8) <|
       (tl rfl (ptr [i64 e11]) (LOp.le (LOp.ix (f := i64) und30 siz2 rfl rfl rfl rfl he10) ALe.ptr) <|
       (tl rfl (i64 e11) (y2 agg2) <|
       (tl rfl (i64 x12) (LOp.eqr (LOp.add rfl rfl rfl) (congrArg (ik .i64) hx11)) <|
       (tl rfl (ptr [i64 a1, (sFc a2)]) (LOp.fap und27 rfl siz2 rfl rfl rfl) <|
       (tl rfl (i64 a1) (y2 agg2) <|
       (tl rfl (i64 x13) (LOp.eqr (LOp.mul rfl rfl rfl) (congrArg (ik .i64) hx12)) <|
       (tl rfl (sFc l14) (LOp.slice_sl (f := f32) und25 siz41 rfl rfl rfl rfl rfl hs13) <|
       TR.nil)))))))))))))))))))) rfl (by kernel_rfl) rfl fills_nil rfl ?_
      iterate 20 refine ROps.dropS ?_
      refine ROps.drop0<|ROps.app (f := f32) (xs := L7) (ys := l14) (Γ' := [⟨1, some zMx⟩, ⟨(u6 + 1), some ((L7 ++ l14).map f32)⟩, ⟨1, some (oXc r3 r4 1 u6 L7.length)⟩]) rfl pun25 inf41 rfl rfl rfl rfl rfl rfl rfl rfl rfl (by simp) (ReadAs.sl (by simp)) (ones_map (fun _ => rfl)) (ap_by hm14) (ap_mx hm14) rfl<|yl rfl (optr 2 1 2) (LOp.fao und27 rfl siz25 rfl rfl rfl)<|ys (oref 1 (u6 + 1) 0 (L7.length + l14.length)) [i64 r3, i64 r4, oref 1 (u6 + 1) 0 (L7.length + l14.length)] ([⟨1, some zMx⟩, ⟨(u6 + 1), some ((L7 ++ l14).map f32)⟩, ⟨1, some [i64 r3, i64 r4, oref 1 (u6 + 1) 0 (L7.length + l14.length)]⟩]) siz25<|zN ?_
      refine RunC.wl (τ' := [(1, sl a3.length (a3.map i64)), (2, ptr (mXc a0 a1 a2)), (4, optr 0 1 0), (6, optr 2 1 0), (7, i64 v8)]) (Γ' := [⟨1, some zMx⟩, ⟨(u6 + 1), some ((L7 ++ l14).map f32)⟩, ⟨1, some [i64 r3, i64 r4, oref 1 (u6 + 1) 0 (L7.length + l14.length)]⟩]) ⟨aR, aR, aR, aR, aR, trivial⟩ ⟨⟨rfl, .inr rfl⟩, ⟨rfl, .inr rfl⟩, ⟨rfl, .inr rfl⟩, trivial⟩ ?_
      obtain ⟨x15, hx15, h2_⟩ := oL h2_
      refine yW<|ym rfl (i64 v8)<|yl rfl (i64 x15) (LOp.eqr (LOp.add rfl rfl rfl) (congrArg (ik .i64) hx15))<|ya rfl (i64 x15)<|zN ?_
      cases oI h2_
      exact ⟨_, rfl, (u6 + 1), ⟨aR, aR, aR, aR, aR, trivial⟩, ⟨⟨rfl, .inr rfl⟩, ⟨rfl, .inr rfl⟩, ⟨rfl, .inr (by first | rfl | simp)⟩, trivial⟩⟩
     ·refine yW<|ym rfl (i64 v8)<|ym rfl (sl a3.length (a3.map i64))<|yl rfl (i64 (a3.length : Int)) (LOp.len_sl und30 rfl rfl)<|yl rfl (b false) (LOp.eqb (LOp.lss rfl rfl rfl) hc7)<|zN ?_
      refine yF<|RunC.exit ?_
      cases oI h2_
      have hx := ho2 _ rfl
      exact ⟨L7, u6, ⟨aR, aR, trivial⟩, ⟨⟨rfl, .inr rfl⟩, ⟨rfl, .inr rfl⟩, ⟨rfl, .inr (by first | rfl | simp)⟩, trivial⟩, hx⟩
    ·rintro τ3 Γ3 ⟨L17, u16, hw3, hd3, rfl⟩
     refine RunC.wl hw3 hd3 ?_
     replace h : s_OrderRows_k1 r3 r4 L17 = some (q0, q1, q2, q3) := h
     unfold s_OrderRows_k1 at h
     refine zQ<|yd rfl (agg (oXc r3 r4 1 u16 L17.length)) (TOp.loadAgg_o rfl agg27 siz27 rfl rfl rfl rfl)<|ys (agg (oXc r3 r4 1 u16 L17.length)) (oXc r3 r4 1 u16 L17.length) [⟨1, some (oXc r3 r4 1 u16 L17.length)⟩, ⟨u16, some (L17.map f32)⟩, ⟨1, some (oXc r3 r4 1 u16 L17.length)⟩] siz27<|ya rfl (b true)<|zN ?_
     refine RunC.ret ?_
     have hq := oI h
     obtain ⟨hq0, hq⟩ := Prod.mk.inj hq
     obtain ⟨hq1, hq⟩ := Prod.mk.inj hq
     obtain ⟨hq2, hq⟩ := Prod.mk.inj hq
     subst q0
     subst q1
     subst q2
     subst q3
     exact bodyQ.mk (r' := tup [agg (oXc r3 r4 1 u16 L17.length), b true]) [(1, u16)] (.inr rfl) rfl (ndB_ok rfl) (by simp [ren, rens, sigma]) rfl (Res.two rfl (RV.cell agg27 siz27 rfl rfl rfl rfl) (RV.tmp rfl)) (SelL.arr0 (f := f32) (fun _ => rfl) rfl trivial)
  ·refine yW<|yd rfl (b true) (TOp.eqb (TOp.callB (CallAs.func ent59 rfl rfl) (Bors.cons (Bor.ptr (bP (bP (bS bN)))) bN) rfl rfl (s_l02Is_ok a0 a1 a2 r1 hf1)) hc2)<|yl rfl (b false) y1<|ym rfl (b false)<|ym rfl (sl a3.length (a3.map i64))<|yd rfl (b false) (TOp.eqb (yc ent60 rfl rfl (bS bN) (s_l02Order_ok a3 r2 hf3)) hc4)<|yl rfl (b true) y0<|yl rfl (b true) yp<|ym rfl (b true)<|ROps.s rfl rfl rfl<|ROps.s rfl rfl rfl<|ROps.s rfl rfl rfl<|ROps.s rfl rfl rfl<|ROps.s rfl rfl rfl<|yl rfl (b true) yq<|zN ?_
   refine RunC.wl (τ' := [(1, sl a3.length (a3.map i64)), (2, ptr (mXc a0 a1 a2)), (4, optr 0 1 0), (21, b true)]) (Γ' := [⟨1, some zMx⟩, ⟨0, none⟩, ⟨0, none⟩]) ⟨aR, aR, aR, aR, trivial⟩ ⟨⟨rfl, .inr rfl⟩, ⟨rfl, .inr rfl⟩, ⟨rfl, .inr rfl⟩, trivial⟩<|yT<|zQ<|yl rfl (agg zMx) (LOp.build (qs := []) zer27 zok27 und27 plc27 rfl trivial rfl)<|ys (agg zMx) zMx [⟨1, some zMx⟩, ⟨0, none⟩, ⟨0, none⟩] siz27<|ya rfl (b false)<|zN ?_
   refine RunC.nil_cell (l' := [i64 0, i64 0, oref 1 1 0 0]) (Γ' := [⟨1, some [i64 0, i64 0, oref 1 1 0 0]⟩, ⟨1, some (([] : List F).map f32)⟩, ⟨0, none⟩]) 0 2 1 rfl rfl rfl rfl rfl<|RunC.ret ?_
   have hq := oI h
   obtain ⟨hq0, hq⟩ := Prod.mk.inj hq
   obtain ⟨hq1, hq⟩ := Prod.mk.inj hq
   obtain ⟨hq2, hq⟩ := Prod.mk.inj hq
   subst q0
   subst q1
   subst q2
   subst q3
   exact yB (tup [agg [i64 0, i64 0, oref 1 1 0 (([] : List F).length)], b false]) [(1, 1)] (Res.eq (Res.two rfl (RV.cell agg27 siz27 rfl rfl rfl rfl) (RV.tmp rfl)) (by rw [(show ([] : List F).length = 0 from rfl)] <;> rfl)) (SelL.arr0 (f := f32) (fun _ => rfl) rfl trivial)
 ·refine yW<|yd rfl (b false) (TOp.eqb (TOp.callB (CallAs.func ent59 rfl rfl) (Bors.cons (Bor.ptr (bP (bP (bS bN)))) bN) rfl rfl (s_l02Is_ok a0 a1 a2 r1 hf1)) hc2)<|yl rfl (b true) y0<|ym rfl (b true)<|ROps.s rfl rfl rfl<|ROps.s rfl rfl rfl<|ROps.s rfl rfl rfl<|yl rfl (b true) yq<|ym rfl (b true)<|ROps.s rfl rfl rfl<|ROps.s rfl rfl rfl<|ROps.s rfl rfl rfl<|ROps.s rfl rfl rfl<|ROps.s rfl rfl rfl<|yl rfl (b true) yq<|zN ?_
  refine RunC.wl (τ' := [(1, sl a3.length (a3.map i64)), (2, ptr (mXc a0 a1 a2)), (4, optr 0 1 0), (21, b true)]) (Γ' := [⟨1, some zMx⟩, ⟨0, none⟩, ⟨0, none⟩]) ⟨aR, aR, aR, aR, trivial⟩ ⟨⟨rfl, .inr rfl⟩, ⟨rfl, .inr rfl⟩, ⟨rfl, .inr rfl⟩, trivial⟩<|yT<|zQ<|yl rfl (agg zMx) (LOp.build (qs := []) zer27 zok27 und27 plc27 rfl trivial rfl)<|ys (agg zMx) zMx [⟨1, some zMx⟩, ⟨0, none⟩, ⟨0, none⟩] siz27<|ya rfl (b false)<|zN ?_
  refine RunC.nil_cell (l' := [i64 0, i64 0, oref 1 1 0 0]) (Γ' := [⟨1, some [i64 0, i64 0, oref 1 1 0 0]⟩, ⟨1, some (([] : List F).map f32)⟩, ⟨0, none⟩]) 0 2 1 rfl rfl rfl rfl rfl<|RunC.ret ?_
  have hq := oI h
  obtain ⟨hq0, hq⟩ := Prod.mk.inj hq
  obtain ⟨hq1, hq⟩ := Prod.mk.inj hq
  obtain ⟨hq2, hq⟩ := Prod.mk.inj hq
  subst q0
  subst q1
  subst q2
  subst q3
  exact yB (tup [agg [i64 0, i64 0, oref 1 1 0 (([] : List F).length)], b false]) [(1, 1)] (Res.eq (Res.two rfl (RV.cell agg27 siz27 rfl rfl rfl rfl) (RV.tmp rfl)) (by rw [(show ([] : List F).length = 0 from rfl)] <;> rfl)) (SelL.arr0 (f := f32) (fun _ => rfl) rfl trivial)
def i_Matrix_greatest_b1 (a2 : List F) (y1 : F) (v2 : Int) : Option (LR (F × Int) (F) (F)) :=
 bsel (decide (v2 < (a2.length : Int))) (
  obind (at? a2 v2) fun (e3 : F) =>
  obind (i_absolute e3) fun (r4 : F) =>
  obind (fmaxN .f32 y1 r4) fun (y5 : F) =>
  olet (IntKind.i64.wrap (v2 + 1)) fun (x6 : Int) =>
  some (LR.next (y5, x6))) (
  some (LR.out y1))
def i_Matrix_greatest_s1 (a2 : List F) : (F × Int) → Option (LR (F × Int) (F) (F)) := fun s => i_Matrix_greatest_b1 a2 s.1 s.2
def i_Matrix_greatest_k1 (y7 : F) : Option (F) :=
 some y7
def i_Matrix_greatest (a0 : Int) (a1 : Int) (a2 : List F) : Option (F) :=
 obind (loopM (i_Matrix_greatest_s1 a2) (some 0, 0)) fun z => osum z (fun e => i_Matrix_greatest_k1 e) (fun r => some r)
theorem i_Matrix_greatest_ok (a0 : Int) (a1 : Int) (a2 : List F) (q0 : F) (h : i_Matrix_greatest a0 a1 a2 = some q0) : Ev Tryz.prog 61 [agg (mXc a0 a1 a2)] [] (f32 q0) [] := by
 refine yE Tryz.func61 0 39 0 [(0, agg (mXc a0 a1 a2))] [] rfl ?_
 unfold i_Matrix_greatest at h
 refine zQ<|yd rfl (ptr (mXc a0 a1 a2)) (TOp.box_s rfl rfl rfl)<|yl rfl (f32 (some 0)) (LOp.le (LOp.assign rfl rfl) (ALe.fl (by kernel_rfl) (by kernel_rfl)))<|zN ?_
 refine zQ<|yl rfl (f32 (some 0)) (LOp.le (LOp.assign rfl rfl) (ALe.fl (by kernel_rfl) (by kernel_rfl)))<|zN ?_
 refine yS<|zQ<|yl rfl (ptr [(sFc a2)]) (LOp.fap und27 rfl siz25 rfl rfl rfl)<|yl rfl (sFc a2) (y2 agg25)<|yl rfl (i64 (a2.length : Int)) (LOp.len_sl und25 rfl rfl)<|ym rfl (i64 0)<|zN ?_
 obtain ⟨z2, hz_2, h⟩ := oS h
 refine RunC.cutN (fun τ Γ => ∃ (y7 : F), WeakLe τ [(3, f32 y7)] ∧ DeadLe Γ [] ∧ z2 = .inl y7) ?_ ?_
 ·refine RunC.block (RunC.loop (RunL.loopM (x := z2) (i_Matrix_greatest_s1 a2) (fun (s : F × Int) τ Γ => WeakLe τ [(3, f32 s.1), (7, (sFc a2)), (8, i64 (a2.length : Int)), (9, i64 s.2)] ∧ DeadLe Γ []) ?_ _ _ _ hz_2 ⟨⟨aR, aR, aR, aR, trivial⟩, trivial⟩))
  rintro ⟨y1, v2⟩ τ2 Γ2 y2_ ⟨hw2, hd2⟩ h2_ ho2 hr2
  refine RunC.wl (τ' := [(3, f32 y1), (7, (sFc a2)), (8, i64 (a2.length : Int)), (9, i64 v2)]) (Γ' := []) hw2 hd2 ?_
  replace h2_ : i_Matrix_greatest_b1 a2 y1 v2 = some y2_ := h2_
  unfold i_Matrix_greatest_b1 at h2_
  refine yS ?_
  rcases oB h2_ with ⟨hc1, h2_⟩ | ⟨hc1, h2_⟩
  ·refine yW<|yl rfl (b true) (LOp.eqb (LOp.lss rfl rfl rfl) hc1)<|zN ?_
   refine yS<|yT<|RunC.skip<|yS<|RunC.block<|yS ?_
   obtain ⟨e3, he2, h2_⟩ := oS h2_
   refine yW<|yl rfl (ptr [f32 e3]) (LOp.le (LOp.ix (f := f32) und25 siz41 rfl rfl rfl rfl he2) ALe.ptr)<|yl rfl (f32 e3) (y2 agg41)<|ya rfl (f32 e3)<|zN ?_
   obtain ⟨r4, hf3, h2_⟩ := oS h2_
   obtain ⟨y5, hy4, h2_⟩ := oS h2_
   refine yW<|ym rfl (f32 y1)<|ym rfl (f32 e3)<|yd rfl (f32 r4) (yc ent40 rfl rfl bN0 (i_absolute_ok e3 r4 hf3))<|yl rfl (f32 y5) (LOp.max2f rfl (OpF.tmp rfl) (OpF.tmp rfl) hy4)<|ya rfl (f32 y5)<|zN ?_
   obtain ⟨x6, hx5, h2_⟩ := oL h2_
   refine yW<|yl rfl (i64 x6) (LOp.eqr (LOp.add rfl rfl rfl) (congrArg (ik .i64) hx5))<|ym rfl (i64 x6)<|zN ?_
   cases oI h2_
   exact ⟨_, rfl, ⟨aR, aR, aR, aR, trivial⟩, trivial⟩
  ·refine yW<|yl rfl (b false) (LOp.eqb (LOp.lss rfl rfl rfl) hc1)<|zN ?_
   refine yS<|yF<|RunC.exit ?_
   cases oI h2_
   have hx := ho2 _ rfl
   exact ⟨y1, ⟨aR, trivial⟩, trivial, hx⟩
 ·rintro τ3 Γ3 ⟨y7, hw3, hd3, rfl⟩
  refine RunC.wl hw3 hd3 ?_
  replace h : i_Matrix_greatest_k1 y7 = some q0 := h
  unfold i_Matrix_greatest_k1 at h
  refine zQ<|ym rfl (f32 y7)<|ya rfl (f32 y7)<|zN ?_
  refine RunC.ret ?_
  have hq := oI h
  subst q0
  exact bodyQ.pure (.inr rfl) rfl (Res.one rfl (RV.tmp rfl))
def i_finite (a0 : F) : Option (F × Bool) :=
 obind (i_IsFinite a0) fun (r1 : Bool) =>
 bsel r1 (
  some (a0, true)) (
  some (some 0, false))
theorem i_finite_ok (a0 : F) (q0 : F) (q1 : Bool) (h : i_finite a0 = some (q0, q1)) : Ev Tryz.prog 62 [f32 a0] [] (tup [f32 q0, b q1]) [] := by
 refine yE Tryz.func62 0 17 0 [(0, f32 a0)] [] rfl ?_
 unfold i_finite at h
 refine zQ<|yl rfl (f32 (some 0)) (LOp.le (LOp.assign rfl rfl) (ALe.fl (by kernel_rfl) (by kernel_rfl)))<|ya rfl (b false)<|zN ?_
 refine yS<|yS ?_
 obtain ⟨r1, hf1, h⟩ := oS h
 rcases oB h with ⟨hc2, h⟩ | ⟨hc2, h⟩
 ·refine yW<|ym rfl (f32 a0)<|yd rfl (b true) (TOp.eqb (yc ent82 rfl rfl bN0 (i_IsFinite_ok a0 r1 hf1)) hc2)<|yl rfl (b false) y1<|zN ?_
  refine yF<|RunC.skip<|zQ<|ym rfl (f32 a0)<|ya rfl (f32 a0)<|ya rfl (b true)<|zN ?_
  refine RunC.ret ?_
  have hq := oI h
  obtain ⟨hq0, hq⟩ := Prod.mk.inj hq
  subst q0
  subst q1
  exact bodyQ.pure (.inr rfl) rfl (Res.two rfl (RV.tmp rfl) (RV.tmp rfl))
 ·refine yW<|ym rfl (f32 a0)<|yd rfl (b false) (TOp.eqb (yc ent82 rfl rfl bN0 (i_IsFinite_ok a0 r1 hf1)) hc2)<|yl rfl (b true) y0<|zN ?_
  refine yT<|zQ<|yl rfl (f32 (some 0)) (LOp.le (LOp.assign rfl rfl) (ALe.fl (by kernel_rfl) (by kernel_rfl)))<|ya rfl (b false)<|zN ?_
  refine RunC.ret ?_
  have hq := oI h
  obtain ⟨hq0, hq⟩ := Prod.mk.inj hq
  subst q0
  subst q1
  exact bodyQ.pure (.inr rfl) rfl (Res.two rfl (RV.tmp rfl) (RV.tmp rfl))
def i_FactorGrowth (a0 : Int) (a1 : Int) (a2 : List F) (a3 : Int) (a4 : Int) (a5 : List F) (a6 : List Int) : Option (F × Bool) :=
 obind (i_ValidMatrix a0 a1 a2) fun (r1 : Bool) =>
 bsel r1 (
  obind (i_ValidFactor a3 a4 a5 a6) fun (r2 : Bool) =>
  bsel r2 (
   obind (i_Matrix_greatest a0 a1 a2) fun (r3 : F) =>
   bsel (feq .f32 r3 (some 0)) (
    some (some 0, false)) (
    obind3 (i_Matrix_upper a3 a4 a5) fun (r4 : Int) (r5 : Int) (r6 : List F) =>
    obind (i_Matrix_greatest r4 r5 r6) fun (r7 : F) =>
    obind (i_Matrix_greatest a0 a1 a2) fun (r8 : F) =>
    olet (fop .quo .f32 r7 r8) fun (x9 : F) =>
    obind2 (i_finite x9) fun (r10 : F) (r11 : Bool) =>
    some (r10, r11))) (
   some (some 0, false))) (
  some (some 0, false))
theorem i_FactorGrowth_ok (a0 : Int) (a1 : Int) (a2 : List F) (a3 : Int) (a4 : Int) (a5 : List F) (a6 : List Int) (q0 : F) (q1 : Bool) (h : i_FactorGrowth a0 a1 a2 a3 a4 a5 a6 = some (q0, q1)) : Ev Tryz.prog 17 [agg (mXc a0 a1 a2), agg [i64 a3, i64 a4, (sFc a5), sl a6.length (a6.map i64)]] [] (tup [f32 q0, b q1]) [] := by
 refine yE Tryz.func17 0 59 0 ([(0, agg (mXc a0 a1 a2)), (1, agg [i64 a3, i64 a4, (sFc a5), sl a6.length (a6.map i64)])]) [] rfl ?_
 unfold i_FactorGrowth at h
 refine zQ<|yd rfl (ptr (mXc a0 a1 a2)) (TOp.box_s rfl rfl rfl)<|yd rfl (ptr [i64 a3, i64 a4, (sFc a5), sl a6.length (a6.map i64)]) (TOp.box_s rfl rfl rfl)<|yl rfl (f32 (some 0)) (LOp.le (LOp.assign rfl rfl) (ALe.fl (by kernel_rfl) (by kernel_rfl)))<|ya rfl (b false)<|zN ?_
 refine yS<|yS ?_
 obtain ⟨r1, hf1, h⟩ := oS h
 rcases oB h with ⟨hc2, h⟩ | ⟨hc2, h⟩
 ·obtain ⟨r2, hf3, h⟩ := oS h
  rcases oB h with ⟨hc4, h⟩ | ⟨hc4, h⟩
  ·obtain ⟨r3, hf5, h⟩ := oS h
   rcases oB h with ⟨hc6, h⟩ | ⟨hc6, h⟩
   ·refine yW<|yl rfl (agg (mXc a0 a1 a2)) (yL agg27 siz27)<|yd rfl (b true) (TOp.eqb (TOp.callB (CallAs.func ent45 rfl rfl) (Bors.cons (Bor.agg (bP (bP (bS bN)))) bN) rfl rfl (i_ValidMatrix_ok a0 a1 a2 r1 hf1)) hc2)<|yl rfl (b false) y1<|ym rfl (b false)<|yl rfl (agg [i64 a3, i64 a4, (sFc a5), sl a6.length (a6.map i64)]) (yL agg32 siz32)<|yd rfl (b true) (TOp.eqb (TOp.callB (CallAs.func ent10 rfl rfl) (Bors.cons (Bor.agg (bP (bP (bS (bS bN))))) bN) rfl rfl (i_ValidFactor_ok a3 a4 a5 a6 r2 hf3)) hc4)<|yl rfl (b false) y1<|yl rfl (b false) yp<|ym rfl (b false)<|yl rfl (agg (mXc a0 a1 a2)) (yL agg27 siz27)<|yd rfl (f32 r3) (TOp.callB (CallAs.func ent61 rfl rfl) (Bors.cons (Bor.agg (bP (bP (bS bN)))) bN) rfl rfl (i_Matrix_greatest_ok a0 a1 a2 r3 hf5))<|yl rfl (b true) (LOp.eqb (LOp.feq rfl (OpF.tmp rfl) (OpF.const rfl (by kernel_rfl) (by kernel_rfl))) hc6)<|yl rfl (b true) yp<|zN ?_
    refine RunC.wl (τ' := [(2, ptr (mXc a0 a1 a2)), (3, ptr [i64 a3, i64 a4, (sFc a5), sl a6.length (a6.map i64)]), (18, b true)]) (Γ' := []) ⟨aR, aR, aR, trivial⟩ trivial<|yT<|zQ<|yl rfl (f32 (some 0)) (LOp.le (LOp.assign rfl rfl) (ALe.fl (by kernel_rfl) (by kernel_rfl)))<|ya rfl (b false)<|zN ?_
    refine RunC.ret ?_
    have hq := oI h
    obtain ⟨hq0, hq⟩ := Prod.mk.inj hq
    subst q0
    subst q1
    exact bodyQ.pure (.inr rfl) rfl (Res.two rfl (RV.tmp rfl) (RV.tmp rfl))
   ·refine yW<|yl rfl (agg (mXc a0 a1 a2)) (yL agg27 siz27)<|yd rfl (b true) (TOp.eqb (TOp.callB (CallAs.func ent45 rfl rfl) (Bors.cons (Bor.agg (bP (bP (bS bN)))) bN) rfl rfl (i_ValidMatrix_ok a0 a1 a2 r1 hf1)) hc2)<|yl rfl (b false) y1<|ym rfl (b false)<|yl rfl (agg [i64 a3, i64 a4, (sFc a5), sl a6.length (a6.map i64)]) (yL agg32 siz32)<|yd rfl (b true) (TOp.eqb (TOp.callB (CallAs.func ent10 rfl rfl) (Bors.cons (Bor.agg (bP (bP (bS (bS bN))))) bN) rfl rfl (i_ValidFactor_ok a3 a4 a5 a6 r2 hf3)) hc4)<|yl rfl (b false) y1<|yl rfl (b false) yp<|ym rfl (b false)<|yl rfl (agg (mXc a0 a1 a2)) (yL agg27 siz27)<|yd rfl (f32 r3) (TOp.callB (CallAs.func ent61 rfl rfl) (Bors.cons (Bor.agg (bP (bP (bS bN)))) bN) rfl rfl (i_Matrix_greatest_ok a0 a1 a2 r3 hf5))<|yl rfl (b false) (LOp.eqb (LOp.feq rfl (OpF.tmp rfl) (OpF.const rfl (by kernel_rfl) (by kernel_rfl))) hc6)<|yl rfl (b false) yp<|zN ?_
    refine RunC.wl (τ' := [(2, ptr (mXc a0 a1 a2)), (3, ptr [i64 a3, i64 a4, (sFc a5), sl a6.length (a6.map i64)]), (18, b false)]) (Γ' := []) ⟨aR, aR, aR, trivial⟩ trivial<|yF<|RunC.skip<|yS ?_
    obtain ⟨r4, r5, r6, hf7, h⟩ := obind3_some h
    obtain ⟨r7, hf8, h⟩ := oS h
    obtain ⟨r8, hf9, h⟩ := oS h
    obtain ⟨x9, hx10, h⟩ := oL h
    obtain ⟨r10, r11, hf11, h⟩ := obind2_some h
    refine RunC.region_draw (Γ' := []) 12 mixed 
     (tl rfl (ptr [i64 a3, i64 a4, (sFc a5), sl a6.length (a6.map i64)]) (LOp.fap und32 rfl siz27 rfl rfl rfl) <|
     (tl rfl (agg (mXc a3 a4 a5)) (yL agg27 siz27) <|
     (TR.d (r := agg (mXc r4 r5 r6)) (fs := []) rfl rfl (TOp.callS (CallAs.func ent55 rfl rfl) (ALes.cons aR ALes.nil) (lts_cons (lt_agg (lts_cons rfl (lts_cons rfl (lts_cons (lt_sl (fun _ => rfl)) lts_nil)))) lts_nil) (lt_agg (lts_cons rfl (lts_cons rfl (lts_cons (lt_sl (fun _ => rfl)) lts_nil)))) (i_Matrix_upper_ok a3 a4 a5 r4 r5 r6 hf7) (Bor.agg (bP (bP (Bors.cons (Bor.own (f := f32) (fun _ => rfl) rfl rfl) bN))))) <|
     (TR.d (r := f32 r7) (fs := []) rfl rfl (TOp.callB (CallAs.func ent61 rfl rfl) (Bors.cons (Bor.agg (bP (bP (bS bN)))) bN) rfl rfl (i_Matrix_greatest_ok r4 r5 r6 r7 hf8)) <|
     (tl rfl (agg (mXc a0 a1 a2)) (yL agg27 siz27) <|
     (TR.d (r := f32 r8) (fs := []) rfl rfl (TOp.callB (CallAs.func ent61 rfl rfl) (Bors.cons (Bor.agg (bP (bP (bS bN)))) bN) rfl rfl (i_Matrix_greatest_ok a0 a1 a2 r8 hf9)) <|
     (TR.d (r := f32 x9) (fs := []) rfl rfl (TOp.eqr (TOp.fop (.inr (.inr (.inr rfl))) rfl (OpF.tmp rfl) (OpF.tmp rfl)) (congrArg (f .f32) hx10)) <|
     (TR.d (r := tup [f32 r10, b r11]) (fs := []) rfl rfl (yc ent62 rfl rfl bN0 (i_finite_ok x9 r10 r11 hf11)) <|
     (tl rfl (f32 r10) y3 <|
     (tl rfl (b r11) y3 <|
     (tl rfl (f32 r10) (LOp.assign rfl rfl) <|
     (tl rfl (b r11) (LOp.assign rfl rfl) <|
     TR.nil)))))))))))) rfl (by kernel_rfl) rfl fills_nil rfl ?_
    iterate 12 refine ROps.dropS ?_
    refine ROps.drop0<|zN ?_
    refine RunC.ret ?_
    have hq := oI h
    obtain ⟨hq0, hq⟩ := Prod.mk.inj hq
    subst q0
    subst q1
    exact bodyQ.pure (.inr rfl) rfl (Res.two rfl (RV.tmp rfl) (RV.tmp rfl))
  ·refine yW<|yl rfl (agg (mXc a0 a1 a2)) (yL agg27 siz27)<|yd rfl (b true) (TOp.eqb (TOp.callB (CallAs.func ent45 rfl rfl) (Bors.cons (Bor.agg (bP (bP (bS bN)))) bN) rfl rfl (i_ValidMatrix_ok a0 a1 a2 r1 hf1)) hc2)<|yl rfl (b false) y1<|ym rfl (b false)<|yl rfl (agg [i64 a3, i64 a4, (sFc a5), sl a6.length (a6.map i64)]) (yL agg32 siz32)<|yd rfl (b false) (TOp.eqb (TOp.callB (CallAs.func ent10 rfl rfl) (Bors.cons (Bor.agg (bP (bP (bS (bS bN))))) bN) rfl rfl (i_ValidFactor_ok a3 a4 a5 a6 r2 hf3)) hc4)<|yl rfl (b true) y0<|yl rfl (b true) yp<|ym rfl (b true)<|ROps.s rfl rfl rfl<|ROps.s rfl rfl rfl<|ROps.s rfl rfl rfl<|yl rfl (b true) yq<|zN ?_
   refine RunC.wl (τ' := [(2, ptr (mXc a0 a1 a2)), (3, ptr [i64 a3, i64 a4, (sFc a5), sl a6.length (a6.map i64)]), (18, b true)]) (Γ' := []) ⟨aR, aR, aR, trivial⟩ trivial<|yT<|zQ<|yl rfl (f32 (some 0)) (LOp.le (LOp.assign rfl rfl) (ALe.fl (by kernel_rfl) (by kernel_rfl)))<|ya rfl (b false)<|zN ?_
   refine RunC.ret ?_
   have hq := oI h
   obtain ⟨hq0, hq⟩ := Prod.mk.inj hq
   subst q0
   subst q1
   exact bodyQ.pure (.inr rfl) rfl (Res.two rfl (RV.tmp rfl) (RV.tmp rfl))
 ·refine yW<|yl rfl (agg (mXc a0 a1 a2)) (yL agg27 siz27)<|yd rfl (b false) (TOp.eqb (TOp.callB (CallAs.func ent45 rfl rfl) (Bors.cons (Bor.agg (bP (bP (bS bN)))) bN) rfl rfl (i_ValidMatrix_ok a0 a1 a2 r1 hf1)) hc2)<|yl rfl (b true) y0<|ym rfl (b true)<|ROps.s rfl rfl rfl<|ROps.s rfl rfl rfl<|ROps.s rfl rfl rfl<|yl rfl (b true) yq<|ym rfl (b true)<|ROps.s rfl rfl rfl<|ROps.s rfl rfl rfl<|ROps.s rfl rfl rfl<|yl rfl (b true) yq<|zN ?_
  refine RunC.wl (τ' := [(2, ptr (mXc a0 a1 a2)), (3, ptr [i64 a3, i64 a4, (sFc a5), sl a6.length (a6.map i64)]), (18, b true)]) (Γ' := []) ⟨aR, aR, aR, trivial⟩ trivial<|yT<|zQ<|yl rfl (f32 (some 0)) (LOp.le (LOp.assign rfl rfl) (ALe.fl (by kernel_rfl) (by kernel_rfl)))<|ya rfl (b false)<|zN ?_
  refine RunC.ret ?_
  have hq := oI h
  obtain ⟨hq0, hq⟩ := Prod.mk.inj hq
  subst q0
  subst q1
  exact bodyQ.pure (.inr rfl) rfl (Res.two rfl (RV.tmp rfl) (RV.tmp rfl))
def i_IsVector (a0 : List F) : Option (Bool) :=
 obind (i_length_float32 a0) fun (r1 : Int) =>
 obind (i_inRange r1 1 256) fun (r2 : Bool) =>
 bsel r2 (
  obind (i_areFinite a0) fun (r3 : Bool) =>
  some r3) (
  some false)
theorem i_IsVector_ok (a0 : List F) (q0 : Bool) (h : i_IsVector a0 = some q0) : Ev Tryz.prog 106 [(sFc a0)] [] (b q0) [] := by
 refine yE Tryz.func106 0 21 0 [(0, (sFc a0))] [] rfl ?_
 unfold i_IsVector at h
 refine zQ<|ya rfl (b false)<|zN ?_
 refine yS ?_
 obtain ⟨r1, hf1, h⟩ := oS h
 obtain ⟨r2, hf2, h⟩ := oS h
 rcases oB h with ⟨hc3, h⟩ | ⟨hc3, h⟩
 ·obtain ⟨r3, hf4, h⟩ := oS h
  refine yW<|ym rfl (sFc a0)<|yd rfl (i64 r1) (yc ent98 rfl rfl (bS bN) (i_length_float32_ok a0 r1 hf1))<|yd rfl (b true) (TOp.eqb (yc ent112 rfl rfl (bP (bP bN0)) (i_inRange_ok r1 1 256 r2 hf2)) hc3)<|ym rfl (b true)<|ym rfl (sFc a0)<|yd rfl (b r3) (yc ent99 rfl rfl (bS bN) (i_areFinite_ok a0 r3 hf4))<|yl rfl (b r3) yq<|ya rfl (b r3)<|zN ?_
  refine RunC.ret ?_
  have hq := oI h
  subst q0
  exact bodyQ.pure (.inr rfl) rfl (Res.one rfl (RV.tmp rfl))
 ·refine yW<|ym rfl (sFc a0)<|yd rfl (i64 r1) (yc ent98 rfl rfl (bS bN) (i_length_float32_ok a0 r1 hf1))<|yd rfl (b false) (TOp.eqb (yc ent112 rfl rfl (bP (bP bN0)) (i_inRange_ok r1 1 256 r2 hf2)) hc3)<|ym rfl (b false)<|ROps.s rfl rfl rfl<|ROps.s rfl rfl rfl<|yl rfl (b false) yp<|ya rfl (b false)<|zN ?_
  refine RunC.ret ?_
  have hq := oI h
  subst q0
  exact bodyQ.pure (.inr rfl) rfl (Res.one rfl (RV.tmp rfl))
def i_Factor_takes (a0 : Int) (a1 : Int) (a2 : List F) (a3 : List Int) (a4 : List F) : Option (Bool) :=
 obind (i_ValidFactor a0 a1 a2 a3) fun (r1 : Bool) =>
 bsel r1 (
  obind (i_IsVector a4) fun (r2 : Bool) =>
  bsel r2 (
   obind (i_length_float32 a4) fun (r3 : Int) =>
   some (decide (r3 = a0))) (
   some false)) (
  some false)
theorem i_Factor_takes_ok (a0 : Int) (a1 : Int) (a2 : List F) (a3 : List Int) (a4 : List F) (q0 : Bool) (h : i_Factor_takes a0 a1 a2 a3 a4 = some q0) : Ev Tryz.prog 63 [agg [i64 a0, i64 a1, (sFc a2), sl a3.length (a3.map i64)], (sFc a4)] [] (b q0) [] := by
 refine yE Tryz.func63 0 39 0 ([(0, agg [i64 a0, i64 a1, (sFc a2), sl a3.length (a3.map i64)]), (1, (sFc a4))]) [] rfl ?_
 unfold i_Factor_takes at h
 refine zQ<|yd rfl (ptr [i64 a0, i64 a1, (sFc a2), sl a3.length (a3.map i64)]) (TOp.box_s rfl rfl rfl)<|ya rfl (b false)<|zN ?_
 refine yS ?_
 obtain ⟨r1, hf1, h⟩ := oS h
 rcases oB h with ⟨hc2, h⟩ | ⟨hc2, h⟩
 ·obtain ⟨r2, hf3, h⟩ := oS h
  rcases oB h with ⟨hc4, h⟩ | ⟨hc4, h⟩
  ·obtain ⟨r3, hf5, h⟩ := oS h
   refine RunC.region_draw (Γ' := []) 15 mixed 
    (tl rfl (agg [i64 a0, i64 a1, (sFc a2), sl a3.length (a3.map i64)]) (yL agg32 siz32) <|
    (TR.d (r := b true) (fs := []) rfl rfl (TOp.eqb (TOp.callB (CallAs.func ent10 rfl rfl) (Bors.cons (Bor.agg (bP (bP (bS (bS bN))))) bN) rfl rfl (i_ValidFactor_ok a0 a1 a2 a3 r1 hf1)) hc2) <|
    (tm rfl (b true) <|
    (tm rfl (sFc a4) <|
    (TR.d (r := b true) (fs := []) rfl rfl (TOp.eqb (yc ent106 rfl rfl (bS bN) (i_IsVector_ok a4 r2 hf3)) hc4) <|
    (tl rfl (b true) yq <|
    (tm rfl (b true) <|
    (tm rfl (sFc a4) <|
    (TR.d (r := i64 r3) (fs := []) rfl rfl (yc ent98 rfl rfl (bS bN) (i_length_float32_ok a4 r3 hf5)) <|
    (tl rfl (ptr [i64 a0, i64 a1, (sFc a2), sl a3.length (a3.map i64)]) (LOp.fap und32 rfl siz27 rfl rfl rfl) <|
    (tl rfl (ptr [i64 a0, i64 a1, (sFc a2), sl a3.length (a3.map i64)]) (LOp.fap und27 rfl siz2 rfl rfl rfl) <|
    (tl rfl (i64 a0) (y2 agg2) <|
    (tl rfl (b (decide (r3 = a0))) (LOp.eql rfl rfl rfl) <|
    (tl rfl (b (decide (r3 = a0))) yq <|
    (tl rfl (b (decide (r3 = a0))) (LOp.assign rfl rfl) <|
    TR.nil))))))))))))))) rfl (by kernel_rfl) rfl fills_nil rfl ?_
   iterate 15 refine ROps.dropS ?_
   refine ROps.drop0<|zN ?_
   refine RunC.ret ?_
   have hq := oI h
   subst q0
   exact bodyQ.pure (.inr rfl) rfl (Res.one rfl (RV.tmp rfl))
  ·refine RunC.region_draw (Γ' := []) 15 mixed 
    (tl rfl (agg [i64 a0, i64 a1, (sFc a2), sl a3.length (a3.map i64)]) (yL agg32 siz32) <|
    (TR.d (r := b true) (fs := []) rfl rfl (TOp.eqb (TOp.callB (CallAs.func ent10 rfl rfl) (Bors.cons (Bor.agg (bP (bP (bS (bS bN))))) bN) rfl rfl (i_ValidFactor_ok a0 a1 a2 a3 r1 hf1)) hc2) <|
    (tm rfl (b true) <|
    (tm rfl (sFc a4) <|
    (TR.d (r := b false) (fs := []) rfl rfl (TOp.eqb (yc ent106 rfl rfl (bS bN) (i_IsVector_ok a4 r2 hf3)) hc4) <|
    (tl rfl (b false) yq <|
    (tm rfl (b false) <|
    (ts rfl <|
    (ts rfl <|
    (ts rfl <|
    (ts rfl <|
    (ts rfl <|
    (ts rfl <|
    (tl rfl (b false) yp <|
    (tl rfl (b false) (LOp.assign rfl rfl) <|
    TR.nil))))))))))))))) rfl (by kernel_rfl) rfl fills_nil rfl ?_
   iterate 15 refine ROps.dropS ?_
   refine ROps.drop0<|zN ?_
   refine RunC.ret ?_
   have hq := oI h
   subst q0
   exact bodyQ.pure (.inr rfl) rfl (Res.one rfl (RV.tmp rfl))
 ·refine RunC.region_draw (Γ' := []) 15 mixed 
   (tl rfl (agg [i64 a0, i64 a1, (sFc a2), sl a3.length (a3.map i64)]) (yL agg32 siz32) <|
   (TR.d (r := b false) (fs := []) rfl rfl (TOp.eqb (TOp.callB (CallAs.func ent10 rfl rfl) (Bors.cons (Bor.agg (bP (bP (bS (bS bN))))) bN) rfl rfl (i_ValidFactor_ok a0 a1 a2 a3 r1 hf1)) hc2) <|
   (tm rfl (b false) <|
   (ts rfl <|
   (ts rfl <|
   (tl rfl (b false) yp <|
   (tm rfl (b false) <|
   (ts rfl <|
   (ts rfl <|
   (ts rfl <|
   (ts rfl <|
   (ts rfl <|
   (ts rfl <|
   (tl rfl (b false) yp <|
   (tl rfl (b false) (LOp.assign rfl rfl) <|
   TR.nil))))))))))))))) rfl (by kernel_rfl) rfl fills_nil rfl ?_
  iterate 15 refine ROps.dropS ?_
  refine ROps.drop0<|zN ?_
  refine RunC.ret ?_
  have hq := oI h
  subst q0
  exact bodyQ.pure (.inr rfl) rfl (Res.one rfl (RV.tmp rfl))
def i_Matrix_lessRow_b1 (a0 : Int) (a1 : Int) (a2 : List F) (a4 : Int) (a6 : Int) (a7 : List F) (y1 : F) (v2 : Int) : Option (LR (F × Int) (F) (F)) :=
 bsel (decide (v2 < a6)) (
  obind (i_Matrix_at a0 a1 a2 a4 v2) fun (r3 : F) =>
  obind (at? a7 v2) fun (e4 : F) =>
  obind (i_mul r3 e4) fun (r5 : F) =>
  olet (fop .sub .f32 y1 r5) fun (x6 : F) =>
  olet (IntKind.i64.wrap (v2 + 1)) fun (x7 : Int) =>
  some (LR.next (x6, x7))) (
  some (LR.out y1))
def i_Matrix_lessRow_s1 (a0 : Int) (a1 : Int) (a2 : List F) (a4 : Int) (a6 : Int) (a7 : List F) : (F × Int) → Option (LR (F × Int) (F) (F)) := fun s => i_Matrix_lessRow_b1 a0 a1 a2 a4 a6 a7 s.1 s.2
def i_Matrix_lessRow_k1 (y8 : F) : Option (F) :=
 some y8
def i_Matrix_lessRow (a0 : Int) (a1 : Int) (a2 : List F) (a3 : F) (a4 : Int) (a5 : Int) (a6 : Int) (a7 : List F) : Option (F) :=
 obind (loopM (i_Matrix_lessRow_s1 a0 a1 a2 a4 a6 a7) (a3, a5)) fun z => osum z (fun e => i_Matrix_lessRow_k1 e) (fun r => some r)
theorem i_Matrix_lessRow_ok (a0 : Int) (a1 : Int) (a2 : List F) (a3 : F) (a4 : Int) (a5 : Int) (a6 : Int) (a7 : List F) (q0 : F) (h : i_Matrix_lessRow a0 a1 a2 a3 a4 a5 a6 a7 = some q0) : Ev Tryz.prog 107 [agg (mXc a0 a1 a2), f32 a3, i64 a4, i64 a5, i64 a6, (sFc a7)] [] (f32 q0) [] := by
 refine yE Tryz.func107 0 65 0 [(0, agg (mXc a0 a1 a2)), (1, f32 a3), (2, i64 a4), (3, i64 a5), (4, i64 a6), (5, (sFc a7))] [] rfl ?_
 unfold i_Matrix_lessRow at h
 refine zQ<|yd rfl (ptr (mXc a0 a1 a2)) (TOp.box_s rfl rfl rfl)<|yl rfl (f32 (some 0)) (LOp.le (LOp.assign rfl rfl) (ALe.fl (by kernel_rfl) (by kernel_rfl)))<|zN ?_
 refine yS<|zQ<|ym rfl (i64 a5)<|ya rfl (i64 a5)<|zN ?_
 obtain ⟨z2, hz_2, h⟩ := oS h
 refine RunC.cutN (fun τ Γ => ∃ (y8 : F), WeakLe τ [(1, f32 y8)] ∧ DeadLe Γ [] ∧ z2 = .inl y8) ?_ ?_
 ·refine RunC.block (RunC.loop (RunL.loopM (x := z2) (i_Matrix_lessRow_s1 a0 a1 a2 a4 a6 a7) (fun (s : F × Int) τ Γ => WeakLe τ [(1, f32 s.1), (2, i64 a4), (4, i64 a6), (5, (sFc a7)), (6, ptr (mXc a0 a1 a2)), (13, i64 s.2)] ∧ DeadLe Γ []) ?_ _ _ _ hz_2 ⟨⟨aR, aR, aR, aR, aR, aR, trivial⟩, trivial⟩))
  rintro ⟨y1, v2⟩ τ2 Γ2 y2_ ⟨hw2, hd2⟩ h2_ ho2 hr2
  refine RunC.wl (τ' := [(1, f32 y1), (2, i64 a4), (4, i64 a6), (5, (sFc a7)), (6, ptr (mXc a0 a1 a2)), (13, i64 v2)]) (Γ' := []) hw2 hd2 ?_
  replace h2_ : i_Matrix_lessRow_b1 a0 a1 a2 a4 a6 a7 y1 v2 = some y2_ := h2_
  unfold i_Matrix_lessRow_b1 at h2_
  refine yS<|yS ?_
  rcases oB h2_ with ⟨hc1, h2_⟩ | ⟨hc1, h2_⟩
  ·refine yW<|ym rfl (i64 v2)<|ym rfl (i64 a6)<|yl rfl (b true) (LOp.eqb (LOp.lss rfl rfl rfl) hc1)<|zN ?_
   refine yT<|RunC.skip<|yS<|RunC.block ?_
   obtain ⟨r3, hf2, h2_⟩ := oS h2_
   obtain ⟨e4, he3, h2_⟩ := oS h2_
   obtain ⟨r5, hf4, h2_⟩ := oS h2_
   obtain ⟨x6, hx5, h2_⟩ := oL h2_
   refine RunC.region_draw (Γ' := []) 12 mixed 
    (tm rfl (f32 y1) <|
    (tl rfl (agg (mXc a0 a1 a2)) (yL agg27 siz27) <|
    (tm rfl (i64 a4) <|
    (tm rfl (i64 v2) <|
    (TR.d (r := f32 r3) (fs := []) rfl rfl (TOp.callB (CallAs.func ent41 rfl rfl) (Bors.cons (Bor.agg (bP (bP (bS bN)))) (bP bN0)) rfl rfl (i_Matrix_at_ok a0 a1 a2 a4 v2 r3 hf2)) <|
    (tm rfl (sFc a7) <|
    (tm rfl (i64 v2) <|
    (tl rfl (ptr [f32 e4]) (LOp.le (LOp.ix (f := f32) und25 siz41 rfl rfl rfl rfl he3) ALe.ptr) <|
    (tl rfl (f32 e4) (y2 agg41) <|
    (TR.d (r := f32 r5) (fs := []) rfl rfl (yc ent80 rfl rfl (bP bN0) (i_mul_ok r3 e4 r5 hf4)) <|
    (TR.d (r := f32 x6) (fs := []) rfl rfl (TOp.eqr (TOp.fop (.inr (.inl rfl)) rfl (OpF.tmp rfl) (OpF.tmp rfl)) (congrArg (f .f32) hx5)) <|
    (tl rfl (f32 x6) (LOp.assign rfl rfl) <|
    TR.nil)))))))))))) rfl (by kernel_rfl) rfl fills_nil rfl ?_
   iterate 12 refine ROps.dropS ?_
   refine ROps.drop0<|zN ?_
   refine RunC.wl (τ' := [(1, f32 x6), (2, i64 a4), (4, i64 a6), (5, (sFc a7)), (6, ptr (mXc a0 a1 a2)), (13, i64 v2)]) (Γ' := []) ⟨aR, aR, aR, aR, aR, aR, trivial⟩ trivial ?_
   obtain ⟨x7, hx6, h2_⟩ := oL h2_
   refine yW<|ym rfl (i64 v2)<|yl rfl (i64 x7) (LOp.eqr (LOp.add rfl rfl rfl) (congrArg (ik .i64) hx6))<|ya rfl (i64 x7)<|zN ?_
   cases oI h2_
   exact ⟨_, rfl, ⟨aR, aR, aR, aR, aR, aR, trivial⟩, trivial⟩
  ·refine yW<|ym rfl (i64 v2)<|ym rfl (i64 a6)<|yl rfl (b false) (LOp.eqb (LOp.lss rfl rfl rfl) hc1)<|zN ?_
   refine yF<|RunC.exit ?_
   cases oI h2_
   have hx := ho2 _ rfl
   exact ⟨y1, ⟨aR, trivial⟩, trivial, hx⟩
 ·rintro τ3 Γ3 ⟨y8, hw3, hd3, rfl⟩
  refine RunC.wl hw3 hd3 ?_
  replace h : i_Matrix_lessRow_k1 y8 = some q0 := h
  unfold i_Matrix_lessRow_k1 at h
  refine zQ<|ym rfl (f32 y8)<|ya rfl (f32 y8)<|zN ?_
  refine RunC.ret ?_
  have hq := oI h
  subst q0
  exact bodyQ.pure (.inr rfl) rfl (Res.one rfl (RV.tmp rfl))
def i_Matrix_upperSolve_b1 (a0 : Int) (a1 : Int) (a2 : List F) (L3 : List F) (v5 : Int) : Option (LR ((List F) × Int) ((List F)) ((List F))) :=
 bsel (decide (0 ≤ v5)) (
  obind (at? L3 v5) fun (e6 : F) =>
  olet (IntKind.i64.wrap (v5 + 1)) fun (x7 : Int) =>
  obind (i_Matrix_lessRow a0 a1 a2 e6 v5 x7 a1 L3) fun (r8 : F) =>
  obind (i_Matrix_at a0 a1 a2 v5 v5) fun (r9 : F) =>
  olet (fop .quo .f32 r8 r9) fun (x10 : F) =>
  obind (setAt? L3 v5 x10) fun (L11 : List F) =>
  olet (IntKind.i64.wrap (v5 - 1)) fun (x12 : Int) =>
  some (LR.next (L11, x12))) (
  some (LR.out L3))
def i_Matrix_upperSolve_s1 (a0 : Int) (a1 : Int) (a2 : List F) : ((List F) × Int) → Option (LR ((List F) × Int) ((List F)) ((List F))) := fun s => i_Matrix_upperSolve_b1 a0 a1 a2 s.1 s.2
def i_Matrix_upperSolve_k1 (L13 : List F) : Option ((List F)) :=
 some L13
def i_Matrix_upperSolve (a0 : Int) (a1 : Int) (a2 : List F) (a3 : List F) : Option ((List F)) :=
 obind (x_slices_Clone_float32_float32 a3) fun (r1 : List F) =>
 olet (IntKind.i64.wrap (a0 - 1)) fun (x2 : Int) =>
 obind (loopM (i_Matrix_upperSolve_s1 a0 a1 a2) (r1, x2)) fun z => osum z (fun e => i_Matrix_upperSolve_k1 e) (fun r => some r)
theorem i_Matrix_upperSolve_ok (a0 : Int) (a1 : Int) (a2 : List F) (a3 : List F) (q0 : List F) (h : i_Matrix_upperSolve a0 a1 a2 a3 = some q0) : Ev Tryz.prog 108 [agg (mXc a0 a1 a2), (sFc a3)] [] (oref 0 0 0 q0.length) [⟨0, some (q0.map f32)⟩] := by
 refine yE Tryz.func108 1 75 0 [(0, agg (mXc a0 a1 a2)), (1, (sFc a3))] [⟨0, none⟩] rfl ?_
 unfold i_Matrix_upperSolve at h
 refine zQ<|yd rfl (ptr (mXc a0 a1 a2)) (TOp.box_s rfl rfl rfl)<|ya rfl nilsl<|zN ?_
 refine yS ?_
 obtain ⟨r1, hf1, h⟩ := oS h
 refine yW<|ym rfl (sFc a3)<|ye rfl (oref 0 1 0 r1.length) [⟨1, some (r1.map f32)⟩] (TOp.callBN (ls := [(r1.map f32)]) [0] (CallAs.func ent66 rfl rfl) (bS bN) rfl (x_slices_Clone_float32_float32_ok a3 r1 hf1) (and_all (lts0_map (f := f32) (fun _ => rfl) _) rfl) (and_all (noss_map (f := f32) (fun _ => rfl) _) rfl) rfl (by decide) (ns_of ⟨⟨_, rfl⟩, trivial⟩))<|ya rfl (oref 0 1 0 r1.length)<|zN ?_
 refine yS<|yS ?_
 obtain ⟨x2, hx2, h⟩ := oL h
 refine yW<|yl rfl (ptr (mXc a0 a1 a2)) (LOp.fap und27 rfl siz2 rfl rfl rfl)<|yl rfl (i64 a0) (y2 agg2)<|yl rfl (i64 x2) (LOp.eqr (LOp.sub rfl rfl rfl) (congrArg (ik .i64) hx2))<|ya rfl (i64 x2)<|zN ?_
 obtain ⟨z2, hz_2, h⟩ := oS h
 refine RunC.cutN (fun τ Γ => ∃ (L13 : List F), L13.length = r1.length ∧ WeakLe τ [(5, oref 0 1 0 r1.length)] ∧ DeadLe Γ [⟨1, some (L13.map f32)⟩] ∧ z2 = .inl L13) ?_ ?_
 ·refine RunC.block (RunC.loop (RunL.loopM (x := z2) (i_Matrix_upperSolve_s1 a0 a1 a2) (fun (s : (List F) × Int) τ Γ => s.1.length = r1.length ∧ WeakLe τ [(2, ptr (mXc a0 a1 a2)), (5, oref 0 1 0 r1.length), (6, i64 s.2)] ∧ DeadLe Γ [⟨1, some (s.1.map f32)⟩]) ?_ _ _ _ hz_2 ⟨rfl, ⟨aR, aR, aR, trivial⟩, ⟨⟨rfl, .inr rfl⟩, trivial⟩⟩))
  rintro ⟨L3, v5⟩ τ2 Γ2 y2_ ⟨hl4, hw2, hd2⟩ h2_ ho2 hr2
  refine RunC.wl (τ' := [(2, ptr (mXc a0 a1 a2)), (5, oref 0 1 0 r1.length), (6, i64 v5)]) (Γ' := [⟨1, some (L3.map f32)⟩]) hw2 hd2 ?_
  replace hl4 : L3.length = r1.length := hl4
  replace h2_ : i_Matrix_upperSolve_b1 a0 a1 a2 L3 v5 = some y2_ := h2_
  unfold i_Matrix_upperSolve_b1 at h2_
  refine yS<|yS ?_
  rcases oB h2_ with ⟨hc3, h2_⟩ | ⟨hc3, h2_⟩
  ·refine yW<|ym rfl (i64 v5)<|yl rfl (b true) (LOp.eqb (LOp.geq rfl rfl rfl) hc3)<|zN ?_
   refine yT<|RunC.skip<|yS<|RunC.block ?_
   obtain ⟨e6, he4, h2_⟩ := oS h2_
   obtain ⟨x7, hx5, h2_⟩ := oL h2_
   obtain ⟨r8, hf6, h2_⟩ := oS h2_
   obtain ⟨r9, hf7, h2_⟩ := oS h2_
   obtain ⟨x10, hx8, h2_⟩ := oL h2_
   obtain ⟨L11, he9, h2_⟩ := oS h2_
   refine RunC.region_draw (Γ' := [⟨1, some (L3.map f32)⟩]) 20 mixed 
    (tm rfl (oref 0 1 0 r1.length) <|
    (tm rfl (i64 v5) <|
    (tl rfl (agg (mXc a0 a1 a2)) (yL agg27 siz27) <|
    (tm rfl (oref 0 1 0 r1.length) <|
    (tm rfl (i64 v5) <|
    (TR.d (r := optr 0 1 v5.toNat) (fs := []) rfl rfl (TOp.ixo und25 siz41 rfl rfl rfl (at_in he4 hl4) rfl) <|
    (TR.d (r := f32 e6) (fs := []) rfl rfl (TOp.load1_o rfl (at_cell he4) agg41 rfl rfl) <|
    (tm rfl (i64 v5) <|
    (tm rfl (i64 v5) <|
    (tl rfl (i64 x7) (LOp.eqr (LOp.add rfl rfl rfl) (congrArg (ik .i64) hx5)) <|
    (tl rfl (ptr [i64 a1, (sFc a2)]) (LOp.fap und27 rfl siz2 rfl rfl rfl) <|
    (tl rfl (i64 a1) (y2 agg2) <|
    (tm rfl (oref 0 1 0 r1.length) <|
    (TR.d (r := f32 r8) (fs := []) rfl rfl (TOp.callB (CallAs.func ent107 rfl rfl) (Bors.cons (Bor.agg (bP (bP (bS bN)))) (bP (bP (bP (bP (Bors.cons (Bor.own (f := f32) (fun _ => rfl) rfl hl4) bN)))))) rfl rfl (i_Matrix_lessRow_ok a0 a1 a2 e6 v5 x7 a1 L3 r8 hf6)) <|
    (tl rfl (agg (mXc a0 a1 a2)) (yL agg27 siz27) <|
    (tm rfl (i64 v5) <|
    (tm rfl (i64 v5) <|
    (TR.d (r := f32 r9) (fs := []) rfl rfl (TOp.callB (CallAs.func ent41 rfl rfl) (Bors.cons (Bor.agg (bP (bP (bS bN)))) (bP bN0)) rfl rfl (i_Matrix_at_ok a0 a1 a2 v5 v5 r9 hf7)) <|
    (TR.d (r := f32 x10) (fs := []) rfl rfl (TOp.eqr (TOp.fop (.inr (.inr (.inr rfl))) rfl (OpF.tmp rfl) (OpF.tmp rfl)) (congrArg (f .f32) hx8)) <|
    (TR.d (r := optr 0 1 v5.toNat) (fs := []) rfl rfl (TOp.ixo und25 siz41 rfl rfl rfl (set_in he9 hl4) rfl) <|
    TR.nil)))))))))))))))))))) rfl (by kernel_rfl) rfl fills_nil rfl ?_
   iterate 20 refine ROps.dropS ?_
   refine ROps.drop0<|ROps.st (f := f32) (i := v5) (Γ' := [⟨1, some (L11.map f32)⟩]) rfl siz41 rfl rfl rfl aR rfl rfl rfl he9 rfl<|zN ?_
   refine RunC.wl (τ' := [(2, ptr (mXc a0 a1 a2)), (5, oref 0 1 0 r1.length), (6, i64 v5)]) (Γ' := [⟨1, some (L11.map f32)⟩]) ⟨aR, aR, aR, trivial⟩ ⟨⟨rfl, .inr rfl⟩, trivial⟩ ?_
   obtain ⟨x12, hx10, h2_⟩ := oL h2_
   refine yW<|ym rfl (i64 v5)<|yl rfl (i64 x12) (LOp.eqr (LOp.sub rfl rfl rfl) (congrArg (ik .i64) hx10))<|ya rfl (i64 x12)<|zN ?_
   cases oI h2_
   exact ⟨_, rfl, ((setAt?_len he9).trans hl4), ⟨aR, aR, aR, trivial⟩, ⟨⟨rfl, .inr rfl⟩, trivial⟩⟩
  ·refine yW<|ym rfl (i64 v5)<|yl rfl (b false) (LOp.eqb (LOp.geq rfl rfl rfl) hc3)<|zN ?_
   refine yF<|RunC.exit ?_
   cases oI h2_
   have hx := ho2 _ rfl
   exact ⟨L3, hl4, ⟨aR, trivial⟩, ⟨⟨rfl, .inr rfl⟩, trivial⟩, hx⟩
 ·rintro τ3 Γ3 ⟨L13, hl14, hw3, hd3, rfl⟩
  refine RunC.wl hw3 hd3 ?_
  replace h : i_Matrix_upperSolve_k1 L13 = some q0 := h
  unfold i_Matrix_upperSolve_k1 at h
  refine zQ<|ym rfl (oref 0 1 0 r1.length)<|ya rfl (oref 0 1 0 r1.length)<|zN ?_
  refine RunC.ret ?_
  have hq := oI h
  subst q0
  exact yB (oref 0 1 0 L13.length) [(0, 1)] (Res.eq (Res.one rfl (RV.tmp rfl)) (by rw [(show L13.length = r1.length from hl14)] <;> rfl)) (SelL.arr0 (f := f32) (fun _ => rfl) rfl trivial)
def i_Factor_solve_b1 (a3 : List Int) (a4 : List F) (L3 : List F) (v4 : Int) : Option (LR ((List F) × Int) ((List F)) ((List F))) :=
 bsel (decide (v4 < (a3.length : Int))) (
  obind (at? a3 v4) fun (e5 : Int) =>
  obind (at? a4 e5) fun (e6 : F) =>
  need (apok 4 L3.length 1) <|
  olet (IntKind.i64.wrap (v4 + 1)) fun (x7 : Int) =>
  some (LR.next ((L3 ++ ([e6] : List F)), x7))) (
  some (LR.out L3))
def i_Factor_solve_s1 (a3 : List Int) (a4 : List F) : ((List F) × Int) → Option (LR ((List F) × Int) ((List F)) ((List F))) := fun s => i_Factor_solve_b1 a3 a4 s.1 s.2
def i_Factor_solve_b2 (a0 : Int) (a1 : Int) (a2 : List F) (L11 : List F) (v13 : Int) : Option (LR ((List F) × Int) ((List F)) ((List F))) :=
 bsel (decide (v13 < a0)) (
  obind (at? L11 v13) fun (e14 : F) =>
  obind (i_Matrix_lessRow a0 a1 a2 e14 v13 0 v13 L11) fun (r15 : F) =>
  obind (setAt? L11 v13 r15) fun (L16 : List F) =>
  olet (IntKind.i64.wrap (v13 + 1)) fun (x17 : Int) =>
  some (LR.next (L16, x17))) (
  some (LR.out L11))
def i_Factor_solve_s2 (a0 : Int) (a1 : Int) (a2 : List F) : ((List F) × Int) → Option (LR ((List F) × Int) ((List F)) ((List F))) := fun s => i_Factor_solve_b2 a0 a1 a2 s.1 s.2
def i_Factor_solve_k2 (a0 : Int) (a1 : Int) (a2 : List F) (L18 : List F) : Option ((List F)) :=
 obind (i_Matrix_upperSolve a0 a1 a2 L18) fun (r20 : List F) =>
 some r20
def i_Factor_solve_k1 (a0 : Int) (a1 : Int) (a2 : List F) (L10 : List F) : Option ((List F)) :=
 obind (loopM (i_Factor_solve_s2 a0 a1 a2) (L10, 1)) fun z => osum z (fun e => i_Factor_solve_k2 a0 a1 a2 e) (fun r => some r)
def i_Factor_solve (a0 : Int) (a1 : Int) (a2 : List F) (a3 : List Int) (a4 : List F) : Option ((List F)) :=
 obind (loopM (i_Factor_solve_s1 a3 a4) (([] : List F), 0)) fun z => osum z (fun e => i_Factor_solve_k1 a0 a1 a2 e) (fun r => some r)
theorem i_Factor_solve_ok (a0 : Int) (a1 : Int) (a2 : List F) (a3 : List Int) (a4 : List F) (q0 : List F) (h : i_Factor_solve a0 a1 a2 a3 a4 = some q0) : Ev Tryz.prog 65 [agg [i64 a0, i64 a1, (sFc a2), sl a3.length (a3.map i64)], (sFc a4)] [] (oref 0 0 0 q0.length) [⟨0, some (q0.map f32)⟩] := by
 refine yE Tryz.func65 2 103 0 ([(0, agg [i64 a0, i64 a1, (sFc a2), sl a3.length (a3.map i64)]), (1, (sFc a4))]) [⟨0, none⟩, ⟨0, none⟩] rfl ?_
 unfold i_Factor_solve at h
 refine zQ<|yd rfl (ptr [i64 a0, i64 a1, (sFc a2), sl a3.length (a3.map i64)]) (TOp.box_s rfl rfl rfl)<|ya rfl nilsl<|zN ?_
 refine zQ<|yl rfl (ptr [i64 a0, i64 a1, (sFc a2), sl a3.length (a3.map i64)]) (LOp.fap und32 rfl siz27 rfl rfl rfl)<|yl rfl (ptr [i64 a0, i64 a1, (sFc a2), sl a3.length (a3.map i64)]) (LOp.fap und27 rfl siz2 rfl rfl rfl)<|yl rfl (i64 a0) (y2 agg2)<|ye rfl (oref 0 1 0 0) ([⟨1, some (([] : List F).map f32)⟩, ⟨0, none⟩]) (TOp.buildSlice_o (g := ⟨0, none⟩) (za := f32 (some 0)) (qs := []) 0 rfl und25 siz41 zer41 rfl zel41 rfl rfl trivial rfl)<|ya rfl (i64 a0)<|ya rfl (oref 0 1 0 0)<|zN ?_
 refine yS<|zQ<|yl rfl (ptr [sl a3.length (a3.map i64)]) (LOp.fap und32 rfl siz30 rfl rfl rfl)<|yl rfl (sl a3.length (a3.map i64)) (y2 agg30)<|yl rfl (i64 (a3.length : Int)) (LOp.len_sl und30 rfl rfl)<|ym rfl (i64 0)<|zN ?_
 obtain ⟨z3, hz_3, h⟩ := oS h
 refine RunC.cutN (fun τ Γ => ∃ (L10 : List F) (u8 : Nat) (u9 : Nat), WeakLe τ [(2, ptr [i64 a0, i64 a1, (sFc a2), sl a3.length (a3.map i64)]), (5, i64 a0), (6, oref 0 u8 0 L10.length)] ∧ DeadLe Γ [⟨u8, some (L10.map f32)⟩, ⟨u9, none⟩] ∧ z3 = .inl L10) ?_ ?_
 ·refine RunC.block (RunC.loop (RunL.loopM (x := z3) (i_Factor_solve_s1 a3 a4) (fun (s : (List F) × Int) τ Γ => ∃ (u1 : Nat) (u2 : Nat), WeakLe τ [(1, (sFc a4)), (2, ptr [i64 a0, i64 a1, (sFc a2), sl a3.length (a3.map i64)]), (5, i64 a0), (6, oref 0 u1 0 s.1.length), (15, sl a3.length (a3.map i64)), (16, i64 (a3.length : Int)), (17, i64 s.2)] ∧ DeadLe Γ [⟨u1, some (s.1.map f32)⟩, ⟨u2, none⟩]) ?_ _ _ _ hz_3 ⟨1, 0, ⟨aR, aR, aR, aR, aR, aR, aR, trivial⟩, ⟨⟨rfl, .inr rfl⟩, ⟨rfl, .inl rfl⟩, trivial⟩⟩))
  rintro ⟨L3, v4⟩ τ3 Γ3 y3_ ⟨u1, u2, hw3, hd3⟩ h3_ ho3 hr3
  refine RunC.wl (τ' := [(1, (sFc a4)), (2, ptr [i64 a0, i64 a1, (sFc a2), sl a3.length (a3.map i64)]), (5, i64 a0), (6, oref 0 u1 0 L3.length), (15, sl a3.length (a3.map i64)), (16, i64 (a3.length : Int)), (17, i64 v4)]) (Γ' := [⟨u1, some (L3.map f32)⟩, ⟨u2, none⟩]) hw3 hd3 ?_
  replace h3_ : i_Factor_solve_b1 a3 a4 L3 v4 = some y3_ := h3_
  unfold i_Factor_solve_b1 at h3_
  refine yS ?_
  rcases oB h3_ with ⟨hc1, h3_⟩ | ⟨hc1, h3_⟩
  ·refine yW<|yl rfl (b true) (LOp.eqb (LOp.lss rfl rfl rfl) hc1)<|zN ?_
   refine yS<|yT<|RunC.skip<|yS<|RunC.block<|yS ?_
   obtain ⟨e5, he2, h3_⟩ := oS h3_
   refine yW<|yl rfl (ptr [i64 e5]) (LOp.le (LOp.ix (f := i64) und30 siz2 rfl rfl rfl rfl he2) ALe.ptr)<|yl rfl (i64 e5) (y2 agg2)<|ya rfl (i64 e5)<|zN ?_
   obtain ⟨e6, he3, h3_⟩ := oS h3_
   obtain ⟨hm4, h3_⟩ := need_some h3_
   refine yW<|ym rfl (oref 0 u1 0 L3.length)<|ym rfl (sFc a4)<|ym rfl (i64 e5)<|yl rfl (ptr [f32 e6]) (LOp.le (LOp.ix (f := f32) und25 siz41 rfl rfl rfl rfl he3) ALe.ptr)<|yl rfl (f32 e6) (y2 agg41)<|ye rfl (oref 1 (u2 + 1) 0 1) ([⟨u1, some (L3.map f32)⟩, ⟨(u2 + 1), some (([e6] : List F).map f32)⟩]) (TOp.buildSlice_o (g := ⟨u2, none⟩) (za := f32 (some 0)) (qs := [(0, [f32 e6])]) 1 rfl und25 siz41 zer41 rfl zel41 rfl rfl ⟨rfl, ⟨_, ALe.refl _, rfl⟩, trivial⟩ rfl)<|ROps.app (f := f32) (xs := L3) (ys := ([e6] : List F)) (Γ' := [⟨(u1 + 1), some ((L3 ++ ([e6] : List F)).map f32)⟩, ⟨(u2 + 1), some (([e6] : List F).map f32)⟩]) rfl pun25 inf41 rfl rfl rfl rfl rfl rfl rfl rfl rfl (by simp) (ReadAs.own rfl (by simp)) (ones_map (fun _ => rfl)) (ap_by hm4) (ap_mx hm4) rfl<|ya rfl (oref 0 (u1 + 1) 0 (L3.length + 1))<|zN ?_
   refine RunC.wl (τ' := [(1, (sFc a4)), (2, ptr [i64 a0, i64 a1, (sFc a2), sl a3.length (a3.map i64)]), (5, i64 a0), (6, oref 0 (u1 + 1) 0 (L3.length + 1)), (15, sl a3.length (a3.map i64)), (16, i64 (a3.length : Int)), (17, i64 v4)]) (Γ' := [⟨(u1 + 1), some ((L3 ++ ([e6] : List F)).map f32)⟩, ⟨(u2 + 1), none⟩]) ⟨aR, aR, aR, aR, aR, aR, aR, trivial⟩ ⟨⟨rfl, .inr rfl⟩, ⟨rfl, .inl rfl⟩, trivial⟩ ?_
   obtain ⟨x7, hx5, h3_⟩ := oL h3_
   refine yW<|yl rfl (i64 x7) (LOp.eqr (LOp.add rfl rfl rfl) (congrArg (ik .i64) hx5))<|ym rfl (i64 x7)<|zN ?_
   cases oI h3_
   exact ⟨_, rfl, (u1 + 1), (u2 + 1), ⟨aR, aR, aR, (ALe.eq (by rw [(app_len rfl rfl)] <;> rfl)), aR, aR, aR, trivial⟩, ⟨⟨rfl, .inr rfl⟩, ⟨rfl, .inl rfl⟩, trivial⟩⟩
  ·refine yW<|yl rfl (b false) (LOp.eqb (LOp.lss rfl rfl rfl) hc1)<|zN ?_
   refine yS<|yF<|RunC.exit ?_
   cases oI h3_
   have hx := ho3 _ rfl
   exact ⟨L3, u1, u2, ⟨aR, aR, aR, trivial⟩, ⟨⟨rfl, .inr rfl⟩, ⟨rfl, .inl rfl⟩, trivial⟩, hx⟩
 ·rintro τ4 Γ4 ⟨L10, u8, u9, hw4, hd4, rfl⟩
  refine RunC.wl hw4 hd4 ?_
  replace h : i_Factor_solve_k1 a0 a1 a2 L10 = some q0 := h
  unfold i_Factor_solve_k1 at h
  refine yS<|zQ<|ya rfl (i64 1)<|zN ?_
  obtain ⟨z5, hz_5, h⟩ := oS h
  refine RunC.cutN (fun τ Γ => ∃ (L18 : List F), L18.length = L10.length ∧ WeakLe τ [(2, ptr [i64 a0, i64 a1, (sFc a2), sl a3.length (a3.map i64)]), (6, oref 0 u8 0 L10.length)] ∧ DeadLe Γ [⟨u8, some (L18.map f32)⟩, ⟨u9, none⟩] ∧ z5 = .inl L18) ?_ ?_
  ·refine RunC.block (RunC.loop (RunL.loopM (x := z5) (i_Factor_solve_s2 a0 a1 a2) (fun (s : (List F) × Int) τ Γ => s.1.length = L10.length ∧ WeakLe τ [(2, ptr [i64 a0, i64 a1, (sFc a2), sl a3.length (a3.map i64)]), (5, i64 a0), (6, oref 0 u8 0 L10.length), (9, i64 s.2)] ∧ DeadLe Γ [⟨u8, some (s.1.map f32)⟩, ⟨u9, none⟩]) ?_ _ _ _ hz_5 ⟨rfl, ⟨aR, aR, aR, aR, trivial⟩, ⟨⟨rfl, .inr rfl⟩, ⟨rfl, .inl rfl⟩, trivial⟩⟩))
   rintro ⟨L11, v13⟩ τ5 Γ5 y5_ ⟨hl12, hw5, hd5⟩ h5_ ho5 hr5
   refine RunC.wl (τ' := [(2, ptr [i64 a0, i64 a1, (sFc a2), sl a3.length (a3.map i64)]), (5, i64 a0), (6, oref 0 u8 0 L10.length), (9, i64 v13)]) (Γ' := [⟨u8, some (L11.map f32)⟩, ⟨u9, none⟩]) hw5 hd5 ?_
   replace hl12 : L11.length = L10.length := hl12
   replace h5_ : i_Factor_solve_b2 a0 a1 a2 L11 v13 = some y5_ := h5_
   unfold i_Factor_solve_b2 at h5_
   refine yS<|yS ?_
   rcases oB h5_ with ⟨hc6, h5_⟩ | ⟨hc6, h5_⟩
   ·refine yW<|ym rfl (i64 v13)<|ym rfl (i64 a0)<|yl rfl (b true) (LOp.eqb (LOp.lss rfl rfl rfl) hc6)<|zN ?_
    refine yT<|RunC.skip<|yS<|RunC.block ?_
    obtain ⟨e14, he7, h5_⟩ := oS h5_
    obtain ⟨r15, hf8, h5_⟩ := oS h5_
    obtain ⟨L16, he9, h5_⟩ := oS h5_
    refine RunC.region_draw (Γ' := [⟨u8, some (L11.map f32)⟩, ⟨u9, none⟩]) 13 mixed 
     (tm rfl (oref 0 u8 0 L10.length) <|
     (tm rfl (i64 v13) <|
     (tl rfl (ptr [i64 a0, i64 a1, (sFc a2), sl a3.length (a3.map i64)]) (LOp.fap und32 rfl siz27 rfl rfl rfl) <|
     (tl rfl (agg (mXc a0 a1 a2)) (yL agg27 siz27) <|
     (tm rfl (oref 0 u8 0 L10.length) <|
     (tm rfl (i64 v13) <|
     (TR.d (r := optr 0 u8 v13.toNat) (fs := []) rfl rfl (TOp.ixo und25 siz41 rfl rfl rfl (at_in he7 hl12) rfl) <|
     (TR.d (r := f32 e14) (fs := []) rfl rfl (TOp.load1_o rfl (at_cell he7) agg41 rfl rfl) <|
     (tm rfl (i64 v13) <|
     (tm rfl (i64 v13) <|
     (tm rfl (oref 0 u8 0 L10.length) <|
     (TR.d (r := f32 r15) (fs := []) rfl rfl (TOp.callB (CallAs.func ent107 rfl rfl) (Bors.cons (Bor.agg (bP (bP (bS bN)))) (bP (bP (bP (bP (Bors.cons (Bor.own (f := f32) (fun _ => rfl) rfl hl12) bN)))))) rfl rfl (i_Matrix_lessRow_ok a0 a1 a2 e14 v13 0 v13 L11 r15 hf8)) <|
     (TR.d (r := optr 0 u8 v13.toNat) (fs := []) rfl rfl (TOp.ixo und25 siz41 rfl rfl rfl (set_in he9 hl12) rfl) <|
     TR.nil))))))))))))) rfl (by kernel_rfl) rfl fills_nil rfl ?_
    iterate 13 refine ROps.dropS ?_
    refine ROps.drop0<|ROps.st (f := f32) (i := v13) (Γ' := [⟨u8, some (L16.map f32)⟩, ⟨u9, none⟩]) rfl siz41 rfl rfl rfl aR rfl rfl rfl he9 rfl<|zN ?_
    refine RunC.wl (τ' := [(2, ptr [i64 a0, i64 a1, (sFc a2), sl a3.length (a3.map i64)]), (5, i64 a0), (6, oref 0 u8 0 L10.length), (9, i64 v13)]) (Γ' := [⟨u8, some (L16.map f32)⟩, ⟨u9, none⟩]) ⟨aR, aR, aR, aR, trivial⟩ ⟨⟨rfl, .inr rfl⟩, ⟨rfl, .inl rfl⟩, trivial⟩ ?_
    obtain ⟨x17, hx10, h5_⟩ := oL h5_
    refine yW<|ym rfl (i64 v13)<|yl rfl (i64 x17) (LOp.eqr (LOp.add rfl rfl rfl) (congrArg (ik .i64) hx10))<|ya rfl (i64 x17)<|zN ?_
    cases oI h5_
    exact ⟨_, rfl, ((setAt?_len he9).trans hl12), ⟨aR, aR, aR, aR, trivial⟩, ⟨⟨rfl, .inr rfl⟩, ⟨rfl, .inl rfl⟩, trivial⟩⟩
   ·refine yW<|ym rfl (i64 v13)<|ym rfl (i64 a0)<|yl rfl (b false) (LOp.eqb (LOp.lss rfl rfl rfl) hc6)<|zN ?_
    refine yF<|RunC.exit ?_
    cases oI h5_
    have hx := ho5 _ rfl
    exact ⟨L11, hl12, ⟨aR, aR, trivial⟩, ⟨⟨rfl, .inr rfl⟩, ⟨rfl, .inl rfl⟩, trivial⟩, hx⟩
  ·rintro τ6 Γ6 ⟨L18, hl19, hw6, hd6, rfl⟩
   refine RunC.wl hw6 hd6 ?_
   replace h : i_Factor_solve_k2 a0 a1 a2 L18 = some q0 := h
   unfold i_Factor_solve_k2 at h
   refine yS ?_
   obtain ⟨r20, hf11, h⟩ := oS h
   refine yW<|yl rfl (ptr [i64 a0, i64 a1, (sFc a2), sl a3.length (a3.map i64)]) (LOp.fap und32 rfl siz27 rfl rfl rfl)<|yl rfl (agg (mXc a0 a1 a2)) (yL agg27 siz27)<|ym rfl (oref 0 u8 0 L10.length)<|ye rfl (oref 1 (u9 + 1) 0 r20.length) [⟨u8, some (L18.map f32)⟩, ⟨(u9 + 1), some (r20.map f32)⟩] (TOp.eqr (TOp.callBN (ls := [(r20.map f32)]) [1] (CallAs.func ent108 rfl rfl) (Bors.cons (Bor.agg (bP (bP (bS bN)))) (Bors.cons (Bor.own (f := f32) (fun _ => rfl) rfl hl19) bN)) rfl (i_Matrix_upperSolve_ok a0 a1 a2 L18 r20 hf11) (and_all (lts0_map (f := f32) (fun _ => rfl) _) rfl) (and_all (noss_map (f := f32) (fun _ => rfl) _) rfl) rfl (by decide) (ns_of ⟨⟨_, rfl⟩, trivial⟩)) (by simp [ren, rens, sigma, newNames]))<|ya rfl (oref 1 (u9 + 1) 0 r20.length)<|zN ?_
   refine RunC.ret ?_
   have hq := oI h
   subst q0
   exact bodyQ.mk (r' := oref 1 (u9 + 1) 0 r20.length) [(1, (u9 + 1))] (.inr rfl) rfl (ndB_ok rfl) (by simp [ren, rens, sigma]) rfl (Res.one rfl (RV.tmp rfl)) (SelL.arr0 (f := f32) (fun _ => rfl) rfl trivial)
def i_allFinite_0o (a0 : List F) : Option ((Bool × (List F)) ⊕ (Bool × (List F) × (List F))) :=
 obind (i_areFinite a0) fun (r1 : Bool) =>
 bsel r1 (
  some (Sum.inl (true, a0))) (
  some (Sum.inr (false, a0, ([] : List F))))
theorem i_allFinite_0o_ok0 (a0 : List F) (q0 : Bool) (q1 : List F) (h : i_allFinite_0o a0 = some (Sum.inl (q0, q1))) : Ev Tryz.prog 64 [oref 0 0 0 a0.length] [⟨0, some (a0.map f32)⟩] (tup [oref 0 0 0 q1.length, b q0]) [⟨0, some (q1.map f32)⟩] := by
 refine Ev.start Tryz.func64 rfl rfl 1 (τ := [(0, oref 0 0 0 a0.length)]) rfl (Γ' := [⟨0, some (a0.map f32)⟩, ⟨0, none⟩]) rfl (n := 16) rfl (g := 1) rfl (by decide) ?_
 unfold i_allFinite_0o at h
 refine zQ<|ya rfl nilsl<|ya rfl (b false)<|zN ?_
 refine yS<|yS ?_
 obtain ⟨r1, hf1, h⟩ := oS h
 rcases oB h with ⟨hc2, h⟩ | ⟨hc2, h⟩
 ·refine yW<|ym rfl (oref 0 0 0 a0.length)<|yd rfl (b true) (TOp.eqb (yc ent99 rfl rfl (Bors.cons (Bor.own (f := f32) (fun _ => rfl) rfl rfl) bN) (i_areFinite_ok a0 r1 hf1)) hc2)<|yl rfl (b false) y1<|zN ?_
  refine yF<|RunC.skip<|zQ<|ym rfl (oref 0 0 0 a0.length)<|ya rfl (oref 0 0 0 a0.length)<|ya rfl (b true)<|zN ?_
  refine RunC.ret ?_
  have hq := oI h
  have hq := Sum.inl.inj hq
  obtain ⟨hq0, hq⟩ := Prod.mk.inj hq
  subst q0
  subst q1
  exact yB (tup [oref 0 0 0 a0.length, b true]) [(0, 0)] (Res.two rfl (RV.tmp rfl) (RV.tmp rfl)) (SelL.arr (f := f32) (fun _ => rfl) rfl trivial)
 ·refine yW<|ym rfl (oref 0 0 0 a0.length)<|yd rfl (b false) (TOp.eqb (yc ent99 rfl rfl (Bors.cons (Bor.own (f := f32) (fun _ => rfl) rfl rfl) bN) (i_areFinite_ok a0 r1 hf1)) hc2)<|yl rfl (b true) y0<|zN ?_
  refine yT<|zQ<|ya rfl nilsl<|ya rfl (b false)<|zN ?_
  cases oI h
theorem i_allFinite_0o_ok1 (a0 : List F) (q0 : Bool) (q1 : List F) (q2 : List F) (h : i_allFinite_0o a0 = some (Sum.inr (q0, q1, q2))) : Ev Tryz.prog 64 [oref 0 0 0 a0.length] [⟨0, some (a0.map f32)⟩] (tup [oref 1 0 0 q2.length, b q0]) [⟨0, some (q1.map f32)⟩, ⟨0, some (q2.map f32)⟩] := by
 refine Ev.start Tryz.func64 rfl rfl 1 (τ := [(0, oref 0 0 0 a0.length)]) rfl (Γ' := [⟨0, some (a0.map f32)⟩, ⟨0, none⟩]) rfl (n := 16) rfl (g := 1) rfl (by decide) ?_
 unfold i_allFinite_0o at h
 refine zQ<|ya rfl nilsl<|ya rfl (b false)<|zN ?_
 refine yS<|yS ?_
 obtain ⟨r1, hf1, h⟩ := oS h
 rcases oB h with ⟨hc2, h⟩ | ⟨hc2, h⟩
 ·refine yW<|ym rfl (oref 0 0 0 a0.length)<|yd rfl (b true) (TOp.eqb (yc ent99 rfl rfl (Bors.cons (Bor.own (f := f32) (fun _ => rfl) rfl rfl) bN) (i_areFinite_ok a0 r1 hf1)) hc2)<|yl rfl (b false) y1<|zN ?_
  refine yF<|RunC.skip<|zQ<|ym rfl (oref 0 0 0 a0.length)<|ya rfl (oref 0 0 0 a0.length)<|ya rfl (b true)<|zN ?_
  cases oI h
 ·refine yW<|ym rfl (oref 0 0 0 a0.length)<|yd rfl (b false) (TOp.eqb (yc ent99 rfl rfl (Bors.cons (Bor.own (f := f32) (fun _ => rfl) rfl rfl) bN) (i_areFinite_ok a0 r1 hf1)) hc2)<|yl rfl (b true) y0<|zN ?_
  refine yT<|zQ<|ya rfl nilsl<|ya rfl (b false)<|zN ?_
  refine RunC.nil_slot (Γ' := [⟨0, some (a0.map f32)⟩, ⟨1, some (([] : List F).map f32)⟩]) 2 1 rfl rfl rfl<|RunC.ret ?_
  have hq := oI h
  have hq := Sum.inr.inj hq
  obtain ⟨hq0, hq⟩ := Prod.mk.inj hq
  obtain ⟨hq1, hq⟩ := Prod.mk.inj hq
  subst q0
  subst q1
  subst q2
  exact yB (tup [oref 1 1 0 (([] : List F).length), b false]) [(0, 0), (1, 1)] (Res.eq (Res.two rfl (RV.tmp rfl) (RV.tmp rfl)) (by rw [(show ([] : List F).length = 0 from rfl)] <;> rfl)) (SelL.arr (f := f32) (fun _ => rfl) rfl (SelL.arr0 (f := f32) (fun _ => rfl) rfl trivial))
def i_FactorSolve (a0 : Int) (a1 : Int) (a2 : List F) (a3 : List Int) (a4 : List F) : Option (Bool × (List F)) :=
 obind (i_Factor_takes a0 a1 a2 a3 a4) fun (r1 : Bool) =>
 bsel r1 (
  obind (i_Factor_solve a0 a1 a2 a3 a4) fun (r2 : List F) =>
  obind (i_allFinite_0o r2) (fun z => osum z (fun y => obind2 (some y) fun (r3 : Bool) (r4 : List F) =>
   need (decide (r4.length = r2.length)) <|
   some (r3, r4)) (fun y => obind3 (some y) fun (r5 : Bool) (r6 : List F) (r7 : List F) =>
   need (decide (r6.length = r2.length)) <|
   some (r5, r7)))) (
  some (false, ([] : List F)))
theorem i_FactorSolve_ok (a0 : Int) (a1 : Int) (a2 : List F) (a3 : List Int) (a4 : List F) (q0 : Bool) (q1 : List F) (h : i_FactorSolve a0 a1 a2 a3 a4 = some (q0, q1)) : Ev Tryz.prog 18 [agg [i64 a0, i64 a1, (sFc a2), sl a3.length (a3.map i64)], (sFc a4)] [] (tup [oref 0 0 0 q1.length, b q0]) [⟨0, some (q1.map f32)⟩] := by
 refine yE Tryz.func18 2 33 0 ([(0, agg [i64 a0, i64 a1, (sFc a2), sl a3.length (a3.map i64)]), (1, (sFc a4))]) [⟨0, none⟩, ⟨0, none⟩] rfl ?_
 unfold i_FactorSolve at h
 refine zQ<|yd rfl (ptr [i64 a0, i64 a1, (sFc a2), sl a3.length (a3.map i64)]) (TOp.box_s rfl rfl rfl)<|ya rfl nilsl<|ya rfl (b false)<|zN ?_
 refine yS<|yS ?_
 obtain ⟨r1, hf1, h⟩ := oS h
 rcases oB h with ⟨hc2, h⟩ | ⟨hc2, h⟩
 ·refine yW<|yl rfl (agg [i64 a0, i64 a1, (sFc a2), sl a3.length (a3.map i64)]) (yL agg32 siz32)<|ym rfl (sFc a4)<|yd rfl (b true) (TOp.eqb (TOp.callB (CallAs.func ent63 rfl rfl) (Bors.cons (Bor.agg (bP (bP (bS (bS bN))))) (bS bN)) rfl rfl (i_Factor_takes_ok a0 a1 a2 a3 a4 r1 hf1)) hc2)<|yl rfl (b false) y1<|zN ?_
  refine yF<|RunC.skip<|yS ?_
  obtain ⟨r2, hf3, h⟩ := oS h
  obtain ⟨z1, hf4, h⟩ := oS h
  rcases z1 with z1 | z1
  ·replace h := (osum_inl _ _ _).symm.trans h
   obtain ⟨r3, r4, hz2, h⟩ := obind2_some h
   cases hz2
   obtain ⟨hn5, h⟩ := need_some h
   refine yW<|yl rfl (agg [i64 a0, i64 a1, (sFc a2), sl a3.length (a3.map i64)]) (yL agg32 siz32)<|ym rfl (sFc a4)<|ye rfl (oref 0 1 0 r2.length) [⟨1, some (r2.map f32)⟩, ⟨0, none⟩] (TOp.callBN (ls := [(r2.map f32)]) [0] (CallAs.func ent65 rfl rfl) (Bors.cons (Bor.agg (bP (bP (bS (bS bN))))) (bS bN)) rfl (i_Factor_solve_ok a0 a1 a2 a3 a4 r2 hf3) (and_all (lts0_map (f := f32) (fun _ => rfl) _) rfl) (and_all (noss_map (f := f32) (fun _ => rfl) _) rfl) rfl (by decide) (ns_of ⟨⟨_, rfl⟩, trivial⟩))<|ROps.callO (A := [oref 0 1 0 r2.length]) (args := [oref 0 0 0 r2.length]) (Γc := [⟨0, some (r2.map f32)⟩]) (Γc' := [⟨0, some (r4.map f32)⟩]) (r' := tup [oref 0 1 0 r2.length, b r3]) (Γ' := [⟨1, some (r4.map f32)⟩, ⟨0, none⟩]) [(0, 1)] [] rfl (CallAs.func ent64 rfl rfl) rfl rfl (SelOk.of (ndB_ok rfl) (SelL.arr0 (f := f32) (fun _ => rfl) rfl trivial)) (live_of ⟨⟨_, _, rfl⟩, trivial⟩) (by simp [ren, rens, sigma, rens_f32, rens_f64, rens_i64, rens_ik, rens_str, rens_cp]) rfl (i_allFinite_0o_ok0 r2 r3 r4 hf4) rfl (news_of trivial) (ndB_ok rfl) (by simp [ren, rens, sigma, of_decide_eq_true hn5]) (by simp [backOb, sigma, ren, rens, rens_f32, rens_f64, rens_i64, rens_ik, rens_str, rens_cp])<|yl rfl (oref 0 1 0 r2.length) y3<|yl rfl (b r3) y3<|ya rfl (oref 0 1 0 r2.length)<|ya rfl (b r3)<|zN ?_
   refine RunC.ret ?_
   have hq := oI h
   obtain ⟨hq0, hq⟩ := Prod.mk.inj hq
   subst q0
   subst q1
   exact yB (tup [oref 0 1 0 r4.length, b r3]) [(0, 1)] (Res.eq (Res.two rfl (RV.tmp rfl) (RV.tmp rfl)) (by rw [(show r4.length = r2.length from (of_decide_eq_true hn5))] <;> rfl)) (SelL.arr0 (f := f32) (fun _ => rfl) rfl trivial)
  ·replace h := (osum_inr _ _ _).symm.trans h
   obtain ⟨r5, r6, r7, hz3, h⟩ := obind3_some h
   cases hz3
   obtain ⟨hn6, h⟩ := need_some h
   refine yW<|yl rfl (agg [i64 a0, i64 a1, (sFc a2), sl a3.length (a3.map i64)]) (yL agg32 siz32)<|ym rfl (sFc a4)<|ye rfl (oref 0 1 0 r2.length) [⟨1, some (r2.map f32)⟩, ⟨0, none⟩] (TOp.callBN (ls := [(r2.map f32)]) [0] (CallAs.func ent65 rfl rfl) (Bors.cons (Bor.agg (bP (bP (bS (bS bN))))) (bS bN)) rfl (i_Factor_solve_ok a0 a1 a2 a3 a4 r2 hf3) (and_all (lts0_map (f := f32) (fun _ => rfl) _) rfl) (and_all (noss_map (f := f32) (fun _ => rfl) _) rfl) rfl (by decide) (ns_of ⟨⟨_, rfl⟩, trivial⟩))<|ROps.callO (A := [oref 0 1 0 r2.length]) (args := [oref 0 0 0 r2.length]) (Γc := [⟨0, some (r2.map f32)⟩]) (Γc' := [⟨0, some (r6.map f32)⟩, ⟨0, some (r7.map f32)⟩]) (r' := tup [oref 1 1 0 r7.length, b r5]) (Γ' := [⟨1, some (r6.map f32)⟩, ⟨1, some (r7.map f32)⟩]) [(0, 1)] [(1, 1)] rfl (CallAs.func ent64 rfl rfl) rfl rfl (SelOk.of (ndB_ok rfl) (SelL.arr0 (f := f32) (fun _ => rfl) rfl trivial)) (live_of ⟨⟨_, _, rfl⟩, trivial⟩) (by simp [ren, rens, sigma, rens_f32, rens_f64, rens_i64, rens_ik, rens_str, rens_cp]) rfl (i_allFinite_0o_ok1 r2 r5 r6 r7 hf4) rfl (news_of ⟨⟨_, rfl, rfl⟩, trivial⟩) (show List.Nodup [0, 1] from by decide) (by simp [ren, rens, sigma, of_decide_eq_true hn6]) (by simp [backOb, sigma, ren, rens, rens_f32, rens_f64, rens_i64, rens_ik, rens_str, rens_cp])<|yl rfl (oref 1 1 0 r7.length) y3<|yl rfl (b r5) y3<|ya rfl (oref 1 1 0 r7.length)<|ya rfl (b r5)<|zN ?_
   refine RunC.ret ?_
   have hq := oI h
   obtain ⟨hq0, hq⟩ := Prod.mk.inj hq
   subst q0
   subst q1
   exact yB (tup [oref 1 1 0 r7.length, b r5]) [(1, 1)] (Res.two rfl (RV.tmp rfl) (RV.tmp rfl)) (SelL.arr0 (f := f32) (fun _ => rfl) rfl trivial)
 ·refine yW<|yl rfl (agg [i64 a0, i64 a1, (sFc a2), sl a3.length (a3.map i64)]) (yL agg32 siz32)<|ym rfl (sFc a4)<|yd rfl (b false) (TOp.eqb (TOp.callB (CallAs.func ent63 rfl rfl) (Bors.cons (Bor.agg (bP (bP (bS (bS bN))))) (bS bN)) rfl rfl (i_Factor_takes_ok a0 a1 a2 a3 a4 r1 hf1)) hc2)<|yl rfl (b true) y0<|zN ?_
  refine yT<|zQ<|ya rfl nilsl<|ya rfl (b false)<|zN ?_
  refine RunC.nil_slot (Γ' := [⟨1, some (([] : List F).map f32)⟩, ⟨0, none⟩]) 4 0 rfl rfl rfl<|RunC.ret ?_
  have hq := oI h
  obtain ⟨hq0, hq⟩ := Prod.mk.inj hq
  subst q0
  subst q1
  exact yB (tup [oref 0 1 0 (([] : List F).length), b false]) [(0, 1)] (Res.eq (Res.two rfl (RV.tmp rfl) (RV.tmp rfl)) (by rw [(show ([] : List F).length = 0 from rfl)] <;> rfl)) (SelL.arr0 (f := f32) (fun _ => rfl) rfl trivial)
def i_Matrix_lessColumn_b1 (a0 : Int) (a1 : Int) (a2 : List F) (a4 : Int) (a6 : Int) (a7 : List F) (y1 : F) (v2 : Int) : Option (LR (F × Int) (F) (F)) :=
 bsel (decide (v2 < a6)) (
  obind (i_Matrix_at a0 a1 a2 v2 a4) fun (r3 : F) =>
  obind (at? a7 v2) fun (e4 : F) =>
  obind (i_mul r3 e4) fun (r5 : F) =>
  olet (fop .sub .f32 y1 r5) fun (x6 : F) =>
  olet (IntKind.i64.wrap (v2 + 1)) fun (x7 : Int) =>
  some (LR.next (x6, x7))) (
  some (LR.out y1))
def i_Matrix_lessColumn_s1 (a0 : Int) (a1 : Int) (a2 : List F) (a4 : Int) (a6 : Int) (a7 : List F) : (F × Int) → Option (LR (F × Int) (F) (F)) := fun s => i_Matrix_lessColumn_b1 a0 a1 a2 a4 a6 a7 s.1 s.2
def i_Matrix_lessColumn_k1 (y8 : F) : Option (F) :=
 some y8
def i_Matrix_lessColumn (a0 : Int) (a1 : Int) (a2 : List F) (a3 : F) (a4 : Int) (a5 : Int) (a6 : Int) (a7 : List F) : Option (F) :=
 obind (loopM (i_Matrix_lessColumn_s1 a0 a1 a2 a4 a6 a7) (a3, a5)) fun z => osum z (fun e => i_Matrix_lessColumn_k1 e) (fun r => some r)
theorem i_Matrix_lessColumn_ok (a0 : Int) (a1 : Int) (a2 : List F) (a3 : F) (a4 : Int) (a5 : Int) (a6 : Int) (a7 : List F) (q0 : F) (h : i_Matrix_lessColumn a0 a1 a2 a3 a4 a5 a6 a7 = some q0) : Ev Tryz.prog 67 [agg (mXc a0 a1 a2), f32 a3, i64 a4, i64 a5, i64 a6, (sFc a7)] [] (f32 q0) [] := by
 refine yE Tryz.func67 0 65 0 [(0, agg (mXc a0 a1 a2)), (1, f32 a3), (2, i64 a4), (3, i64 a5), (4, i64 a6), (5, (sFc a7))] [] rfl ?_
 unfold i_Matrix_lessColumn at h
 refine zQ<|yd rfl (ptr (mXc a0 a1 a2)) (TOp.box_s rfl rfl rfl)<|yl rfl (f32 (some 0)) (LOp.le (LOp.assign rfl rfl) (ALe.fl (by kernel_rfl) (by kernel_rfl)))<|zN ?_
 refine yS<|zQ<|ym rfl (i64 a5)<|ya rfl (i64 a5)<|zN ?_
 obtain ⟨z2, hz_2, h⟩ := oS h
 refine RunC.cutN (fun τ Γ => ∃ (y8 : F), WeakLe τ [(1, f32 y8)] ∧ DeadLe Γ [] ∧ z2 = .inl y8) ?_ ?_
 ·refine RunC.block (RunC.loop (RunL.loopM (x := z2) (i_Matrix_lessColumn_s1 a0 a1 a2 a4 a6 a7) (fun (s : F × Int) τ Γ => WeakLe τ [(1, f32 s.1), (2, i64 a4), (4, i64 a6), (5, (sFc a7)), (6, ptr (mXc a0 a1 a2)), (13, i64 s.2)] ∧ DeadLe Γ []) ?_ _ _ _ hz_2 ⟨⟨aR, aR, aR, aR, aR, aR, trivial⟩, trivial⟩))
  rintro ⟨y1, v2⟩ τ2 Γ2 y2_ ⟨hw2, hd2⟩ h2_ ho2 hr2
  refine RunC.wl (τ' := [(1, f32 y1), (2, i64 a4), (4, i64 a6), (5, (sFc a7)), (6, ptr (mXc a0 a1 a2)), (13, i64 v2)]) (Γ' := []) hw2 hd2 ?_
  replace h2_ : i_Matrix_lessColumn_b1 a0 a1 a2 a4 a6 a7 y1 v2 = some y2_ := h2_
  unfold i_Matrix_lessColumn_b1 at h2_
  refine yS<|yS ?_
  rcases oB h2_ with ⟨hc1, h2_⟩ | ⟨hc1, h2_⟩
  ·refine yW<|ym rfl (i64 v2)<|ym rfl (i64 a6)<|yl rfl (b true) (LOp.eqb (LOp.lss rfl rfl rfl) hc1)<|zN ?_
   refine yT<|RunC.skip<|yS<|RunC.block ?_
   obtain ⟨r3, hf2, h2_⟩ := oS h2_
   obtain ⟨e4, he3, h2_⟩ := oS h2_
   obtain ⟨r5, hf4, h2_⟩ := oS h2_
   obtain ⟨x6, hx5, h2_⟩ := oL h2_
   refine RunC.region_draw (Γ' := []) 12 mixed 
    (tm rfl (f32 y1) <|
    (tl rfl (agg (mXc a0 a1 a2)) (yL agg27 siz27) <|
    (tm rfl (i64 v2) <|
    (tm rfl (i64 a4) <|
    (TR.d (r := f32 r3) (fs := []) rfl rfl (TOp.callB (CallAs.func ent41 rfl rfl) (Bors.cons (Bor.agg (bP (bP (bS bN)))) (bP bN0)) rfl rfl (i_Matrix_at_ok a0 a1 a2 v2 a4 r3 hf2)) <|
    (tm rfl (sFc a7) <|
    (tm rfl (i64 v2) <|
    (tl rfl (ptr [f32 e4]) (LOp.le (LOp.ix (f := f32) und25 siz41 rfl rfl rfl rfl he3) ALe.ptr) <|
    (tl rfl (f32 e4) (y2 agg41) <|
    (TR.d (r := f32 r5) (fs := []) rfl rfl (yc ent80 rfl rfl (bP bN0) (i_mul_ok r3 e4 r5 hf4)) <|
    (TR.d (r := f32 x6) (fs := []) rfl rfl (TOp.eqr (TOp.fop (.inr (.inl rfl)) rfl (OpF.tmp rfl) (OpF.tmp rfl)) (congrArg (f .f32) hx5)) <|
    (tl rfl (f32 x6) (LOp.assign rfl rfl) <|
    TR.nil)))))))))))) rfl (by kernel_rfl) rfl fills_nil rfl ?_
   iterate 12 refine ROps.dropS ?_
   refine ROps.drop0<|zN ?_
   refine RunC.wl (τ' := [(1, f32 x6), (2, i64 a4), (4, i64 a6), (5, (sFc a7)), (6, ptr (mXc a0 a1 a2)), (13, i64 v2)]) (Γ' := []) ⟨aR, aR, aR, aR, aR, aR, trivial⟩ trivial ?_
   obtain ⟨x7, hx6, h2_⟩ := oL h2_
   refine yW<|ym rfl (i64 v2)<|yl rfl (i64 x7) (LOp.eqr (LOp.add rfl rfl rfl) (congrArg (ik .i64) hx6))<|ya rfl (i64 x7)<|zN ?_
   cases oI h2_
   exact ⟨_, rfl, ⟨aR, aR, aR, aR, aR, aR, trivial⟩, trivial⟩
  ·refine yW<|ym rfl (i64 v2)<|ym rfl (i64 a6)<|yl rfl (b false) (LOp.eqb (LOp.lss rfl rfl rfl) hc1)<|zN ?_
   refine yF<|RunC.exit ?_
   cases oI h2_
   have hx := ho2 _ rfl
   exact ⟨y1, ⟨aR, trivial⟩, trivial, hx⟩
 ·rintro τ3 Γ3 ⟨y8, hw3, hd3, rfl⟩
  refine RunC.wl hw3 hd3 ?_
  replace h : i_Matrix_lessColumn_k1 y8 = some q0 := h
  unfold i_Matrix_lessColumn_k1 at h
  refine zQ<|ym rfl (f32 y8)<|ya rfl (f32 y8)<|zN ?_
  refine RunC.ret ?_
  have hq := oI h
  subst q0
  exact bodyQ.pure (.inr rfl) rfl (Res.one rfl (RV.tmp rfl))
def i_FactorSolveFlipped_b1 (a0 : Int) (a1 : Int) (a2 : List F) (L3 : List F) (v5 : Int) : Option (LR ((List F) × Int) ((List F)) (Bool × (List F))) :=
 bsel (decide (v5 < a0)) (
  obind (at? L3 v5) fun (e6 : F) =>
  obind (i_Matrix_lessColumn a0 a1 a2 e6 v5 0 v5 L3) fun (r7 : F) =>
  obind (i_Matrix_at a0 a1 a2 v5 v5) fun (r8 : F) =>
  olet (fop .quo .f32 r7 r8) fun (x9 : F) =>
  obind (setAt? L3 v5 x9) fun (L10 : List F) =>
  olet (IntKind.i64.wrap (v5 + 1)) fun (x11 : Int) =>
  some (LR.next (L10, x11))) (
  some (LR.out L3))
def i_FactorSolveFlipped_s1 (a0 : Int) (a1 : Int) (a2 : List F) : ((List F) × Int) → Option (LR ((List F) × Int) ((List F)) (Bool × (List F))) := fun s => i_FactorSolveFlipped_b1 a0 a1 a2 s.1 s.2
def i_FactorSolveFlipped_b2 (a0 : Int) (a1 : Int) (a2 : List F) (a3 : List Int) (L15 : List F) (L17 : List F) (v19 : Int) : Option (LR ((List F) × (List F) × Int) ((List F)) (Bool × (List F))) :=
 bsel (decide (0 ≤ v19)) (
  obind (at? L15 v19) fun (e20 : F) =>
  olet (IntKind.i64.wrap (v19 + 1)) fun (x21 : Int) =>
  obind (i_Matrix_lessColumn a0 a1 a2 e20 v19 x21 a0 L15) fun (r22 : F) =>
  obind (setAt? L15 v19 r22) fun (L23 : List F) =>
  obind (at? a3 v19) fun (e24 : Int) =>
  obind (at? L23 v19) fun (e25 : F) =>
  obind (setAt? L17 e24 e25) fun (L26 : List F) =>
  olet (IntKind.i64.wrap (v19 - 1)) fun (x27 : Int) =>
  some (LR.next (L23, L26, x27))) (
  some (LR.out L17))
def i_FactorSolveFlipped_s2 (a0 : Int) (a1 : Int) (a2 : List F) (a3 : List Int) : ((List F) × (List F) × Int) → Option (LR ((List F) × (List F) × Int) ((List F)) (Bool × (List F))) := fun s => i_FactorSolveFlipped_b2 a0 a1 a2 a3 s.1 s.2.1 s.2.2
def i_FactorSolveFlipped_k2 (a0 : Int) (L28 : List F) : Option (Bool × (List F)) :=
 obind (i_allFinite_0o L28) (fun z => osum z (fun y => obind2 (some y) fun (r30 : Bool) (r31 : List F) =>
  need (decide (r31.length = a0.toNat)) <|
  some (r30, r31)) (fun y => obind3 (some y) fun (r32 : Bool) (r33 : List F) (r34 : List F) =>
  need (decide (r33.length = a0.toNat)) <|
  some (r32, r34)))
def i_FactorSolveFlipped_k1 (a0 : Int) (a1 : Int) (a2 : List F) (a3 : List Int) (L12 : List F) : Option (Bool × (List F)) :=
 need (mkok 4 a0) <|
 olet (IntKind.i64.wrap (a0 - 1)) fun (x14 : Int) =>
 obind (loopM (i_FactorSolveFlipped_s2 a0 a1 a2 a3) (L12, (List.replicate a0.toNat (some 0)), x14)) fun z => osum z (fun e => i_FactorSolveFlipped_k2 a0 e) (fun r => some r)
def i_FactorSolveFlipped (a0 : Int) (a1 : Int) (a2 : List F) (a3 : List Int) (a4 : List F) : Option (Bool × (List F)) :=
 obind (i_Factor_takes a0 a1 a2 a3 a4) fun (r1 : Bool) =>
 bsel r1 (
  obind (x_slices_Clone_float32_float32 a4) fun (r2 : List F) =>
  obind (loopM (i_FactorSolveFlipped_s1 a0 a1 a2) (r2, 0)) fun z => osum z (fun e => i_FactorSolveFlipped_k1 a0 a1 a2 a3 e) (fun r => some r)) (
  some (false, ([] : List F)))
theorem i_FactorSolveFlipped_ok (a0 : Int) (a1 : Int) (a2 : List F) (a3 : List Int) (a4 : List F) (q0 : Bool) (q1 : List F) (h : i_FactorSolveFlipped a0 a1 a2 a3 a4 = some (q0, q1)) : Ev Tryz.prog 19 [agg [i64 a0, i64 a1, (sFc a2), sl a3.length (a3.map i64)], (sFc a4)] [] (tup [oref 0 0 0 q1.length, b q0]) [⟨0, some (q1.map f32)⟩] := by
 refine yE Tryz.func19 2 165 0 ([(0, agg [i64 a0, i64 a1, (sFc a2), sl a3.length (a3.map i64)]), (1, (sFc a4))]) [⟨0, none⟩, ⟨0, none⟩] rfl ?_
 unfold i_FactorSolveFlipped at h
 refine zQ<|yd rfl (ptr [i64 a0, i64 a1, (sFc a2), sl a3.length (a3.map i64)]) (TOp.box_s rfl rfl rfl)<|ya rfl nilsl<|ya rfl (b false)<|zN ?_
 refine yS<|yS ?_
 obtain ⟨r1, hf1, h⟩ := oS h
 rcases oB h with ⟨hc2, h⟩ | ⟨hc2, h⟩
 ·refine yW<|yl rfl (agg [i64 a0, i64 a1, (sFc a2), sl a3.length (a3.map i64)]) (yL agg32 siz32)<|ym rfl (sFc a4)<|yd rfl (b true) (TOp.eqb (TOp.callB (CallAs.func ent63 rfl rfl) (Bors.cons (Bor.agg (bP (bP (bS (bS bN))))) (bS bN)) rfl rfl (i_Factor_takes_ok a0 a1 a2 a3 a4 r1 hf1)) hc2)<|yl rfl (b false) y1<|zN ?_
  refine yF<|RunC.skip<|yS ?_
  obtain ⟨r2, hf3, h⟩ := oS h
  refine RunC.region_draw (Γ' := [⟨1, some (r2.map f32)⟩, ⟨0, none⟩]) 7 mixed 
   (tl rfl (ptr [i64 a0, i64 a1, (sFc a2), sl a3.length (a3.map i64)]) (LOp.fap und32 rfl siz27 rfl rfl rfl) <|
   (tl rfl (ptr [i64 a0, i64 a1, (sFc a2), sl a3.length (a3.map i64)]) (LOp.fap und27 rfl siz2 rfl rfl rfl) <|
   (tl rfl (i64 a0) (y2 agg2) <|
   (tm rfl (sFc a4) <|
   (TR.d (r := oref 0 1 0 r2.length) (fs := [(0, (r2.map f32))]) rfl rfl (TOp.callBN (ls := [(r2.map f32)]) [0] (CallAs.func ent66 rfl rfl) (bS bN) rfl (x_slices_Clone_float32_float32_ok a4 r2 hf3) (and_all (lts0_map (f := f32) (fun _ => rfl) _) rfl) (and_all (noss_map (f := f32) (fun _ => rfl) _) rfl) rfl (by decide) (ns_of ⟨⟨_, rfl⟩, trivial⟩)) <|
   (tl rfl (i64 a0) (LOp.assign rfl rfl) <|
   (tl rfl (oref 0 1 0 r2.length) (LOp.assign rfl rfl) <|
   TR.nil))))))) rfl (by kernel_rfl) rfl (fills_of (by show List.Nodup [0]; decide) ⟨⟨_, rfl⟩, trivial⟩) rfl ?_
  iterate 7 refine ROps.dropS ?_
  refine ROps.drop0<|zN ?_
  refine RunC.wl (τ' := [(2, ptr [i64 a0, i64 a1, (sFc a2), sl a3.length (a3.map i64)]), (6, i64 a0), (7, oref 0 1 0 r2.length)]) (Γ' := [⟨1, some (r2.map f32)⟩, ⟨0, none⟩]) ⟨aR, aR, aR, trivial⟩ ⟨⟨rfl, .inr rfl⟩, ⟨rfl, .inr rfl⟩, trivial⟩<|yS<|zQ<|ym rfl (i64 a0)<|ym rfl (i64 0)<|zN ?_
  obtain ⟨z3, hz_3, h⟩ := oS h
  refine RunC.cutN (fun τ Γ => ∃ (L12 : List F), L12.length = r2.length ∧ WeakLe τ [(2, ptr [i64 a0, i64 a1, (sFc a2), sl a3.length (a3.map i64)]), (6, i64 a0), (7, oref 0 1 0 r2.length)] ∧ DeadLe Γ [⟨1, some (L12.map f32)⟩, ⟨0, none⟩] ∧ z3 = .inl L12) ?_ ?_
  ·refine RunC.block (RunC.loop (RunL.loopM (x := z3) (i_FactorSolveFlipped_s1 a0 a1 a2) (fun (s : (List F) × Int) τ Γ => s.1.length = r2.length ∧ WeakLe τ [(2, ptr [i64 a0, i64 a1, (sFc a2), sl a3.length (a3.map i64)]), (6, i64 a0), (7, oref 0 1 0 r2.length), (20, i64 a0), (21, i64 s.2)] ∧ DeadLe Γ [⟨1, some (s.1.map f32)⟩, ⟨0, none⟩]) ?_ _ _ _ hz_3 ⟨rfl, ⟨aR, aR, aR, aR, aR, trivial⟩, ⟨⟨rfl, .inr rfl⟩, ⟨rfl, .inr rfl⟩, trivial⟩⟩))
   rintro ⟨L3, v5⟩ τ3 Γ3 y3_ ⟨hl4, hw3, hd3⟩ h3_ ho3 hr3
   refine RunC.wl (τ' := [(2, ptr [i64 a0, i64 a1, (sFc a2), sl a3.length (a3.map i64)]), (6, i64 a0), (7, oref 0 1 0 r2.length), (20, i64 a0), (21, i64 v5)]) (Γ' := [⟨1, some (L3.map f32)⟩, ⟨0, none⟩]) hw3 hd3 ?_
   replace hl4 : L3.length = r2.length := hl4
   replace h3_ : i_FactorSolveFlipped_b1 a0 a1 a2 L3 v5 = some y3_ := h3_
   unfold i_FactorSolveFlipped_b1 at h3_
   refine yS ?_
   rcases oB h3_ with ⟨hc4, h3_⟩ | ⟨hc4, h3_⟩
   ·refine yW<|yl rfl (b true) (LOp.eqb (LOp.lss rfl rfl rfl) hc4)<|zN ?_
    refine yS<|yT<|RunC.skip<|yS<|RunC.block<|zQ<|ym rfl (i64 v5)<|ya rfl (i64 v5)<|zN ?_
    obtain ⟨e6, he5, h3_⟩ := oS h3_
    obtain ⟨r7, hf6, h3_⟩ := oS h3_
    obtain ⟨r8, hf7, h3_⟩ := oS h3_
    obtain ⟨x9, hx8, h3_⟩ := oL h3_
    obtain ⟨L10, he9, h3_⟩ := oS h3_
    refine RunC.region_draw (Γ' := [⟨1, some (L3.map f32)⟩, ⟨0, none⟩]) 19 mixed 
     (tm rfl (oref 0 1 0 r2.length) <|
     (tm rfl (i64 v5) <|
     (tl rfl (ptr [i64 a0, i64 a1, (sFc a2), sl a3.length (a3.map i64)]) (LOp.fap und32 rfl siz27 rfl rfl rfl) <|
     (tl rfl (agg (mXc a0 a1 a2)) (yL agg27 siz27) <|
     (tm rfl (oref 0 1 0 r2.length) <|
     (tm rfl (i64 v5) <|
     (TR.d (r := optr 0 1 v5.toNat) (fs := []) rfl rfl (TOp.ixo und25 siz41 rfl rfl rfl (at_in he5 hl4) rfl) <|
     (TR.d (r := f32 e6) (fs := []) rfl rfl (TOp.load1_o rfl (at_cell he5) agg41 rfl rfl) <|
     (tm rfl (i64 v5) <|
     (tm rfl (i64 v5) <|
     (tm rfl (oref 0 1 0 r2.length) <|
     (TR.d (r := f32 r7) (fs := []) rfl rfl (TOp.callB (CallAs.func ent67 rfl rfl) (Bors.cons (Bor.agg (bP (bP (bS bN)))) (bP (bP (bP (bP (Bors.cons (Bor.own (f := f32) (fun _ => rfl) rfl hl4) bN)))))) rfl rfl (i_Matrix_lessColumn_ok a0 a1 a2 e6 v5 0 v5 L3 r7 hf6)) <|
     (tl rfl (ptr [i64 a0, i64 a1, (sFc a2), sl a3.length (a3.map i64)]) (LOp.fap und32 rfl siz27 rfl rfl rfl) <|
     (tl rfl (agg (mXc a0 a1 a2)) (yL agg27 siz27) <|
     (tm rfl (i64 v5) <|
     (tm rfl (i64 v5) <|
     (TR.d (r := f32 r8) (fs := []) rfl rfl (TOp.callB (CallAs.func ent41 rfl rfl) (Bors.cons (Bor.agg (bP (bP (bS bN)))) (bP bN0)) rfl rfl (i_Matrix_at_ok a0 a1 a2 v5 v5 r8 hf7)) <|
     (TR.d (r := f32 x9) (fs := []) rfl rfl (TOp.eqr (TOp.fop (.inr (.inr (.inr rfl))) rfl (OpF.tmp rfl) (OpF.tmp rfl)) (congrArg (f .f32) hx8)) <|
     (TR.d (r := optr 0 1 v5.toNat) (fs := []) rfl rfl (TOp.ixo und25 siz41 rfl rfl rfl (set_in he9 hl4) rfl) <|
     TR.nil))))))))))))))))))) rfl (by kernel_rfl) rfl fills_nil rfl ?_
    iterate 19 refine ROps.dropS ?_
    refine ROps.drop0<|ROps.st (f := f32) (i := v5) (Γ' := [⟨1, some (L10.map f32)⟩, ⟨0, none⟩]) rfl siz41 rfl rfl rfl aR rfl rfl rfl he9 rfl<|zN ?_
    refine RunC.wl (τ' := [(2, ptr [i64 a0, i64 a1, (sFc a2), sl a3.length (a3.map i64)]), (6, i64 a0), (7, oref 0 1 0 r2.length), (20, i64 a0), (21, i64 v5)]) (Γ' := [⟨1, some (L10.map f32)⟩, ⟨0, none⟩]) ⟨aR, aR, aR, aR, aR, trivial⟩ ⟨⟨rfl, .inr rfl⟩, ⟨rfl, .inr rfl⟩, trivial⟩ ?_
    obtain ⟨x11, hx10, h3_⟩ := oL h3_
    refine yW<|yl rfl (i64 x11) (LOp.eqr (LOp.add rfl rfl rfl) (congrArg (ik .i64) hx10))<|ym rfl (i64 x11)<|zN ?_
    cases oI h3_
    exact ⟨_, rfl, ((setAt?_len he9).trans hl4), ⟨aR, aR, aR, aR, aR, trivial⟩, ⟨⟨rfl, .inr rfl⟩, ⟨rfl, .inr rfl⟩, trivial⟩⟩
   ·refine yW<|yl rfl (b false) (LOp.eqb (LOp.lss rfl rfl rfl) hc4)<|zN ?_
    refine yS<|yF<|RunC.exit ?_
    cases oI h3_
    have hx := ho3 _ rfl
    exact ⟨L3, hl4, ⟨aR, aR, aR, trivial⟩, ⟨⟨rfl, .inr rfl⟩, ⟨rfl, .inr rfl⟩, trivial⟩, hx⟩
  ·rintro τ4 Γ4 ⟨L12, hl13, hw4, hd4, rfl⟩
   refine RunC.wl hw4 hd4 ?_
   replace h : i_FactorSolveFlipped_k1 a0 a1 a2 a3 L12 = some (q0, q1) := h
   unfold i_FactorSolveFlipped_k1 at h
   refine yS ?_
   obtain ⟨hm11, h⟩ := need_some h
   refine yW<|ym rfl (i64 a0)<|ye rfl (oref 1 1 0 a0.toNat) [⟨1, some (L12.map f32)⟩, ⟨1, some ((List.replicate a0.toNat (some 0)).map f32)⟩] (TOp.mkS (g := ⟨0, none⟩) (t := 25) (e := 41) (by_ := 4) (f := f32) (zv := some 0) 1 rfl und25 tin41 rfl siz41 zer41 rfl zel41 rfl rfl rfl hm11)<|ya rfl (oref 1 1 0 a0.toNat)<|zN ?_
   refine yS<|yS ?_
   obtain ⟨x14, hx12, h⟩ := oL h
   refine yW<|ym rfl (i64 a0)<|yl rfl (i64 x14) (LOp.eqr (LOp.sub rfl rfl rfl) (congrArg (ik .i64) hx12))<|ya rfl (i64 x14)<|zN ?_
   obtain ⟨z5, hz_5, h⟩ := oS h
   refine RunC.cutN (fun τ Γ => ∃ (L28 : List F), L28.length = a0.toNat ∧ WeakLe τ [(9, oref 1 1 0 a0.toNat)] ∧ DeadLe Γ [⟨1, none⟩, ⟨1, some (L28.map f32)⟩] ∧ z5 = .inl L28) ?_ ?_
   ·refine RunC.block (RunC.loop (RunL.loopM (x := z5) (i_FactorSolveFlipped_s2 a0 a1 a2 a3) (fun (s : (List F) × (List F) × Int) τ Γ => s.1.length = r2.length ∧ s.2.1.length = a0.toNat ∧ WeakLe τ [(2, ptr [i64 a0, i64 a1, (sFc a2), sl a3.length (a3.map i64)]), (6, i64 a0), (7, oref 0 1 0 r2.length), (9, oref 1 1 0 a0.toNat), (10, i64 s.2.2)] ∧ DeadLe Γ [⟨1, some (s.1.map f32)⟩, ⟨1, some (s.2.1.map f32)⟩]) ?_ _ _ _ hz_5 ⟨hl13, List.length_replicate, ⟨aR, aR, aR, aR, aR, trivial⟩, ⟨⟨rfl, .inr rfl⟩, ⟨rfl, .inr rfl⟩, trivial⟩⟩))
    rintro ⟨L15, L17, v19⟩ τ5 Γ5 y5_ ⟨hl16, hl18, hw5, hd5⟩ h5_ ho5 hr5
    refine RunC.wl (τ' := [(2, ptr [i64 a0, i64 a1, (sFc a2), sl a3.length (a3.map i64)]), (6, i64 a0), (7, oref 0 1 0 r2.length), (9, oref 1 1 0 a0.toNat), (10, i64 v19)]) (Γ' := [⟨1, some (L15.map f32)⟩, ⟨1, some (L17.map f32)⟩]) hw5 hd5 ?_
    replace hl16 : L15.length = r2.length := hl16
    replace hl18 : L17.length = a0.toNat := hl18
    replace h5_ : i_FactorSolveFlipped_b2 a0 a1 a2 a3 L15 L17 v19 = some y5_ := h5_
    unfold i_FactorSolveFlipped_b2 at h5_
    refine yS<|yS ?_
    rcases oB h5_ with ⟨hc13, h5_⟩ | ⟨hc13, h5_⟩
    ·refine yW<|ym rfl (i64 v19)<|yl rfl (b true) (LOp.eqb (LOp.geq rfl rfl rfl) hc13)<|zN ?_
     refine yT<|RunC.skip<|yS<|RunC.block<|yS ?_
     obtain ⟨e20, he14, h5_⟩ := oS h5_
     obtain ⟨x21, hx15, h5_⟩ := oL h5_
     obtain ⟨r22, hf16, h5_⟩ := oS h5_
     obtain ⟨L23, he17, h5_⟩ := oS h5_
     refine RunC.region_draw (Γ' := [⟨1, some (L15.map f32)⟩, ⟨1, some (L17.map f32)⟩]) 15 mixed 
      (tm rfl (oref 0 1 0 r2.length) <|
      (tm rfl (i64 v19) <|
      (tl rfl (ptr [i64 a0, i64 a1, (sFc a2), sl a3.length (a3.map i64)]) (LOp.fap und32 rfl siz27 rfl rfl rfl) <|
      (tl rfl (agg (mXc a0 a1 a2)) (yL agg27 siz27) <|
      (tm rfl (oref 0 1 0 r2.length) <|
      (tm rfl (i64 v19) <|
      (TR.d (r := optr 0 1 v19.toNat) (fs := []) rfl rfl (TOp.ixo und25 siz41 rfl rfl rfl (at_in he14 hl16) rfl) <|
      (TR.d (r := f32 e20) (fs := []) rfl rfl (TOp.load1_o rfl (at_cell he14) agg41 rfl rfl) <|
      (tm rfl (i64 v19) <|
      (tm rfl (i64 v19) <|
      (tl rfl (i64 x21) (LOp.eqr (LOp.add rfl rfl rfl) (congrArg (ik .i64) hx15)) <|
      (tm rfl (i64 a0) <|
      (tm rfl (oref 0 1 0 r2.length) <|
      (TR.d (r := f32 r22) (fs := []) rfl rfl (TOp.callB (CallAs.func ent67 rfl rfl) (Bors.cons (Bor.agg (bP (bP (bS bN)))) (bP (bP (bP (bP (Bors.cons (Bor.own (f := f32) (fun _ => rfl) rfl hl16) bN)))))) rfl rfl (i_Matrix_lessColumn_ok a0 a1 a2 e20 v19 x21 a0 L15 r22 hf16)) <|
      (TR.d (r := optr 0 1 v19.toNat) (fs := []) rfl rfl (TOp.ixo und25 siz41 rfl rfl rfl (set_in he17 hl16) rfl) <|
      TR.nil))))))))))))))) rfl (by kernel_rfl) rfl fills_nil rfl ?_
     iterate 15 refine ROps.dropS ?_
     refine ROps.drop0<|ROps.st (f := f32) (i := v19) (Γ' := [⟨1, some (L23.map f32)⟩, ⟨1, some (L17.map f32)⟩]) rfl siz41 rfl rfl rfl aR rfl rfl rfl he17 rfl<|zN ?_
     refine RunC.wl (τ' := [(2, ptr [i64 a0, i64 a1, (sFc a2), sl a3.length (a3.map i64)]), (6, i64 a0), (7, oref 0 1 0 r2.length), (9, oref 1 1 0 a0.toNat), (10, i64 v19)]) (Γ' := [⟨1, some (L23.map f32)⟩, ⟨1, some (L17.map f32)⟩]) ⟨aR, aR, aR, aR, aR, trivial⟩ ⟨⟨rfl, .inr rfl⟩, ⟨rfl, .inr rfl⟩, trivial⟩ ?_
     obtain ⟨e24, he18, h5_⟩ := oS h5_
     obtain ⟨e25, he19, h5_⟩ := oS h5_
     obtain ⟨L26, he20, h5_⟩ := oS h5_
     refine RunC.region_draw (Γ' := [⟨1, some (L23.map f32)⟩, ⟨1, some (L17.map f32)⟩]) 11 mixed 
      (tm rfl (oref 1 1 0 a0.toNat) <|
      (tl rfl (ptr [sl a3.length (a3.map i64)]) (LOp.fap und32 rfl siz30 rfl rfl rfl) <|
      (tl rfl (sl a3.length (a3.map i64)) (y2 agg30) <|
      (tm rfl (i64 v19) <|
      (tl rfl (ptr [i64 e24]) (LOp.le (LOp.ix (f := i64) und30 siz2 rfl rfl rfl rfl he18) ALe.ptr) <|
      (tl rfl (i64 e24) (y2 agg2) <|
      (tm rfl (oref 0 1 0 r2.length) <|
      (tm rfl (i64 v19) <|
      (TR.d (r := optr 0 1 v19.toNat) (fs := []) rfl rfl (TOp.ixo und25 siz41 rfl rfl rfl (at_in he19 ((setAt?_len he17).trans hl16)) rfl) <|
      (TR.d (r := f32 e25) (fs := []) rfl rfl (TOp.load1_o rfl (at_cell he19) agg41 rfl rfl) <|
      (TR.d (r := optr 1 1 e24.toNat) (fs := []) rfl rfl (TOp.ixo und25 siz41 rfl rfl rfl (set_in he20 hl18) rfl) <|
      TR.nil))))))))))) rfl (by kernel_rfl) rfl fills_nil rfl ?_
     iterate 11 refine ROps.dropS ?_
     refine ROps.drop0<|ROps.st (f := f32) (i := e24) (Γ' := [⟨1, some (L23.map f32)⟩, ⟨1, some (L26.map f32)⟩]) rfl siz41 rfl rfl rfl aR rfl rfl rfl he20 rfl<|zN ?_
     obtain ⟨x27, hx21, h5_⟩ := oL h5_
     refine yW<|ym rfl (i64 v19)<|yl rfl (i64 x27) (LOp.eqr (LOp.sub rfl rfl rfl) (congrArg (ik .i64) hx21))<|ya rfl (i64 x27)<|zN ?_
     cases oI h5_
     exact ⟨_, rfl, ((setAt?_len he17).trans hl16), ((setAt?_len he20).trans hl18), ⟨aR, aR, aR, aR, aR, trivial⟩, ⟨⟨rfl, .inr rfl⟩, ⟨rfl, .inr rfl⟩, trivial⟩⟩
    ·refine yW<|ym rfl (i64 v19)<|yl rfl (b false) (LOp.eqb (LOp.geq rfl rfl rfl) hc13)<|zN ?_
     refine yF<|RunC.exit ?_
     cases oI h5_
     have hx := ho5 _ rfl
     exact ⟨L17, hl18, ⟨aR, trivial⟩, ⟨⟨rfl, .inl rfl⟩, ⟨rfl, .inr rfl⟩, trivial⟩, hx⟩
   ·rintro τ6 Γ6 ⟨L28, hl29, hw6, hd6, rfl⟩
    refine RunC.wl hw6 hd6 ?_
    replace h : i_FactorSolveFlipped_k2 a0 L28 = some (q0, q1) := h
    unfold i_FactorSolveFlipped_k2 at h
    refine yS ?_
    obtain ⟨z7, hf22, h⟩ := oS h
    rcases z7 with z7 | z7
    ·replace h := (osum_inl _ _ _).symm.trans h
     obtain ⟨r30, r31, hz8, h⟩ := obind2_some h
     cases hz8
     obtain ⟨hn23, h⟩ := need_some h
     refine yW<|ym rfl (oref 1 1 0 a0.toNat)<|ROps.callO (A := [oref 1 1 0 a0.toNat]) (args := [oref 0 0 0 L28.length]) (Γc := [⟨0, some (L28.map f32)⟩]) (Γc' := [⟨0, some (r31.map f32)⟩]) (r' := tup [oref 1 1 0 a0.toNat, b r30]) (Γ' := [⟨1, none⟩, ⟨1, some (r31.map f32)⟩]) [(1, 1)] [] rfl (CallAs.func ent64 rfl rfl) rfl rfl (SelOk.of (ndB_ok rfl) (SelL.arr0 (f := f32) (fun _ => rfl) rfl trivial)) (live_of ⟨⟨_, _, rfl⟩, trivial⟩) (by simp [ren, rens, sigma, rens_f32, rens_f64, rens_i64, rens_ik, rens_str, rens_cp, hl29]) rfl (i_allFinite_0o_ok0 L28 r30 r31 hf22) rfl (news_of trivial) (ndB_ok rfl) (by simp [ren, rens, sigma, of_decide_eq_true hn23]) (by simp [backOb, sigma, ren, rens, rens_f32, rens_f64, rens_i64, rens_ik, rens_str, rens_cp])<|yl rfl (oref 1 1 0 a0.toNat) y3<|yl rfl (b r30) y3<|ya rfl (oref 1 1 0 a0.toNat)<|ya rfl (b r30)<|zN ?_
     refine RunC.ret ?_
     have hq := oI h
     obtain ⟨hq0, hq⟩ := Prod.mk.inj hq
     subst q0
     subst q1
     exact yB (tup [oref 1 1 0 r31.length, b r30]) [(1, 1)] (Res.eq (Res.two rfl (RV.tmp rfl) (RV.tmp rfl)) (by rw [(show r31.length = a0.toNat from (of_decide_eq_true hn23))] <;> rfl)) (SelL.arr0 (f := f32) (fun _ => rfl) rfl trivial)
    ·replace h := (osum_inr _ _ _).symm.trans h
     obtain ⟨r32, r33, r34, hz9, h⟩ := obind3_some h
     cases hz9
     obtain ⟨hn24, h⟩ := need_some h
     refine yW<|ym rfl (oref 1 1 0 a0.toNat)<|ROps.callO (A := [oref 1 1 0 a0.toNat]) (args := [oref 0 0 0 L28.length]) (Γc := [⟨0, some (L28.map f32)⟩]) (Γc' := [⟨0, some (r33.map f32)⟩, ⟨0, some (r34.map f32)⟩]) (r' := tup [oref 0 2 0 r34.length, b r32]) (Γ' := [⟨2, some (r34.map f32)⟩, ⟨1, some (r33.map f32)⟩]) [(1, 1)] [(0, 2)] rfl (CallAs.func ent64 rfl rfl) rfl rfl (SelOk.of (ndB_ok rfl) (SelL.arr0 (f := f32) (fun _ => rfl) rfl trivial)) (live_of ⟨⟨_, _, rfl⟩, trivial⟩) (by simp [ren, rens, sigma, rens_f32, rens_f64, rens_i64, rens_ik, rens_str, rens_cp, hl29]) rfl (i_allFinite_0o_ok1 L28 r32 r33 r34 hf22) rfl (news_of ⟨⟨_, rfl, rfl⟩, trivial⟩) (show List.Nodup [1, 0] from by decide) (by simp [ren, rens, sigma, of_decide_eq_true hn24]) (by simp [backOb, sigma, ren, rens, rens_f32, rens_f64, rens_i64, rens_ik, rens_str, rens_cp])<|yl rfl (oref 0 2 0 r34.length) y3<|yl rfl (b r32) y3<|ya rfl (oref 0 2 0 r34.length)<|ya rfl (b r32)<|zN ?_
     refine RunC.ret ?_
     have hq := oI h
     obtain ⟨hq0, hq⟩ := Prod.mk.inj hq
     subst q0
     subst q1
     exact yB (tup [oref 0 2 0 r34.length, b r32]) [(0, 2)] (Res.two rfl (RV.tmp rfl) (RV.tmp rfl)) (SelL.arr0 (f := f32) (fun _ => rfl) rfl trivial)
 ·refine yW<|yl rfl (agg [i64 a0, i64 a1, (sFc a2), sl a3.length (a3.map i64)]) (yL agg32 siz32)<|ym rfl (sFc a4)<|yd rfl (b false) (TOp.eqb (TOp.callB (CallAs.func ent63 rfl rfl) (Bors.cons (Bor.agg (bP (bP (bS (bS bN))))) (bS bN)) rfl rfl (i_Factor_takes_ok a0 a1 a2 a3 a4 r1 hf1)) hc2)<|yl rfl (b true) y0<|zN ?_
  refine yT<|zQ<|ya rfl nilsl<|ya rfl (b false)<|zN ?_
  refine RunC.nil_slot (Γ' := [⟨1, some (([] : List F).map f32)⟩, ⟨0, none⟩]) 4 0 rfl rfl rfl<|RunC.ret ?_
  have hq := oI h
  obtain ⟨hq0, hq⟩ := Prod.mk.inj hq
  subst q0
  subst q1
  exact yB (tup [oref 0 1 0 (([] : List F).length), b false]) [(0, 1)] (Res.eq (Res.two rfl (RV.tmp rfl) (RV.tmp rfl)) (by rw [(show ([] : List F).length = 0 from rfl)] <;> rfl)) (SelL.arr0 (f := f32) (fun _ => rfl) rfl trivial)
def i_unit_1 (a0 : Int) (a1 : Int) : Option (F) :=
 bsel (decide (a0 = a1)) (
  some (some 1065353216)) (
  some (some 0))
theorem i_unit_1_ok (a0 : Int) (a1 : Int) (q0 : F) (h : i_unit_1 a0 a1 = some q0) : Ev Tryz.prog 109 [i64 a0, i64 a1] [] (f32 q0) [] := by
 refine yE Tryz.func109 0 17 0 [(0, i64 a0), (1, i64 a1)] [] rfl ?_
 unfold i_unit_1 at h
 refine zQ<|yl rfl (f32 (some 0)) (LOp.le (LOp.assign rfl rfl) (ALe.fl (by kernel_rfl) (by kernel_rfl)))<|zN ?_
 refine yS<|yS ?_
 rcases oB h with ⟨hc1, h⟩ | ⟨hc1, h⟩
 ·refine yW<|ym rfl (i64 a0)<|ym rfl (i64 a1)<|yl rfl (b true) (LOp.eqb (LOp.eql rfl rfl rfl) hc1)<|zN ?_
  refine yT<|zQ<|yl rfl (f32 (some 1065353216)) (LOp.le (LOp.assign rfl rfl) (ALe.fl (by kernel_rfl) (by kernel_rfl)))<|zN ?_
  refine RunC.ret ?_
  have hq := oI h
  subst q0
  exact bodyQ.pure (.inr rfl) rfl (Res.one rfl (RV.tmp rfl))
 ·refine yW<|ym rfl (i64 a0)<|ym rfl (i64 a1)<|yl rfl (b false) (LOp.eqb (LOp.eql rfl rfl rfl) hc1)<|zN ?_
  refine yF<|RunC.skip<|zQ<|yl rfl (f32 (some 0)) (LOp.le (LOp.assign rfl rfl) (ALe.fl (by kernel_rfl) (by kernel_rfl)))<|zN ?_
  refine RunC.ret ?_
  have hq := oI h
  subst q0
  exact bodyQ.pure (.inr rfl) rfl (Res.one rfl (RV.tmp rfl))
def i_made_2Fi_unit_1_b2 (a1 : Int) (r1 : Int) (r2 : Int) (r3 : List F) (v6 : Int) (L7 : List F) (v9 : Int) : Option (LR ((List F) × Int) ((List F)) (Int × Int × (List F))) :=
 bsel (decide (v9 < a1)) (
  obind (i_unit_1 v6 v9) fun (r11 : F) =>
  obind (i_Matrix_set_02o r1 r2 v6 v9 r11 L7) fun (r12 : List F) =>
  need (decide (r12.length = r3.length)) <|
  olet (IntKind.i64.wrap (v9 + 1)) fun (x13 : Int) =>
  some (LR.next (r12, x13))) (
  some (LR.out L7))
def i_made_2Fi_unit_1_s2 (a1 : Int) (r1 : Int) (r2 : Int) (r3 : List F) (v6 : Int) : ((List F) × Int) → Option (LR ((List F) × Int) ((List F)) (Int × Int × (List F))) := fun s => i_made_2Fi_unit_1_b2 a1 r1 r2 r3 v6 s.1 s.2
def i_made_2Fi_unit_1_k2 (v6 : Int) (L14 : List F) : Option (LR ((List F) × Int) ((List F)) (Int × Int × (List F))) :=
 olet (IntKind.i64.wrap (v6 + 1)) fun (x16 : Int) =>
 some (LR.next (L14, x16))
def i_made_2Fi_unit_1_b3 (a0 : Int) (a1 : Int) (r1 : Int) (r2 : Int) (r3 : List F) (L4 : List F) (v6 : Int) : Option (LR ((List F) × Int) ((List F)) (Int × Int × (List F))) :=
 bsel (decide (v6 < a0)) (
  obind (loopM (i_made_2Fi_unit_1_s2 a1 r1 r2 r3 v6) (L4, 0)) fun z => osum z (fun e => i_made_2Fi_unit_1_k2 v6 e) (fun r => some (LR.ret r))) (
  some (LR.out L4))
def i_made_2Fi_unit_1_s3 (a0 : Int) (a1 : Int) (r1 : Int) (r2 : Int) (r3 : List F) : ((List F) × Int) → Option (LR ((List F) × Int) ((List F)) (Int × Int × (List F))) := fun s => i_made_2Fi_unit_1_b3 a0 a1 r1 r2 r3 s.1 s.2
def i_made_2Fi_unit_1_k3 (r1 : Int) (r2 : Int) (L17 : List F) : Option (Int × Int × (List F)) :=
 some (r1, r2, L17)
def i_made_2Fi_unit_1 (a0 : Int) (a1 : Int) : Option (Int × Int × (List F)) :=
 obind3 (i_newMatrix a0 a1) fun (r1 : Int) (r2 : Int) (r3 : List F) =>
 obind (loopM (i_made_2Fi_unit_1_s3 a0 a1 r1 r2 r3) (r3, 0)) fun z => osum z (fun e => i_made_2Fi_unit_1_k3 r1 r2 e) (fun r => some r)
theorem i_made_2Fi_unit_1_ok (a0 : Int) (a1 : Int) (q0 : Int) (q1 : Int) (q2 : List F) (h : i_made_2Fi_unit_1 a0 a1 = some (q0, q1, q2)) : Ev Tryz.prog 53 [i64 a0, i64 a1, fn (.func 109) [] []] [] (agg (oXc q0 q1 0 0 q2.length)) [⟨0, some (q2.map f32)⟩] := by
 refine yE Tryz.func53 3 65 0 ([(0, i64 a0), (1, i64 a1), (2, fn (.func 109) [] [])]) [⟨0, none⟩, ⟨0, none⟩, ⟨0, none⟩] rfl ?_
 unfold i_made_2Fi_unit_1 at h
 refine zQ<|ye rfl (optr 0 1 0) [⟨1, some zMx⟩, ⟨0, none⟩, ⟨0, none⟩] (TOp.alloc_o (g := ⟨0, none⟩) 0 rfl zer27 zok27 rfl)<|zN ?_
 refine yS ?_
 obtain ⟨r1, r2, r3, hf1, h⟩ := obind3_some h
 refine yW<|ym rfl (i64 a0)<|ym rfl (i64 a1)<|ye rfl (agg (oXc r1 r2 1 1 r3.length)) [⟨1, some zMx⟩, ⟨1, some (r3.map f32)⟩, ⟨0, none⟩] (TOp.callBN (ls := [(r3.map f32)]) [1] (CallAs.func ent68 rfl rfl) (bP bN0) rfl (i_newMatrix_ok a0 a1 r1 r2 r3 hf1) (and_all (lts0_map (f := f32) (fun _ => rfl) _) rfl) (and_all (noss_map (f := f32) (fun _ => rfl) _) rfl) rfl (by decide) (ns_of ⟨⟨_, rfl⟩, trivial⟩))<|ye rfl (optr 2 1 0) [⟨1, some zMx⟩, ⟨1, some (r3.map f32)⟩, ⟨1, some zMx⟩] (TOp.alloc_o (g := ⟨0, none⟩) 2 rfl zer27 zok27 rfl)<|ys (agg (oXc r1 r2 1 1 r3.length)) (oXc r1 r2 1 1 r3.length) [⟨1, some zMx⟩, ⟨1, some (r3.map f32)⟩, ⟨1, some (oXc r1 r2 1 1 r3.length)⟩] siz27<|zN ?_
 refine yS<|zQ<|ym rfl (i64 a0)<|ym rfl (i64 0)<|zN ?_
 obtain ⟨z4, hz_4, h⟩ := oS h
 refine RunC.cutN (fun τ Γ => ∃ (L17 : List F), L17.length = r3.length ∧ WeakLe τ [(6, optr 0 1 0), (7, optr 2 1 0)] ∧ DeadLe Γ [⟨1, some zMx⟩, ⟨1, some (L17.map f32)⟩, ⟨1, some (oXc r1 r2 1 1 r3.length)⟩] ∧ z4 = .inl L17) ?_ ?_
 ·refine RunC.block (RunC.loop (RunL.loopM (x := z4) (i_made_2Fi_unit_1_s3 a0 a1 r1 r2 r3) (fun (s : (List F) × Int) τ Γ => s.1.length = r3.length ∧ WeakLe τ [(1, i64 a1), (2, fn (.func 109) [] []), (6, optr 0 1 0), (7, optr 2 1 0), (13, i64 a0), (14, i64 s.2)] ∧ DeadLe Γ [⟨1, some zMx⟩, ⟨1, some (s.1.map f32)⟩, ⟨1, some (oXc r1 r2 1 1 r3.length)⟩]) ?_ _ _ _ hz_4 ⟨rfl, ⟨aR, aR, aR, aR, aR, aR, trivial⟩, ⟨⟨rfl, .inr rfl⟩, ⟨rfl, .inr rfl⟩, ⟨rfl, .inr rfl⟩, trivial⟩⟩))
  rintro ⟨L4, v6⟩ τ4 Γ4 y4_ ⟨hl5, hw4, hd4⟩ h4_ ho4 hr4
  refine RunC.wl (τ' := [(1, i64 a1), (2, fn (.func 109) [] []), (6, optr 0 1 0), (7, optr 2 1 0), (13, i64 a0), (14, i64 v6)]) (Γ' := [⟨1, some zMx⟩, ⟨1, some (L4.map f32)⟩, ⟨1, some (oXc r1 r2 1 1 r3.length)⟩]) hw4 hd4 ?_
  replace hl5 : L4.length = r3.length := hl5
  replace h4_ : i_made_2Fi_unit_1_b3 a0 a1 r1 r2 r3 L4 v6 = some y4_ := h4_
  unfold i_made_2Fi_unit_1_b3 at h4_
  refine yS ?_
  rcases oB h4_ with ⟨hc2, h4_⟩ | ⟨hc2, h4_⟩
  ·refine yW<|yl rfl (b true) (LOp.eqb (LOp.lss rfl rfl rfl) hc2)<|zN ?_
   refine yS<|yT<|RunC.skip<|yS<|RunC.block<|zQ<|ym rfl (i64 v6)<|ya rfl (i64 v6)<|zN ?_
   refine zQ<|ym rfl (i64 a1)<|ym rfl (i64 0)<|zN ?_
   obtain ⟨z5, hz_5, h4_⟩ := oS h4_
   refine RunC.cutN (fun τ Γ => ∃ (L14 : List F), L14.length = r3.length ∧ WeakLe τ [(1, i64 a1), (2, fn (.func 109) [] []), (6, optr 0 1 0), (7, optr 2 1 0), (13, i64 a0), (14, i64 v6)] ∧ DeadLe Γ [⟨1, some zMx⟩, ⟨1, some (L14.map f32)⟩, ⟨1, some (oXc r1 r2 1 1 r3.length)⟩] ∧ z5 = .inl L14) ?_ ?_
   ·refine RunC.block (RunC.loop (RunL.loopM (x := z5) (i_made_2Fi_unit_1_s2 a1 r1 r2 r3 v6) (fun (s : (List F) × Int) τ Γ => s.1.length = r3.length ∧ WeakLe τ [(1, i64 a1), (2, fn (.func 109) [] []), (6, optr 0 1 0), (7, optr 2 1 0), (8, i64 v6), (13, i64 a0), (14, i64 v6), (17, i64 a1), (18, i64 s.2)] ∧ DeadLe Γ [⟨1, some zMx⟩, ⟨1, some (s.1.map f32)⟩, ⟨1, some (oXc r1 r2 1 1 r3.length)⟩]) ?_ _ _ _ hz_5 ⟨hl5, ⟨aR, aR, aR, aR, aR, aR, aR, aR, aR, trivial⟩, ⟨⟨rfl, .inr rfl⟩, ⟨rfl, .inr rfl⟩, ⟨rfl, .inr rfl⟩, trivial⟩⟩))
    rintro ⟨L7, v9⟩ τ5 Γ5 y5_ ⟨hl8, hw5, hd5⟩ h5_ ho5 hr5
    refine RunC.wl (τ' := [(1, i64 a1), (2, fn (.func 109) [] []), (6, optr 0 1 0), (7, optr 2 1 0), (8, i64 v6), (13, i64 a0), (14, i64 v6), (17, i64 a1), (18, i64 v9)]) (Γ' := [⟨1, some zMx⟩, ⟨1, some (L7.map f32)⟩, ⟨1, some (oXc r1 r2 1 1 r3.length)⟩]) hw5 hd5 ?_
    replace hl8 : L7.length = r3.length := hl8
    replace h5_ : i_made_2Fi_unit_1_b2 a1 r1 r2 r3 v6 L7 v9 = some y5_ := h5_
    unfold i_made_2Fi_unit_1_b2 at h5_
    refine yS ?_
    rcases oB h5_ with ⟨hc3, h5_⟩ | ⟨hc3, h5_⟩
    ·refine yW<|yl rfl (b true) (LOp.eqb (LOp.lss rfl rfl rfl) hc3)<|zN ?_
     refine yS<|yT<|RunC.skip<|yS<|RunC.block<|zQ<|ym rfl (i64 v9)<|ya rfl (i64 v9)<|zN ?_
     obtain ⟨r11, hf5, h5_⟩ := oS h5_
     obtain ⟨r12, hf6, h5_⟩ := oS h5_
     obtain ⟨hn7, h5_⟩ := need_some h5_
     refine RunC.region_draw (Γ' := [⟨1, some zMx⟩, ⟨1, some (L7.map f32)⟩, ⟨1, some (oXc r1 r2 1 1 r3.length)⟩]) 7 mixed 
      (TR.d (r := agg (oXc r1 r2 1 1 r3.length)) (fs := []) rfl rfl (TOp.loadAgg_o rfl agg27 siz27 rfl rfl rfl rfl) <|
      (tm rfl (i64 v6) <|
      (tm rfl (i64 v9) <|
      (tm rfl (fn (.func 109) [] []) <|
      (tm rfl (i64 v6) <|
      (tm rfl (i64 v9) <|
      (TR.d (r := f32 r11) (fs := []) rfl rfl (TOp.callB (CallAs.fn ent109 rfl rfl rfl rfl) (bP bN0) rfl rfl (i_unit_1_ok v6 v9 r11 hf5)) <|
      TR.nil))))))) rfl (by kernel_rfl) rfl fills_nil rfl ?_
     iterate 7 refine ROps.dropS ?_
     refine ROps.drop0<|ROps.callO (A := [agg (oXc r1 r2 1 1 r3.length), i64 v6, i64 v9, f32 r11]) (args := [agg (oXc r1 r2 0 0 L7.length), i64 v6, i64 v9, f32 r11]) (Γc := [⟨0, some (L7.map f32)⟩]) (Γc' := [⟨0, some (r12.map f32)⟩]) (r' := tup []) (Γ' := [⟨1, some zMx⟩, ⟨1, some (r12.map f32)⟩, ⟨1, some (oXc r1 r2 1 1 r3.length)⟩]) [(1, 1)] [] rfl (CallAs.func ent97 rfl rfl) rfl rfl (SelOk.of (ndB_ok rfl) (SelL.arr0 (f := f32) (fun _ => rfl) rfl trivial)) (live_of ⟨⟨_, _, rfl⟩, trivial⟩) (by simp [ren, rens, sigma, rens_f32, rens_f64, rens_i64, rens_ik, rens_str, rens_cp, hl8]) rfl (i_Matrix_set_02o_ok r1 r2 v6 v9 r11 L7 r12 hf6) rfl (news_of trivial) (ndB_ok rfl) (by simp [ren, rens, sigma, of_decide_eq_true hn7]) (by simp [backOb, sigma, ren, rens, rens_f32, rens_f64, rens_i64, rens_ik, rens_str, rens_cp])<|zN ?_
     obtain ⟨x13, hx8, h5_⟩ := oL h5_
     refine yW<|yl rfl (i64 x13) (LOp.eqr (LOp.add rfl rfl rfl) (congrArg (ik .i64) hx8))<|ym rfl (i64 x13)<|zN ?_
     cases oI h5_
     exact ⟨_, rfl, (of_decide_eq_true hn7), ⟨aR, aR, aR, aR, aR, aR, aR, aR, aR, trivial⟩, ⟨⟨rfl, .inr rfl⟩, ⟨rfl, .inr rfl⟩, ⟨rfl, .inr rfl⟩, trivial⟩⟩
    ·refine yW<|yl rfl (b false) (LOp.eqb (LOp.lss rfl rfl rfl) hc3)<|zN ?_
     refine yS<|yF<|RunC.exit ?_
     cases oI h5_
     have hx := ho5 _ rfl
     exact ⟨L7, hl8, ⟨aR, aR, aR, aR, aR, aR, trivial⟩, ⟨⟨rfl, .inr rfl⟩, ⟨rfl, .inr rfl⟩, ⟨rfl, .inr rfl⟩, trivial⟩, hx⟩
   ·rintro τ6 Γ6 ⟨L14, hl15, hw6, hd6, rfl⟩
    refine RunC.wl hw6 hd6 ?_
    replace h4_ : i_made_2Fi_unit_1_k2 v6 L14 = some y4_ := h4_
    unfold i_made_2Fi_unit_1_k2 at h4_
    obtain ⟨x16, hx9, h4_⟩ := oL h4_
    refine yW<|yl rfl (i64 x16) (LOp.eqr (LOp.add rfl rfl rfl) (congrArg (ik .i64) hx9))<|ym rfl (i64 x16)<|zN ?_
    cases oI h4_
    exact ⟨_, rfl, hl15, ⟨aR, aR, aR, aR, aR, aR, trivial⟩, ⟨⟨rfl, .inr rfl⟩, ⟨rfl, .inr rfl⟩, ⟨rfl, .inr rfl⟩, trivial⟩⟩
  ·refine yW<|yl rfl (b false) (LOp.eqb (LOp.lss rfl rfl rfl) hc2)<|zN ?_
   refine yS<|yF<|RunC.exit ?_
   cases oI h4_
   have hx := ho4 _ rfl
   exact ⟨L4, hl5, ⟨aR, aR, trivial⟩, ⟨⟨rfl, .inr rfl⟩, ⟨rfl, .inr rfl⟩, ⟨rfl, .inr rfl⟩, trivial⟩, hx⟩
 ·rintro τ7 Γ7 ⟨L17, hl18, hw7, hd7, rfl⟩
  refine RunC.wl hw7 hd7 ?_
  replace h : i_made_2Fi_unit_1_k3 r1 r2 L17 = some (q0, q1, q2) := h
  unfold i_made_2Fi_unit_1_k3 at h
  refine zQ<|yd rfl (agg (oXc r1 r2 1 1 r3.length)) (TOp.loadAgg_o rfl agg27 siz27 rfl rfl rfl rfl)<|ys (agg (oXc r1 r2 1 1 r3.length)) (oXc r1 r2 1 1 r3.length) [⟨1, some (oXc r1 r2 1 1 r3.length)⟩, ⟨1, some (L17.map f32)⟩, ⟨1, some (oXc r1 r2 1 1 r3.length)⟩] siz27<|zN ?_
  refine RunC.ret ?_
  have hq := oI h
  obtain ⟨hq0, hq⟩ := Prod.mk.inj hq
  obtain ⟨hq1, hq⟩ := Prod.mk.inj hq
  subst q0
  subst q1
  subst q2
  exact yB (agg (oXc r1 r2 1 1 L17.length)) [(1, 1)] (Res.eq (Res.one rfl (RV.cell agg27 siz27 rfl rfl rfl rfl)) (by rw [(show L17.length = r3.length from hl18)] <;> rfl)) (SelL.arr0 (f := f32) (fun _ => rfl) rfl trivial)
def i_unit (a0 : Int) : Option (Int × Int × (List F)) :=
 obind3 (i_made_2Fi_unit_1 a0 a0) fun (r1 : Int) (r2 : Int) (r3 : List F) =>
 some (r1, r2, r3)
theorem i_unit_ok (a0 : Int) (q0 : Int) (q1 : Int) (q2 : List F) (h : i_unit a0 = some (q0, q1, q2)) : Ev Tryz.prog 70 [i64 a0] [] (agg (oXc q0 q1 0 0 q2.length)) [⟨0, some (q2.map f32)⟩] := by
 refine yE Tryz.func70 2 13 0 [(0, i64 a0)] [⟨0, none⟩, ⟨0, none⟩] rfl ?_
 unfold i_unit at h
 refine zQ<|ye rfl (optr 0 1 0) [⟨1, some zMx⟩, ⟨0, none⟩] (TOp.alloc_o (g := ⟨0, none⟩) 0 rfl zer27 zok27 rfl)<|zN ?_
 refine yS ?_
 obtain ⟨r1, r2, r3, hf1, h⟩ := obind3_some h
 refine yW<|ym rfl (i64 a0)<|ym rfl (i64 a0)<|ye rfl (agg (oXc r1 r2 1 1 r3.length)) [⟨1, some zMx⟩, ⟨1, some (r3.map f32)⟩] (TOp.callBN (ls := [(r3.map f32)]) [1] (CallAs.func ent53 rfl rfl) (bP (bP (Bors.cons (Bor.fn bN bN) bN))) rfl (i_made_2Fi_unit_1_ok a0 a0 r1 r2 r3 hf1) (and_all (lts0_map (f := f32) (fun _ => rfl) _) rfl) (and_all (noss_map (f := f32) (fun _ => rfl) _) rfl) rfl (by decide) (ns_of ⟨⟨_, rfl⟩, trivial⟩))<|ys (agg (oXc r1 r2 1 1 r3.length)) (oXc r1 r2 1 1 r3.length) [⟨1, some (oXc r1 r2 1 1 r3.length)⟩, ⟨1, some (r3.map f32)⟩] siz27<|zN ?_
 refine RunC.ret ?_
 have hq := oI h
 obtain ⟨hq0, hq⟩ := Prod.mk.inj hq
 obtain ⟨hq1, hq⟩ := Prod.mk.inj hq
 subst q0
 subst q1
 subst q2
 exact yB (agg (oXc r1 r2 1 1 r3.length)) [(1, 1)] (Res.one rfl (RV.cell agg27 siz27 rfl rfl rfl rfl)) (SelL.arr0 (f := f32) (fun _ => rfl) rfl trivial)
def i_Matrix_column_b1 (a0 : Int) (a1 : Int) (a2 : List F) (a3 : Int) (L3 : List F) (v4 : Int) : Option (LR ((List F) × Int) ((List F)) ((List F))) :=
 bsel (decide (v4 < a0)) (
  obind (i_Matrix_at a0 a1 a2 v4 a3) fun (r5 : F) =>
  need (apok 4 L3.length 1) <|
  olet (IntKind.i64.wrap (v4 + 1)) fun (x6 : Int) =>
  some (LR.next ((L3 ++ ([r5] : List F)), x6))) (
  some (LR.out L3))
def i_Matrix_column_s1 (a0 : Int) (a1 : Int) (a2 : List F) (a3 : Int) : ((List F) × Int) → Option (LR ((List F) × Int) ((List F)) ((List F))) := fun s => i_Matrix_column_b1 a0 a1 a2 a3 s.1 s.2
def i_Matrix_column_k1 (L9 : List F) : Option ((List F)) :=
 some L9
def i_Matrix_column (a0 : Int) (a1 : Int) (a2 : List F) (a3 : Int) : Option ((List F)) :=
 obind (loopM (i_Matrix_column_s1 a0 a1 a2 a3) (([] : List F), 0)) fun z => osum z (fun e => i_Matrix_column_k1 e) (fun r => some r)
theorem i_Matrix_column_ok (a0 : Int) (a1 : Int) (a2 : List F) (a3 : Int) (q0 : List F) (h : i_Matrix_column a0 a1 a2 a3 = some q0) : Ev Tryz.prog 71 [agg (mXc a0 a1 a2), i64 a3] [] (oref 0 0 0 q0.length) [⟨0, some (q0.map f32)⟩] := by
 refine yE Tryz.func71 2 45 0 [(0, agg (mXc a0 a1 a2)), (1, i64 a3)] [⟨0, none⟩, ⟨0, none⟩] rfl ?_
 unfold i_Matrix_column at h
 refine zQ<|yd rfl (ptr (mXc a0 a1 a2)) (TOp.box_s rfl rfl rfl)<|ya rfl nilsl<|zN ?_
 refine zQ<|ye rfl (oref 0 1 0 0) ([⟨1, some (([] : List F).map f32)⟩, ⟨0, none⟩]) (TOp.buildSlice_o (g := ⟨0, none⟩) (za := f32 (some 0)) (qs := []) 0 rfl und25 siz41 zer41 rfl zel41 rfl rfl trivial rfl)<|ya rfl (oref 0 1 0 0)<|zN ?_
 refine yS<|zQ<|yl rfl (ptr (mXc a0 a1 a2)) (LOp.fap und27 rfl siz2 rfl rfl rfl)<|yl rfl (i64 a0) (y2 agg2)<|ym rfl (i64 0)<|zN ?_
 obtain ⟨z2, hz_2, h⟩ := oS h
 refine RunC.cutN (fun τ Γ => ∃ (L9 : List F) (u7 : Nat) (u8 : Nat), WeakLe τ [(5, oref 0 u7 0 L9.length)] ∧ DeadLe Γ [⟨u7, some (L9.map f32)⟩, ⟨u8, none⟩] ∧ z2 = .inl L9) ?_ ?_
 ·refine RunC.block (RunC.loop (RunL.loopM (x := z2) (i_Matrix_column_s1 a0 a1 a2 a3) (fun (s : (List F) × Int) τ Γ => ∃ (u1 : Nat) (u2 : Nat), WeakLe τ [(1, i64 a3), (2, ptr (mXc a0 a1 a2)), (5, oref 0 u1 0 s.1.length), (9, i64 a0), (10, i64 s.2)] ∧ DeadLe Γ [⟨u1, some (s.1.map f32)⟩, ⟨u2, none⟩]) ?_ _ _ _ hz_2 ⟨1, 0, ⟨aR, aR, aR, aR, aR, trivial⟩, ⟨⟨rfl, .inr rfl⟩, ⟨rfl, .inl rfl⟩, trivial⟩⟩))
  rintro ⟨L3, v4⟩ τ2 Γ2 y2_ ⟨u1, u2, hw2, hd2⟩ h2_ ho2 hr2
  refine RunC.wl (τ' := [(1, i64 a3), (2, ptr (mXc a0 a1 a2)), (5, oref 0 u1 0 L3.length), (9, i64 a0), (10, i64 v4)]) (Γ' := [⟨u1, some (L3.map f32)⟩, ⟨u2, none⟩]) hw2 hd2 ?_
  replace h2_ : i_Matrix_column_b1 a0 a1 a2 a3 L3 v4 = some y2_ := h2_
  unfold i_Matrix_column_b1 at h2_
  refine yS ?_
  rcases oB h2_ with ⟨hc1, h2_⟩ | ⟨hc1, h2_⟩
  ·refine yW<|yl rfl (b true) (LOp.eqb (LOp.lss rfl rfl rfl) hc1)<|zN ?_
   refine yS<|yT<|RunC.skip<|yS<|RunC.block<|zQ<|ym rfl (i64 v4)<|ya rfl (i64 v4)<|zN ?_
   obtain ⟨r5, hf2, h2_⟩ := oS h2_
   obtain ⟨hm3, h2_⟩ := need_some h2_
   refine yW<|ym rfl (oref 0 u1 0 L3.length)<|yl rfl (agg (mXc a0 a1 a2)) (yL agg27 siz27)<|ym rfl (i64 v4)<|ym rfl (i64 a3)<|yd rfl (f32 r5) (TOp.callB (CallAs.func ent41 rfl rfl) (Bors.cons (Bor.agg (bP (bP (bS bN)))) (bP bN0)) rfl rfl (i_Matrix_at_ok a0 a1 a2 v4 a3 r5 hf2))<|ye rfl (oref 1 (u2 + 1) 0 1) ([⟨u1, some (L3.map f32)⟩, ⟨(u2 + 1), some (([r5] : List F).map f32)⟩]) (TOp.buildSlice_o (g := ⟨u2, none⟩) (za := f32 (some 0)) (qs := [(0, [f32 r5])]) 1 rfl und25 siz41 zer41 rfl zel41 rfl rfl ⟨rfl, ⟨_, ALe.refl _, rfl⟩, trivial⟩ rfl)<|ROps.app (f := f32) (xs := L3) (ys := ([r5] : List F)) (Γ' := [⟨(u1 + 1), some ((L3 ++ ([r5] : List F)).map f32)⟩, ⟨(u2 + 1), some (([r5] : List F).map f32)⟩]) rfl pun25 inf41 rfl rfl rfl rfl rfl rfl rfl rfl rfl (by simp) (ReadAs.own rfl (by simp)) (ones_map (fun _ => rfl)) (ap_by hm3) (ap_mx hm3) rfl<|ya rfl (oref 0 (u1 + 1) 0 (L3.length + 1))<|zN ?_
   refine RunC.wl (τ' := [(1, i64 a3), (2, ptr (mXc a0 a1 a2)), (5, oref 0 (u1 + 1) 0 (L3.length + 1)), (9, i64 a0), (10, i64 v4)]) (Γ' := [⟨(u1 + 1), some ((L3 ++ ([r5] : List F)).map f32)⟩, ⟨(u2 + 1), none⟩]) ⟨aR, aR, aR, aR, aR, trivial⟩ ⟨⟨rfl, .inr rfl⟩, ⟨rfl, .inl rfl⟩, trivial⟩ ?_
   obtain ⟨x6, hx4, h2_⟩ := oL h2_
   refine yW<|yl rfl (i64 x6) (LOp.eqr (LOp.add rfl rfl rfl) (congrArg (ik .i64) hx4))<|ym rfl (i64 x6)<|zN ?_
   cases oI h2_
   exact ⟨_, rfl, (u1 + 1), (u2 + 1), ⟨aR, aR, (ALe.eq (by rw [(app_len rfl rfl)] <;> rfl)), aR, aR, trivial⟩, ⟨⟨rfl, .inr rfl⟩, ⟨rfl, .inl rfl⟩, trivial⟩⟩
  ·refine yW<|yl rfl (b false) (LOp.eqb (LOp.lss rfl rfl rfl) hc1)<|zN ?_
   refine yS<|yF<|RunC.exit ?_
   cases oI h2_
   have hx := ho2 _ rfl
   exact ⟨L3, u1, u2, ⟨aR, trivial⟩, ⟨⟨rfl, .inr rfl⟩, ⟨rfl, .inl rfl⟩, trivial⟩, hx⟩
 ·rintro τ3 Γ3 ⟨L9, u7, u8, hw3, hd3, rfl⟩
  refine RunC.wl hw3 hd3 ?_
  replace h : i_Matrix_column_k1 L9 = some q0 := h
  unfold i_Matrix_column_k1 at h
  refine zQ<|ym rfl (oref 0 u7 0 L9.length)<|ya rfl (oref 0 u7 0 L9.length)<|zN ?_
  refine RunC.ret ?_
  have hq := oI h
  subst q0
  exact bodyQ.mk (r' := oref 0 u7 0 L9.length) [(0, u7)] (.inr rfl) rfl (ndB_ok rfl) (by simp [ren, rens, sigma]) rfl (Res.one rfl (RV.tmp rfl)) (SelL.arr0 (f := f32) (fun _ => rfl) rfl trivial)
def i_Matrix_setColumn_02o_b1 (a0 : Int) (a1 : Int) (a2 : Int) (a3 : List F) (a4 : List F) (L1 : List F) (v3 : Int) : Option (LR ((List F) × Int) ((List F)) ((List F))) :=
 bsel (decide (v3 < a0)) (
  obind (at? a3 v3) fun (e5 : F) =>
  obind (i_Matrix_set_02o a0 a1 v3 a2 e5 L1) fun (r6 : List F) =>
  need (decide (r6.length = a4.length)) <|
  olet (IntKind.i64.wrap (v3 + 1)) fun (x7 : Int) =>
  some (LR.next (r6, x7))) (
  some (LR.out L1))
def i_Matrix_setColumn_02o_s1 (a0 : Int) (a1 : Int) (a2 : Int) (a3 : List F) (a4 : List F) : ((List F) × Int) → Option (LR ((List F) × Int) ((List F)) ((List F))) := fun s => i_Matrix_setColumn_02o_b1 a0 a1 a2 a3 a4 s.1 s.2
def i_Matrix_setColumn_02o_k1 (L8 : List F) : Option ((List F)) :=
 some L8
def i_Matrix_setColumn_02o (a0 : Int) (a1 : Int) (a2 : Int) (a3 : List F) (a4 : List F) : Option ((List F)) :=
 obind (loopM (i_Matrix_setColumn_02o_s1 a0 a1 a2 a3 a4) (a4, 0)) fun z => osum z (fun e => i_Matrix_setColumn_02o_k1 e) (fun r => some r)
theorem i_Matrix_setColumn_02o_ok (a0 : Int) (a1 : Int) (a2 : Int) (a3 : List F) (a4 : List F) (q0 : List F) (h : i_Matrix_setColumn_02o a0 a1 a2 a3 a4 = some q0) : Ev Tryz.prog 69 [agg (oXc a0 a1 0 0 a4.length), i64 a2, (sFc a3)] [⟨0, some (a4.map f32)⟩] (tup []) [⟨0, some (q0.map f32)⟩] := by
 refine Ev.start Tryz.func69 rfl rfl 0 (τ := [(0, agg (oXc a0 a1 0 0 a4.length)), (1, i64 a2), (2, (sFc a3))]) rfl (Γ' := [⟨0, some (a4.map f32)⟩]) rfl (n := 42) rfl (g := 1) rfl (by decide) ?_
 unfold i_Matrix_setColumn_02o at h
 refine zQ<|yd rfl (ptr (oXc a0 a1 0 0 a4.length)) (TOp.box_s rfl rfl rfl)<|zN ?_
 refine zQ<|yl rfl (ptr (oXc a0 a1 0 0 a4.length)) (LOp.fap und27 rfl siz2 rfl rfl rfl)<|yl rfl (i64 a0) (y2 agg2)<|ym rfl (i64 0)<|zN ?_
 obtain ⟨z2, hz_2, h⟩ := oS h
 refine RunC.cutN (fun τ Γ => ∃ (L8 : List F), L8.length = a4.length ∧ WeakLe τ [] ∧ DeadLe Γ [⟨0, some (L8.map f32)⟩] ∧ z2 = .inl L8) ?_ ?_
 ·refine RunC.block (RunC.loop (RunL.loopM (x := z2) (i_Matrix_setColumn_02o_s1 a0 a1 a2 a3 a4) (fun (s : (List F) × Int) τ Γ => s.1.length = a4.length ∧ WeakLe τ [(1, i64 a2), (2, (sFc a3)), (3, ptr (oXc a0 a1 0 0 a4.length)), (8, i64 a0), (9, i64 s.2)] ∧ DeadLe Γ [⟨0, some (s.1.map f32)⟩]) ?_ _ _ _ hz_2 ⟨rfl, ⟨aR, aR, aR, aR, aR, trivial⟩, ⟨⟨rfl, .inr rfl⟩, trivial⟩⟩))
  rintro ⟨L1, v3⟩ τ2 Γ2 y2_ ⟨hl2, hw2, hd2⟩ h2_ ho2 hr2
  refine RunC.wl (τ' := [(1, i64 a2), (2, (sFc a3)), (3, ptr (oXc a0 a1 0 0 a4.length)), (8, i64 a0), (9, i64 v3)]) (Γ' := [⟨0, some (L1.map f32)⟩]) hw2 hd2 ?_
  replace hl2 : L1.length = a4.length := hl2
  replace h2_ : i_Matrix_setColumn_02o_b1 a0 a1 a2 a3 a4 L1 v3 = some y2_ := h2_
  unfold i_Matrix_setColumn_02o_b1 at h2_
  refine yS ?_
  rcases oB h2_ with ⟨hc1, h2_⟩ | ⟨hc1, h2_⟩
  ·refine yW<|yl rfl (b true) (LOp.eqb (LOp.lss rfl rfl rfl) hc1)<|zN ?_
   refine yS<|yT<|RunC.skip<|yS<|RunC.block<|zQ<|ym rfl (i64 v3)<|ya rfl (i64 v3)<|zN ?_
   obtain ⟨e5, he3, h2_⟩ := oS h2_
   obtain ⟨r6, hf4, h2_⟩ := oS h2_
   obtain ⟨hn5, h2_⟩ := need_some h2_
   refine RunC.region_draw (Γ' := [⟨0, some (L1.map f32)⟩]) 7 mixed 
    (tl rfl (agg (oXc a0 a1 0 0 a4.length)) (yL agg27 siz27) <|
    (tm rfl (i64 v3) <|
    (tm rfl (i64 a2) <|
    (tm rfl (sFc a3) <|
    (tm rfl (i64 v3) <|
    (tl rfl (ptr [f32 e5]) (LOp.le (LOp.ix (f := f32) und25 siz41 rfl rfl rfl rfl he3) ALe.ptr) <|
    (tl rfl (f32 e5) (y2 agg41) <|
    TR.nil))))))) rfl (by kernel_rfl) rfl fills_nil rfl ?_
   iterate 7 refine ROps.dropS ?_
   refine ROps.drop0<|ROps.callO (A := [agg (oXc a0 a1 0 0 a4.length), i64 v3, i64 a2, f32 e5]) (args := [agg (oXc a0 a1 0 0 L1.length), i64 v3, i64 a2, f32 e5]) (Γc := [⟨0, some (L1.map f32)⟩]) (Γc' := [⟨0, some (r6.map f32)⟩]) (r' := tup []) (Γ' := [⟨0, some (r6.map f32)⟩]) [(0, 0)] [] rfl (CallAs.func ent97 rfl rfl) rfl rfl (SelOk.of (ndB_ok rfl) (SelL.arr0 (f := f32) (fun _ => rfl) rfl trivial)) (live_of ⟨⟨_, _, rfl⟩, trivial⟩) (by simp [ren, rens, sigma, rens_f32, rens_f64, rens_i64, rens_ik, rens_str, rens_cp, hl2]) rfl (i_Matrix_set_02o_ok a0 a1 v3 a2 e5 L1 r6 hf4) rfl (news_of trivial) (ndB_ok rfl) (by simp [ren, rens, sigma, of_decide_eq_true hn5]) (by simp [backOb, sigma, ren, rens, rens_f32, rens_f64, rens_i64, rens_ik, rens_str, rens_cp])<|zN ?_
   obtain ⟨x7, hx6, h2_⟩ := oL h2_
   refine yW<|yl rfl (i64 x7) (LOp.eqr (LOp.add rfl rfl rfl) (congrArg (ik .i64) hx6))<|ym rfl (i64 x7)<|zN ?_
   cases oI h2_
   exact ⟨_, rfl, (of_decide_eq_true hn5), ⟨aR, aR, aR, aR, aR, trivial⟩, ⟨⟨rfl, .inr rfl⟩, trivial⟩⟩
  ·refine yW<|yl rfl (b false) (LOp.eqb (LOp.lss rfl rfl rfl) hc1)<|zN ?_
   refine yS<|yF<|RunC.exit ?_
   cases oI h2_
   have hx := ho2 _ rfl
   exact ⟨L1, hl2, trivial, ⟨⟨rfl, .inr rfl⟩, trivial⟩, hx⟩
 ·rintro τ3 Γ3 ⟨L8, hl9, hw3, hd3, rfl⟩
  replace h : i_Matrix_setColumn_02o_k1 L8 = some q0 := h
  unfold i_Matrix_setColumn_02o_k1 at h
  refine bodyQ.wl hw3 hd3 ?_
  have hq := oI h
  subst q0
  exact yB (tup []) [(0, 0)] (Res.zero rfl) (SelL.arr (f := f32) (fun _ => rfl) rfl trivial)
def i_Matrix_valid_02o (a0 : Int) (a1 : Int) (a2 : List F) : Option ((Int × Int × Bool × (List F)) ⊕ (Int × Int × Bool × (List F) × (List F))) :=
 obind (i_ValidMatrix a0 a1 a2) fun (r1 : Bool) =>
 bsel r1 (
  some (Sum.inl (a0, a1, true, a2))) (
  some (Sum.inr (0, 0, false, a2, ([] : List F))))
theorem i_Matrix_valid_02o_ok0 (a0 : Int) (a1 : Int) (a2 : List F) (q0 : Int) (q1 : Int) (q2 : Bool) (q3 : List F) (h : i_Matrix_valid_02o a0 a1 a2 = some (Sum.inl (q0, q1, q2, q3))) : Ev Tryz.prog 72 [agg (oXc a0 a1 0 0 a2.length)] [⟨0, some (a2.map f32)⟩] (tup [agg (oXc q0 q1 0 0 q3.length), b q2]) [⟨0, some (q3.map f32)⟩] := by
 refine Ev.start Tryz.func72 rfl rfl 2 (τ := [(0, agg (oXc a0 a1 0 0 a2.length))]) rfl (Γ' := [⟨0, some (a2.map f32)⟩, ⟨0, none⟩, ⟨0, none⟩]) rfl (n := 18) rfl (g := 1) rfl (by decide) ?_
 unfold i_Matrix_valid_02o at h
 refine zQ<|yd rfl (ptr (oXc a0 a1 0 0 a2.length)) (TOp.box_s rfl rfl rfl)<|ye rfl (optr 1 1 0) [⟨0, some (a2.map f32)⟩, ⟨1, some zMx⟩, ⟨0, none⟩] (TOp.alloc_o (g := ⟨0, none⟩) 1 rfl zer27 zok27 rfl)<|ya rfl (b false)<|zN ?_
 refine yS<|yS ?_
 obtain ⟨r1, hf1, h⟩ := oS h
 rcases oB h with ⟨hc2, h⟩ | ⟨hc2, h⟩
 ·refine yW<|yl rfl (agg (oXc a0 a1 0 0 a2.length)) (yL agg27 siz27)<|yd rfl (b true) (TOp.eqb (TOp.callB (CallAs.func ent45 rfl rfl) (Bors.cons (Bor.agg (bP (bP (Bors.cons (Bor.own (f := f32) (fun _ => rfl) rfl rfl) bN)))) bN) rfl rfl (i_ValidMatrix_ok a0 a1 a2 r1 hf1)) hc2)<|yl rfl (b false) y1<|zN ?_
  refine yF<|RunC.skip<|zQ<|yl rfl (agg (oXc a0 a1 0 0 a2.length)) (yL agg27 siz27)<|ys (agg (oXc a0 a1 0 0 a2.length)) (oXc a0 a1 0 0 a2.length) [⟨0, some (a2.map f32)⟩, ⟨1, some (oXc a0 a1 0 0 a2.length)⟩, ⟨0, none⟩] siz27<|ya rfl (b true)<|zN ?_
  refine RunC.ret ?_
  have hq := oI h
  have hq := Sum.inl.inj hq
  obtain ⟨hq0, hq⟩ := Prod.mk.inj hq
  obtain ⟨hq1, hq⟩ := Prod.mk.inj hq
  obtain ⟨hq2, hq⟩ := Prod.mk.inj hq
  subst q0
  subst q1
  subst q2
  subst q3
  exact yB (tup [agg (oXc a0 a1 0 0 a2.length), b true]) [(0, 0)] (Res.two rfl (RV.cell agg27 siz27 rfl rfl rfl rfl) (RV.tmp rfl)) (SelL.arr (f := f32) (fun _ => rfl) rfl trivial)
 ·refine yW<|yl rfl (agg (oXc a0 a1 0 0 a2.length)) (yL agg27 siz27)<|yd rfl (b false) (TOp.eqb (TOp.callB (CallAs.func ent45 rfl rfl) (Bors.cons (Bor.agg (bP (bP (Bors.cons (Bor.own (f := f32) (fun _ => rfl) rfl rfl) bN)))) bN) rfl rfl (i_ValidMatrix_ok a0 a1 a2 r1 hf1)) hc2)<|yl rfl (b true) y0<|zN ?_
  refine yT<|zQ<|yl rfl (agg zMx) (LOp.build (qs := []) zer27 zok27 und27 plc27 rfl trivial rfl)<|ys (agg zMx) zMx [⟨0, some (a2.map f32)⟩, ⟨1, some zMx⟩, ⟨0, none⟩] siz27<|ya rfl (b false)<|zN ?_
  cases oI h
theorem i_Matrix_valid_02o_ok1 (a0 : Int) (a1 : Int) (a2 : List F) (q0 : Int) (q1 : Int) (q2 : Bool) (q3 : List F) (q4 : List F) (h : i_Matrix_valid_02o a0 a1 a2 = some (Sum.inr (q0, q1, q2, q3, q4))) : Ev Tryz.prog 72 [agg (oXc a0 a1 0 0 a2.length)] [⟨0, some (a2.map f32)⟩] (tup [agg (oXc q0 q1 1 0 q4.length), b q2]) [⟨0, some (q3.map f32)⟩, ⟨0, some (q4.map f32)⟩] := by
 refine Ev.start Tryz.func72 rfl rfl 2 (τ := [(0, agg (oXc a0 a1 0 0 a2.length))]) rfl (Γ' := [⟨0, some (a2.map f32)⟩, ⟨0, none⟩, ⟨0, none⟩]) rfl (n := 18) rfl (g := 1) rfl (by decide) ?_
 unfold i_Matrix_valid_02o at h
 refine zQ<|yd rfl (ptr (oXc a0 a1 0 0 a2.length)) (TOp.box_s rfl rfl rfl)<|ye rfl (optr 1 1 0) [⟨0, some (a2.map f32)⟩, ⟨1, some zMx⟩, ⟨0, none⟩] (TOp.alloc_o (g := ⟨0, none⟩) 1 rfl zer27 zok27 rfl)<|ya rfl (b false)<|zN ?_
 refine yS<|yS ?_
 obtain ⟨r1, hf1, h⟩ := oS h
 rcases oB h with ⟨hc2, h⟩ | ⟨hc2, h⟩
 ·refine yW<|yl rfl (agg (oXc a0 a1 0 0 a2.length)) (yL agg27 siz27)<|yd rfl (b true) (TOp.eqb (TOp.callB (CallAs.func ent45 rfl rfl) (Bors.cons (Bor.agg (bP (bP (Bors.cons (Bor.own (f := f32) (fun _ => rfl) rfl rfl) bN)))) bN) rfl rfl (i_ValidMatrix_ok a0 a1 a2 r1 hf1)) hc2)<|yl rfl (b false) y1<|zN ?_
  refine yF<|RunC.skip<|zQ<|yl rfl (agg (oXc a0 a1 0 0 a2.length)) (yL agg27 siz27)<|ys (agg (oXc a0 a1 0 0 a2.length)) (oXc a0 a1 0 0 a2.length) [⟨0, some (a2.map f32)⟩, ⟨1, some (oXc a0 a1 0 0 a2.length)⟩, ⟨0, none⟩] siz27<|ya rfl (b true)<|zN ?_
  cases oI h
 ·refine yW<|yl rfl (agg (oXc a0 a1 0 0 a2.length)) (yL agg27 siz27)<|yd rfl (b false) (TOp.eqb (TOp.callB (CallAs.func ent45 rfl rfl) (Bors.cons (Bor.agg (bP (bP (Bors.cons (Bor.own (f := f32) (fun _ => rfl) rfl rfl) bN)))) bN) rfl rfl (i_ValidMatrix_ok a0 a1 a2 r1 hf1)) hc2)<|yl rfl (b true) y0<|zN ?_
  refine yT<|zQ<|yl rfl (agg zMx) (LOp.build (qs := []) zer27 zok27 und27 plc27 rfl trivial rfl)<|ys (agg zMx) zMx [⟨0, some (a2.map f32)⟩, ⟨1, some zMx⟩, ⟨0, none⟩] siz27<|ya rfl (b false)<|zN ?_
  refine RunC.nil_cell (l' := [i64 0, i64 0, oref 2 1 0 0]) (Γ' := [⟨0, some (a2.map f32)⟩, ⟨1, some [i64 0, i64 0, oref 2 1 0 0]⟩, ⟨1, some (([] : List F).map f32)⟩]) 1 2 2 rfl rfl rfl rfl rfl<|RunC.ret ?_
  have hq := oI h
  have hq := Sum.inr.inj hq
  obtain ⟨hq0, hq⟩ := Prod.mk.inj hq
  obtain ⟨hq1, hq⟩ := Prod.mk.inj hq
  obtain ⟨hq2, hq⟩ := Prod.mk.inj hq
  obtain ⟨hq3, hq⟩ := Prod.mk.inj hq
  subst q0
  subst q1
  subst q2
  subst q3
  subst q4
  exact yB (tup [agg [i64 0, i64 0, oref 2 1 0 (([] : List F).length)], b false]) [(0, 0), (2, 1)] (Res.eq (Res.two rfl (RV.cell agg27 siz27 rfl rfl rfl rfl) (RV.tmp rfl)) (by rw [(show ([] : List F).length = 0 from rfl)] <;> rfl)) (SelL.arr (f := f32) (fun _ => rfl) rfl (SelL.arr0 (f := f32) (fun _ => rfl) rfl trivial))
def i_FactorInverse_b1 (a0 : Int) (a1 : Int) (a2 : List F) (a3 : List Int) (r2 : Int) (r3 : Int) (r4 : List F) (L5 : List F) (v7 : Int) : Option (LR ((List F) × Int) ((List F)) (Int × Int × Bool × (List F))) :=
 bsel (decide (v7 < a0)) (
  obind3 (i_unit a0) fun (r13 : Int) (r14 : Int) (r15 : List F) =>
  obind (i_Matrix_column r13 r14 r15 v7) fun (r16 : List F) =>
  obind (i_Factor_solve a0 a1 a2 a3 r16) fun (r17 : List F) =>
  obind (i_Matrix_setColumn_02o r2 r3 v7 r17 L5) fun (r18 : List F) =>
  need (decide (r18.length = r4.length)) <|
  olet (IntKind.i64.wrap (v7 + 1)) fun (x19 : Int) =>
  some (LR.next (r18, x19))) (
  some (LR.out L5))
def i_FactorInverse_s1 (a0 : Int) (a1 : Int) (a2 : List F) (a3 : List Int) (r2 : Int) (r3 : Int) (r4 : List F) : ((List F) × Int) → Option (LR ((List F) × Int) ((List F)) (Int × Int × Bool × (List F))) := fun s => i_FactorInverse_b1 a0 a1 a2 a3 r2 r3 r4 s.1 s.2
def i_FactorInverse_k1 (r2 : Int) (r3 : Int) (r4 : List F) (L20 : List F) : Option (Int × Int × Bool × (List F)) :=
 obind (i_Matrix_valid_02o r2 r3 L20) (fun z => osum z (fun y => obind4 (some y) fun (r22 : Int) (r23 : Int) (r24 : Bool) (r25 : List F) =>
  need (decide (r25.length = r4.length)) <|
  some (r22, r23, r24, r25)) (fun y => obind5 (some y) fun (r26 : Int) (r27 : Int) (r28 : Bool) (r29 : List F) (r30 : List F) =>
  need (decide (r29.length = r4.length)) <|
  some (r26, r27, r28, r30)))
def i_FactorInverse (a0 : Int) (a1 : Int) (a2 : List F) (a3 : List Int) : Option (Int × Int × Bool × (List F)) :=
 obind (i_ValidFactor a0 a1 a2 a3) fun (r1 : Bool) =>
 bsel r1 (
  obind3 (i_newMatrix a0 a0) fun (r2 : Int) (r3 : Int) (r4 : List F) =>
  obind (loopM (i_FactorInverse_s1 a0 a1 a2 a3 r2 r3 r4) (r4, 0)) fun z => osum z (fun e => i_FactorInverse_k1 r2 r3 r4 e) (fun r => some r)) (
  some (0, 0, false, ([] : List F)))
theorem i_FactorInverse_ok (a0 : Int) (a1 : Int) (a2 : List F) (a3 : List Int) (q0 : Int) (q1 : Int) (q2 : Bool) (q3 : List F) (h : i_FactorInverse a0 a1 a2 a3 = some (q0, q1, q2, q3)) : Ev Tryz.prog 20 [agg [i64 a0, i64 a1, (sFc a2), sl a3.length (a3.map i64)]] [] (tup [agg (oXc q0 q1 0 0 q3.length), b q2]) [⟨0, some (q3.map f32)⟩] := by
 refine yE Tryz.func20 4 71 0 ([(0, agg [i64 a0, i64 a1, (sFc a2), sl a3.length (a3.map i64)])]) [⟨0, none⟩, ⟨0, none⟩, ⟨0, none⟩, ⟨0, none⟩] rfl ?_
 unfold i_FactorInverse at h
 refine zQ<|yd rfl (ptr [i64 a0, i64 a1, (sFc a2), sl a3.length (a3.map i64)]) (TOp.box_s rfl rfl rfl)<|ye rfl (optr 0 1 0) [⟨1, some zMx⟩, ⟨0, none⟩, ⟨0, none⟩, ⟨0, none⟩] (TOp.alloc_o (g := ⟨0, none⟩) 0 rfl zer27 zok27 rfl)<|ya rfl (b false)<|zN ?_
 refine yS<|yS ?_
 obtain ⟨r1, hf1, h⟩ := oS h
 rcases oB h with ⟨hc2, h⟩ | ⟨hc2, h⟩
 ·refine yW<|yl rfl (agg [i64 a0, i64 a1, (sFc a2), sl a3.length (a3.map i64)]) (yL agg32 siz32)<|yd rfl (b true) (TOp.eqb (TOp.callB (CallAs.func ent10 rfl rfl) (Bors.cons (Bor.agg (bP (bP (bS (bS bN))))) bN) rfl rfl (i_ValidFactor_ok a0 a1 a2 a3 r1 hf1)) hc2)<|yl rfl (b false) y1<|zN ?_
  refine yF<|RunC.skip<|zQ<|yl rfl (ptr [i64 a0, i64 a1, (sFc a2), sl a3.length (a3.map i64)]) (LOp.fap und32 rfl siz27 rfl rfl rfl)<|yl rfl (ptr [i64 a0, i64 a1, (sFc a2), sl a3.length (a3.map i64)]) (LOp.fap und27 rfl siz2 rfl rfl rfl)<|yl rfl (i64 a0) (y2 agg2)<|ya rfl (i64 a0)<|zN ?_
  refine yS ?_
  obtain ⟨r2, r3, r4, hf3, h⟩ := obind3_some h
  refine yW<|ym rfl (i64 a0)<|ym rfl (i64 a0)<|ye rfl (agg (oXc r2 r3 1 1 r4.length)) [⟨1, some zMx⟩, ⟨1, some (r4.map f32)⟩, ⟨0, none⟩, ⟨0, none⟩] (TOp.callBN (ls := [(r4.map f32)]) [1] (CallAs.func ent68 rfl rfl) (bP bN0) rfl (i_newMatrix_ok a0 a0 r2 r3 r4 hf3) (and_all (lts0_map (f := f32) (fun _ => rfl) _) rfl) (and_all (noss_map (f := f32) (fun _ => rfl) _) rfl) rfl (by decide) (ns_of ⟨⟨_, rfl⟩, trivial⟩))<|ye rfl (optr 2 1 0) [⟨1, some zMx⟩, ⟨1, some (r4.map f32)⟩, ⟨1, some zMx⟩, ⟨0, none⟩] (TOp.alloc_o (g := ⟨0, none⟩) 2 rfl zer27 zok27 rfl)<|ys (agg (oXc r2 r3 1 1 r4.length)) (oXc r2 r3 1 1 r4.length) [⟨1, some zMx⟩, ⟨1, some (r4.map f32)⟩, ⟨1, some (oXc r2 r3 1 1 r4.length)⟩, ⟨0, none⟩] siz27<|zN ?_
  refine yS<|zQ<|ym rfl (i64 a0)<|ym rfl (i64 0)<|zN ?_
  obtain ⟨z2, hz_2, h⟩ := oS h
  refine RunC.cutN (fun τ Γ => ∃ (L20 : List F), L20.length = r4.length ∧ WeakLe τ [(2, optr 0 1 0), (5, optr 2 1 0)] ∧ DeadLe Γ [⟨1, some zMx⟩, ⟨1, some (L20.map f32)⟩, ⟨1, some (oXc r2 r3 1 1 r4.length)⟩, ⟨0, none⟩] ∧ z2 = .inl L20) ?_ ?_
  ·refine RunC.block (RunC.loop (RunL.loopM (x := z2) (i_FactorInverse_s1 a0 a1 a2 a3 r2 r3 r4) (fun (s : (List F) × Int) τ Γ => s.1.length = r4.length ∧ WeakLe τ [(1, ptr [i64 a0, i64 a1, (sFc a2), sl a3.length (a3.map i64)]), (2, optr 0 1 0), (4, i64 a0), (5, optr 2 1 0), (17, i64 a0), (18, i64 s.2)] ∧ DeadLe Γ [⟨1, some zMx⟩, ⟨1, some (s.1.map f32)⟩, ⟨1, some (oXc r2 r3 1 1 r4.length)⟩, ⟨0, none⟩]) ?_ _ _ _ hz_2 ⟨rfl, ⟨aR, aR, aR, aR, aR, aR, trivial⟩, ⟨⟨rfl, .inr rfl⟩, ⟨rfl, .inr rfl⟩, ⟨rfl, .inr rfl⟩, ⟨rfl, .inr rfl⟩, trivial⟩⟩))
   rintro ⟨L5, v7⟩ τ2 Γ2 y2_ ⟨hl6, hw2, hd2⟩ h2_ ho2 hr2
   refine RunC.wl (τ' := [(1, ptr [i64 a0, i64 a1, (sFc a2), sl a3.length (a3.map i64)]), (2, optr 0 1 0), (4, i64 a0), (5, optr 2 1 0), (17, i64 a0), (18, i64 v7)]) (Γ' := [⟨1, some zMx⟩, ⟨1, some (L5.map f32)⟩, ⟨1, some (oXc r2 r3 1 1 r4.length)⟩, ⟨0, none⟩]) hw2 hd2 ?_
   replace hl6 : L5.length = r4.length := hl6
   replace h2_ : i_FactorInverse_b1 a0 a1 a2 a3 r2 r3 r4 L5 v7 = some y2_ := h2_
   unfold i_FactorInverse_b1 at h2_
   refine yS ?_
   rcases oB h2_ with ⟨hc4, h2_⟩ | ⟨hc4, h2_⟩
   ·refine yW<|yl rfl (b true) (LOp.eqb (LOp.lss rfl rfl rfl) hc4)<|zN ?_
    refine yS<|yT<|RunC.skip<|yS<|RunC.block<|zQ<|ym rfl (i64 v7)<|ya rfl (i64 v7)<|zN ?_
    obtain ⟨r13, r14, r15, hf8, h2_⟩ := obind3_some h2_
    obtain ⟨r16, hf9, h2_⟩ := oS h2_
    obtain ⟨r17, hf10, h2_⟩ := oS h2_
    obtain ⟨r18, hf11, h2_⟩ := oS h2_
    obtain ⟨hn12, h2_⟩ := need_some h2_
    refine RunC.region_draw (Γ' := [⟨1, some zMx⟩, ⟨1, some (L5.map f32)⟩, ⟨1, some (oXc r2 r3 1 1 r4.length)⟩, ⟨0, none⟩]) 8 mixed 
     (TR.d (r := agg (oXc r2 r3 1 1 r4.length)) (fs := []) rfl rfl (TOp.loadAgg_o rfl agg27 siz27 rfl rfl rfl rfl) <|
     (tm rfl (i64 v7) <|
     (tl rfl (agg [i64 a0, i64 a1, (sFc a2), sl a3.length (a3.map i64)]) (yL agg32 siz32) <|
     (tm rfl (i64 a0) <|
     (TR.d (r := agg (mXc r13 r14 r15)) (fs := []) rfl rfl (TOp.callS (CallAs.func ent70 rfl rfl) (ALes.cons aR ALes.nil) (lts_cons rfl lts_nil) (lt_agg (lts_cons rfl (lts_cons rfl (lts_cons (lt_sl (fun _ => rfl)) lts_nil)))) (i_unit_ok a0 r13 r14 r15 hf8) (Bor.agg (bP (bP (Bors.cons (Bor.own (f := f32) (fun _ => rfl) rfl rfl) bN))))) <|
     (tm rfl (i64 v7) <|
     (TR.d (r := (sFc r16)) (fs := []) rfl rfl (TOp.callS (CallAs.func ent71 rfl rfl) (ALes.cons aR (ALes.cons aR ALes.nil)) (lts_cons (lt_agg (lts_cons rfl (lts_cons rfl (lts_cons (lt_sl (fun _ => rfl)) lts_nil)))) (lts_cons rfl lts_nil)) (lt_sl (fun _ => rfl)) (i_Matrix_column_ok r13 r14 r15 v7 r16 hf9) (Bor.own (f := f32) (fun _ => rfl) rfl rfl)) <|
     (TR.d (r := (sFc r17)) (fs := []) rfl rfl (TOp.callS (CallAs.func ent65 rfl rfl) (ALes.cons aR (ALes.cons aR ALes.nil)) (lts_cons (lt_agg (lts_cons rfl (lts_cons rfl (lts_cons (lt_sl (fun _ => rfl)) (lts_cons (lt_sl (fun _ => rfl)) lts_nil))))) (lts_cons (lt_sl (fun _ => rfl)) lts_nil)) (lt_sl (fun _ => rfl)) (i_Factor_solve_ok a0 a1 a2 a3 r16 r17 hf10) (Bor.own (f := f32) (fun _ => rfl) rfl rfl)) <|
     TR.nil)))))))) rfl (by kernel_rfl) rfl fills_nil rfl ?_
    iterate 8 refine ROps.dropS ?_
    refine ROps.drop0<|ROps.callO (A := [agg (oXc r2 r3 1 1 r4.length), i64 v7, (sFc r17)]) (args := [agg (oXc r2 r3 0 0 L5.length), i64 v7, (sFc r17)]) (Γc := [⟨0, some (L5.map f32)⟩]) (Γc' := [⟨0, some (r18.map f32)⟩]) (r' := tup []) (Γ' := [⟨1, some zMx⟩, ⟨1, some (r18.map f32)⟩, ⟨1, some (oXc r2 r3 1 1 r4.length)⟩, ⟨0, none⟩]) [(1, 1)] [] rfl (CallAs.func ent69 rfl rfl) rfl rfl (SelOk.of (ndB_ok rfl) (SelL.arr0 (f := f32) (fun _ => rfl) rfl trivial)) (live_of ⟨⟨_, _, rfl⟩, trivial⟩) (by simp [ren, rens, sigma, rens_f32, rens_f64, rens_i64, rens_ik, rens_str, rens_cp, hl6]) (lts_cons rfl (lts_cons rfl (lts_cons (lt_slk (fun _ => rfl)) lts_nil))) (i_Matrix_setColumn_02o_ok r2 r3 v7 r17 L5 r18 hf11) rfl (news_of trivial) (ndB_ok rfl) (by simp [ren, rens, sigma, of_decide_eq_true hn12]) (by simp [backOb, sigma, ren, rens, rens_f32, rens_f64, rens_i64, rens_ik, rens_str, rens_cp])<|zN ?_
    obtain ⟨x19, hx13, h2_⟩ := oL h2_
    refine yW<|yl rfl (i64 x19) (LOp.eqr (LOp.add rfl rfl rfl) (congrArg (ik .i64) hx13))<|ym rfl (i64 x19)<|zN ?_
    cases oI h2_
    exact ⟨_, rfl, (of_decide_eq_true hn12), ⟨aR, aR, aR, aR, aR, aR, trivial⟩, ⟨⟨rfl, .inr rfl⟩, ⟨rfl, .inr rfl⟩, ⟨rfl, .inr rfl⟩, ⟨rfl, .inr rfl⟩, trivial⟩⟩
   ·refine yW<|yl rfl (b false) (LOp.eqb (LOp.lss rfl rfl rfl) hc4)<|zN ?_
    refine yS<|yF<|RunC.exit ?_
    cases oI h2_
    have hx := ho2 _ rfl
    exact ⟨L5, hl6, ⟨aR, aR, trivial⟩, ⟨⟨rfl, .inr rfl⟩, ⟨rfl, .inr rfl⟩, ⟨rfl, .inr rfl⟩, ⟨rfl, .inr rfl⟩, trivial⟩, hx⟩
  ·rintro τ3 Γ3 ⟨L20, hl21, hw3, hd3, rfl⟩
   refine RunC.wl hw3 hd3 ?_
   replace h : i_FactorInverse_k1 r2 r3 r4 L20 = some (q0, q1, q2, q3) := h
   unfold i_FactorInverse_k1 at h
   refine yS ?_
   obtain ⟨z4, hf14, h⟩ := oS h
   rcases z4 with z4 | z4
   ·replace h := (osum_inl _ _ _).symm.trans h
    obtain ⟨r22, r23, r24, r25, hz5, h⟩ := obind4_some h
    cases hz5
    obtain ⟨hn15, h⟩ := need_some h
    refine yW<|yd rfl (agg (oXc r2 r3 1 1 r4.length)) (TOp.loadAgg_o rfl agg27 siz27 rfl rfl rfl rfl)<|ROps.callO (A := [agg (oXc r2 r3 1 1 r4.length)]) (args := [agg (oXc r2 r3 0 0 L20.length)]) (Γc := [⟨0, some (L20.map f32)⟩]) (Γc' := [⟨0, some (r25.map f32)⟩]) (r' := tup [agg (oXc r22 r23 1 1 r4.length), b r24]) (Γ' := [⟨1, some zMx⟩, ⟨1, some (r25.map f32)⟩, ⟨1, some (oXc r2 r3 1 1 r4.length)⟩, ⟨0, none⟩]) [(1, 1)] [] rfl (CallAs.func ent72 rfl rfl) rfl rfl (SelOk.of (ndB_ok rfl) (SelL.arr0 (f := f32) (fun _ => rfl) rfl trivial)) (live_of ⟨⟨_, _, rfl⟩, trivial⟩) (by simp [ren, rens, sigma, rens_f32, rens_f64, rens_i64, rens_ik, rens_str, rens_cp, hl21]) rfl (i_Matrix_valid_02o_ok0 r2 r3 L20 r22 r23 r24 r25 hf14) rfl (news_of trivial) (ndB_ok rfl) (by simp [ren, rens, sigma, of_decide_eq_true hn15]) (by simp [backOb, sigma, ren, rens, rens_f32, rens_f64, rens_i64, rens_ik, rens_str, rens_cp])<|yl rfl (agg (oXc r22 r23 1 1 r4.length)) y3<|yl rfl (b r24) y3<|ys (agg (oXc r22 r23 1 1 r4.length)) (oXc r22 r23 1 1 r4.length) [⟨1, some (oXc r22 r23 1 1 r4.length)⟩, ⟨1, some (r25.map f32)⟩, ⟨1, some (oXc r2 r3 1 1 r4.length)⟩, ⟨0, none⟩] siz27<|ya rfl (b r24)<|zN ?_
    refine RunC.ret ?_
    have hq := oI h
    obtain ⟨hq0, hq⟩ := Prod.mk.inj hq
    obtain ⟨hq1, hq⟩ := Prod.mk.inj hq
    obtain ⟨hq2, hq⟩ := Prod.mk.inj hq
    subst q0
    subst q1
    subst q2
    subst q3
    exact yB (tup [agg (oXc r22 r23 1 1 r25.length), b r24]) [(1, 1)] (Res.eq (Res.two rfl (RV.cell agg27 siz27 rfl rfl rfl rfl) (RV.tmp rfl)) (by rw [(show r25.length = r4.length from (of_decide_eq_true hn15))] <;> rfl)) (SelL.arr0 (f := f32) (fun _ => rfl) rfl trivial)
   ·replace h := (osum_inr _ _ _).symm.trans h
    obtain ⟨r26, r27, r28, r29, r30, hz6, h⟩ := obind5_some h
    cases hz6
    obtain ⟨hn16, h⟩ := need_some h
    refine yW<|yd rfl (agg (oXc r2 r3 1 1 r4.length)) (TOp.loadAgg_o rfl agg27 siz27 rfl rfl rfl rfl)<|ROps.callO (A := [agg (oXc r2 r3 1 1 r4.length)]) (args := [agg (oXc r2 r3 0 0 L20.length)]) (Γc := [⟨0, some (L20.map f32)⟩]) (Γc' := [⟨0, some (r29.map f32)⟩, ⟨0, some (r30.map f32)⟩]) (r' := tup [agg (oXc r26 r27 3 1 r30.length), b r28]) (Γ' := [⟨1, some zMx⟩, ⟨1, some (r29.map f32)⟩, ⟨1, some (oXc r2 r3 1 1 r4.length)⟩, ⟨1, some (r30.map f32)⟩]) [(1, 1)] [(3, 1)] rfl (CallAs.func ent72 rfl rfl) rfl rfl (SelOk.of (ndB_ok rfl) (SelL.arr0 (f := f32) (fun _ => rfl) rfl trivial)) (live_of ⟨⟨_, _, rfl⟩, trivial⟩) (by simp [ren, rens, sigma, rens_f32, rens_f64, rens_i64, rens_ik, rens_str, rens_cp, hl21]) rfl (i_Matrix_valid_02o_ok1 r2 r3 L20 r26 r27 r28 r29 r30 hf14) rfl (news_of ⟨⟨_, rfl, rfl⟩, trivial⟩) (show List.Nodup [1, 3] from by decide) (by simp [ren, rens, sigma, of_decide_eq_true hn16]) (by simp [backOb, sigma, ren, rens, rens_f32, rens_f64, rens_i64, rens_ik, rens_str, rens_cp])<|yl rfl (agg (oXc r26 r27 3 1 r30.length)) y3<|yl rfl (b r28) y3<|ys (agg (oXc r26 r27 3 1 r30.length)) (oXc r26 r27 3 1 r30.length) [⟨1, some (oXc r26 r27 3 1 r30.length)⟩, ⟨1, some (r29.map f32)⟩, ⟨1, some (oXc r2 r3 1 1 r4.length)⟩, ⟨1, some (r30.map f32)⟩] siz27<|ya rfl (b r28)<|zN ?_
    refine RunC.ret ?_
    have hq := oI h
    obtain ⟨hq0, hq⟩ := Prod.mk.inj hq
    obtain ⟨hq1, hq⟩ := Prod.mk.inj hq
    obtain ⟨hq2, hq⟩ := Prod.mk.inj hq
    subst q0
    subst q1
    subst q2
    subst q3
    exact yB (tup [agg (oXc r26 r27 3 1 r30.length), b r28]) [(3, 1)] (Res.two rfl (RV.cell agg27 siz27 rfl rfl rfl rfl) (RV.tmp rfl)) (SelL.arr0 (f := f32) (fun _ => rfl) rfl trivial)
 ·refine yW<|yl rfl (agg [i64 a0, i64 a1, (sFc a2), sl a3.length (a3.map i64)]) (yL agg32 siz32)<|yd rfl (b false) (TOp.eqb (TOp.callB (CallAs.func ent10 rfl rfl) (Bors.cons (Bor.agg (bP (bP (bS (bS bN))))) bN) rfl rfl (i_ValidFactor_ok a0 a1 a2 a3 r1 hf1)) hc2)<|yl rfl (b true) y0<|zN ?_
  refine yT<|zQ<|yl rfl (agg zMx) (LOp.build (qs := []) zer27 zok27 und27 plc27 rfl trivial rfl)<|ys (agg zMx) zMx [⟨1, some zMx⟩, ⟨0, none⟩, ⟨0, none⟩, ⟨0, none⟩] siz27<|ya rfl (b false)<|zN ?_
  refine RunC.nil_cell (l' := [i64 0, i64 0, oref 1 1 0 0]) (Γ' := [⟨1, some [i64 0, i64 0, oref 1 1 0 0]⟩, ⟨1, some (([] : List F).map f32)⟩, ⟨0, none⟩, ⟨0, none⟩]) 0 2 1 rfl rfl rfl rfl rfl<|RunC.ret ?_
  have hq := oI h
  obtain ⟨hq0, hq⟩ := Prod.mk.inj hq
  obtain ⟨hq1, hq⟩ := Prod.mk.inj hq
  obtain ⟨hq2, hq⟩ := Prod.mk.inj hq
  subst q0
  subst q1
  subst q2
  subst q3
  exact yB (tup [agg [i64 0, i64 0, oref 1 1 0 (([] : List F).length)], b false]) [(1, 1)] (Res.eq (Res.two rfl (RV.cell agg27 siz27 rfl rfl rfl rfl) (RV.tmp rfl)) (by rw [(show ([] : List F).length = 0 from rfl)] <;> rfl)) (SelL.arr0 (f := f32) (fun _ => rfl) rfl trivial)
def s_ValidMatrix (a0 : Int) (a1 : Int) (a2 : List F) : Option (Bool) :=
 obind (s_l02Is a0 a1 a2) fun (r1 : Bool) =>
 some r1
theorem s_ValidMatrix_ok (a0 : Int) (a1 : Int) (a2 : List F) (q0 : Bool) (h : s_ValidMatrix a0 a1 a2 = some q0) : Ev Tryz.prog 21 [agg (mXc a0 a1 a2)] [] (b q0) [] := by
 refine yE Tryz.func21 0 9 0 [(0, agg (mXc a0 a1 a2))] [] rfl ?_
 unfold s_ValidMatrix at h
 refine zQ<|yd rfl (ptr (mXc a0 a1 a2)) (TOp.box_s rfl rfl rfl)<|ya rfl (b false)<|zN ?_
 refine yS ?_
 obtain ⟨r1, hf1, h⟩ := oS h
 refine yW<|yd rfl (b r1) (TOp.callB (CallAs.func ent59 rfl rfl) (Bors.cons (Bor.ptr (bP (bP (bS bN)))) bN) rfl rfl (s_l02Is_ok a0 a1 a2 r1 hf1))<|ya rfl (b r1)<|zN ?_
 refine RunC.ret ?_
 have hq := oI h
 subst q0
 exact bodyQ.pure (.inr rfl) rfl (Res.one rfl (RV.tmp rfl))
def w_b10Gap (a0 : F) (a1 : F) : Option (F) :=
 bsel (flt .f64 a0 a1) (
  olet (fop .sub .f64 a1 a0) fun (x1 : F) =>
  some x1) (
  olet (fop .sub .f64 a0 a1) fun (x2 : F) =>
  some x2)
theorem w_b10Gap_ok (a0 : F) (a1 : F) (q0 : F) (h : w_b10Gap a0 a1 = some q0) : Ev Tryz.prog 28 [f64 a0, f64 a1] [] (f64 q0) [] := by
 refine yE Tryz.func28 0 29 0 [(0, f64 a0), (1, f64 a1)] [] rfl ?_
 unfold w_b10Gap at h
 refine zQ<|yl rfl (f64 (some 0)) (LOp.le (LOp.assign rfl rfl) (ALe.fl (by kernel_rfl) (by kernel_rfl)))<|zN ?_
 refine yS<|yS ?_
 rcases oB h with ⟨hc1, h⟩ | ⟨hc1, h⟩
 ·refine yW<|ym rfl (f64 a0)<|ym rfl (f64 a1)<|yl rfl (b true) (LOp.eqb (LOp.flt rfl (OpF.tmp rfl) (OpF.tmp rfl)) hc1)<|zN ?_
  refine yT<|yS ?_
  obtain ⟨x1, hx2, h⟩ := oL h
  refine yW<|ym rfl (f64 a1)<|ym rfl (f64 a0)<|yd rfl (f64 x1) (TOp.eqr (TOp.fop (.inr (.inl rfl)) rfl (OpF.tmp rfl) (OpF.tmp rfl)) (congrArg (f .f64) hx2))<|ya rfl (f64 x1)<|zN ?_
  refine RunC.ret ?_
  have hq := oI h
  subst q0
  exact bodyQ.pure (.inr rfl) rfl (Res.one rfl (RV.tmp rfl))
 ·refine yW<|ym rfl (f64 a0)<|ym rfl (f64 a1)<|yl rfl (b false) (LOp.eqb (LOp.flt rfl (OpF.tmp rfl) (OpF.tmp rfl)) hc1)<|zN ?_
  refine yF<|RunC.skip<|yS ?_
  obtain ⟨x2, hx3, h⟩ := oL h
  refine yW<|ym rfl (f64 a0)<|ym rfl (f64 a1)<|yd rfl (f64 x2) (TOp.eqr (TOp.fop (.inr (.inl rfl)) rfl (OpF.tmp rfl) (OpF.tmp rfl)) (congrArg (f .f64) hx3))<|ya rfl (f64 x2)<|zN ?_
  refine RunC.ret ?_
  have hq := oI h
  subst q0
  exact bodyQ.pure (.inr rfl) rfl (Res.one rfl (RV.tmp rfl))
def w_b10Far_b1 (a0 : List F) (a1 : List F) (a2 : F) (v1 : Int) : Option (LR (Int) (Unit) (Bool)) :=
 bsel (decide (v1 < (a0.length : Int))) (
  obind (at? a0 v1) fun (e2 : F) =>
  olet (fwiden e2) fun (x3 : F) =>
  obind (at? a1 v1) fun (e4 : F) =>
  olet (fwiden e4) fun (x5 : F) =>
  obind (w_b10Gap x3 x5) fun (r6 : F) =>
  bsel (fle .f64 r6 a2) (
   olet (IntKind.i64.wrap (v1 + 1)) fun (x7 : Int) =>
   some (LR.next x7)) (
   some (LR.ret true))) (
  some (LR.out ()))
def w_b10Far_s1 (a0 : List F) (a1 : List F) (a2 : F) : (Int) → Option (LR (Int) (Unit) (Bool)) := fun s => w_b10Far_b1 a0 a1 a2 s
def w_b10Far_k1  : Option (Bool) :=
 some false
def w_b10Far (a0 : List F) (a1 : List F) (a2 : F) : Option (Bool) :=
 bsel (!decide ((a0.length : Int) = (a1.length : Int))) (
  some true) (
  obind (loopM (w_b10Far_s1 a0 a1 a2) 0) fun z => osum z (fun _ => w_b10Far_k1) (fun r => some r))
theorem w_b10Far_ok (a0 : List F) (a1 : List F) (a2 : F) (q0 : Bool) (h : w_b10Far a0 a1 a2 = some q0) : Ev Tryz.prog 25 [(sFc a0), (sFc a1), f64 a2] [] (b q0) [] := by
 refine yE Tryz.func25 0 67 0 [(0, (sFc a0)), (1, (sFc a1)), (2, f64 a2)] [] rfl ?_
 unfold w_b10Far at h
 refine zQ<|ya rfl (b false)<|zN ?_
 refine yS<|yS ?_
 rcases oB h with ⟨hc1, h⟩ | ⟨hc1, h⟩
 ·refine yW<|ym rfl (sFc a0)<|yl rfl (i64 (a0.length : Int)) (LOp.len_sl und25 rfl rfl)<|ym rfl (sFc a1)<|yl rfl (i64 (a1.length : Int)) (LOp.len_sl und25 rfl rfl)<|yl rfl (b true) (LOp.eqb (LOp.neq rfl rfl rfl) hc1)<|zN ?_
  refine yT<|zQ<|ya rfl (b true)<|zN ?_
  refine RunC.ret ?_
  have hq := oI h
  subst q0
  exact bodyQ.pure (.inr rfl) rfl (Res.one rfl (RV.tmp rfl))
 ·refine yW<|ym rfl (sFc a0)<|yl rfl (i64 (a0.length : Int)) (LOp.len_sl und25 rfl rfl)<|ym rfl (sFc a1)<|yl rfl (i64 (a1.length : Int)) (LOp.len_sl und25 rfl rfl)<|yl rfl (b false) (LOp.eqb (LOp.neq rfl rfl rfl) hc1)<|zN ?_
  refine yF<|RunC.skip<|yS<|zQ<|ym rfl (sFc a0)<|yl rfl (i64 (a0.length : Int)) (LOp.len_sl und25 rfl rfl)<|ym rfl (i64 0)<|zN ?_
  obtain ⟨z2, hz_2, h⟩ := oS h
  refine RunC.cutN (fun τ Γ => WeakLe τ [] ∧ DeadLe Γ [] ∧ z2 = .inl ()) ?_ ?_
  ·refine RunC.block (RunC.loop (RunL.loopM (x := z2) (w_b10Far_s1 a0 a1 a2) (fun (s : Int) τ Γ => WeakLe τ [(0, (sFc a0)), (1, (sFc a1)), (2, f64 a2), (14, i64 (a0.length : Int)), (15, i64 s)] ∧ DeadLe Γ []) ?_ _ _ _ hz_2 ⟨⟨aR, aR, aR, aR, aR, trivial⟩, trivial⟩))
   rintro v1 τ2 Γ2 y2_ ⟨hw2, hd2⟩ h2_ ho2 hr2
   refine RunC.wl (τ' := [(0, (sFc a0)), (1, (sFc a1)), (2, f64 a2), (14, i64 (a0.length : Int)), (15, i64 v1)]) (Γ' := []) hw2 hd2 ?_
   replace h2_ : w_b10Far_b1 a0 a1 a2 v1 = some y2_ := h2_
   unfold w_b10Far_b1 at h2_
   refine yS ?_
   rcases oB h2_ with ⟨hc2, h2_⟩ | ⟨hc2, h2_⟩
   ·refine yW<|yl rfl (b true) (LOp.eqb (LOp.lss rfl rfl rfl) hc2)<|zN ?_
    refine yS<|yT<|RunC.skip<|yS<|RunC.block<|zQ<|ym rfl (i64 v1)<|ya rfl (i64 v1)<|zN ?_
    refine yS ?_
    obtain ⟨e2, he3, h2_⟩ := oS h2_
    obtain ⟨x3, hx4, h2_⟩ := oL h2_
    obtain ⟨e4, he5, h2_⟩ := oS h2_
    obtain ⟨x5, hx6, h2_⟩ := oL h2_
    obtain ⟨r6, hf7, h2_⟩ := oS h2_
    rcases oB h2_ with ⟨hc8, h2_⟩ | ⟨hc8, h2_⟩
    ·refine RunC.region_draw (Γ' := []) 14 mixed 
      (tm rfl (sFc a0) <|
      (tm rfl (i64 v1) <|
      (tl rfl (ptr [f32 e2]) (LOp.le (LOp.ix (f := f32) und25 siz41 rfl rfl rfl rfl he3) ALe.ptr) <|
      (tl rfl (f32 e2) (y2 agg41) <|
      (TR.d (r := f64 x3) (fs := []) rfl rfl (TOp.eqr (TOp.widen (src := 41) (dst := 48) ⟨_, pun41⟩ pun48 rfl (OpF.tmp rfl)) (congrArg (f .f64) hx4)) <|
      (tm rfl (sFc a1) <|
      (tm rfl (i64 v1) <|
      (tl rfl (ptr [f32 e4]) (LOp.le (LOp.ix (f := f32) und25 siz41 rfl rfl rfl rfl he5) ALe.ptr) <|
      (tl rfl (f32 e4) (y2 agg41) <|
      (TR.d (r := f64 x5) (fs := []) rfl rfl (TOp.eqr (TOp.widen (src := 41) (dst := 48) ⟨_, pun41⟩ pun48 rfl (OpF.tmp rfl)) (congrArg (f .f64) hx6)) <|
      (TR.d (r := f64 r6) (fs := []) rfl rfl (yc ent28 rfl rfl (bP bN0) (w_b10Gap_ok x3 x5 r6 hf7)) <|
      (tm rfl (f64 a2) <|
      (tl rfl (b true) (LOp.eqb (LOp.fle rfl (OpF.tmp rfl) (OpF.tmp rfl)) hc8) <|
      (tl rfl (b false) (LOp.eqb (LOp.not rfl rfl) rfl) <|
      TR.nil)))))))))))))) rfl (by kernel_rfl) rfl fills_nil rfl ?_
     iterate 14 refine ROps.dropS ?_
     refine ROps.drop0<|zN ?_
     refine RunC.wl (τ' := [(0, (sFc a0)), (1, (sFc a1)), (2, f64 a2), (14, i64 (a0.length : Int)), (15, i64 v1), (31, b false)]) (Γ' := []) ⟨aR, aR, aR, aR, aR, aR, trivial⟩ trivial<|yF<|RunC.skip ?_
     obtain ⟨x7, hx9, h2_⟩ := oL h2_
     refine yW<|yl rfl (i64 x7) (LOp.eqr (LOp.add rfl rfl rfl) (congrArg (ik .i64) hx9))<|ym rfl (i64 x7)<|zN ?_
     cases oI h2_
     exact ⟨_, rfl, ⟨aR, aR, aR, aR, aR, trivial⟩, trivial⟩
    ·refine RunC.region_draw (Γ' := []) 14 mixed 
      (tm rfl (sFc a0) <|
      (tm rfl (i64 v1) <|
      (tl rfl (ptr [f32 e2]) (LOp.le (LOp.ix (f := f32) und25 siz41 rfl rfl rfl rfl he3) ALe.ptr) <|
      (tl rfl (f32 e2) (y2 agg41) <|
      (TR.d (r := f64 x3) (fs := []) rfl rfl (TOp.eqr (TOp.widen (src := 41) (dst := 48) ⟨_, pun41⟩ pun48 rfl (OpF.tmp rfl)) (congrArg (f .f64) hx4)) <|
      (tm rfl (sFc a1) <|
      (tm rfl (i64 v1) <|
      (tl rfl (ptr [f32 e4]) (LOp.le (LOp.ix (f := f32) und25 siz41 rfl rfl rfl rfl he5) ALe.ptr) <|
      (tl rfl (f32 e4) (y2 agg41) <|
      (TR.d (r := f64 x5) (fs := []) rfl rfl (TOp.eqr (TOp.widen (src := 41) (dst := 48) ⟨_, pun41⟩ pun48 rfl (OpF.tmp rfl)) (congrArg (f .f64) hx6)) <|
      (TR.d (r := f64 r6) (fs := []) rfl rfl (yc ent28 rfl rfl (bP bN0) (w_b10Gap_ok x3 x5 r6 hf7)) <|
      (tm rfl (f64 a2) <|
      (tl rfl (b false) (LOp.eqb (LOp.fle rfl (OpF.tmp rfl) (OpF.tmp rfl)) hc8) <|
      (tl rfl (b true) (LOp.eqb (LOp.not rfl rfl) rfl) <|
      TR.nil)))))))))))))) rfl (by kernel_rfl) rfl fills_nil rfl ?_
     iterate 14 refine ROps.dropS ?_
     refine ROps.drop0<|zN ?_
     refine RunC.wl (τ' := [(0, (sFc a0)), (1, (sFc a1)), (2, f64 a2), (14, i64 (a0.length : Int)), (15, i64 v1), (31, b true)]) (Γ' := []) ⟨aR, aR, aR, aR, aR, aR, trivial⟩ trivial<|yT<|zQ<|ya rfl (b true)<|zN ?_
     refine RunC.ret ?_
     cases oI h2_
     have hx3_ := hr2 _ rfl
     subst hx3_
     have hq := oI h
     subst q0
     exact bodyQ.pure (.inr rfl) rfl (Res.one rfl (RV.tmp rfl))
   ·refine yW<|yl rfl (b false) (LOp.eqb (LOp.lss rfl rfl rfl) hc2)<|zN ?_
    refine yS<|yF<|RunC.exit ?_
    cases oI h2_
    have hx := ho2 _ rfl
    exact ⟨trivial, trivial, hx⟩
  ·rintro τ4 Γ4 ⟨hw4, hd4, rfl⟩
   refine RunC.wl hw4 hd4 ?_
   replace h : w_b10Far_k1 = some q0 := h
   unfold w_b10Far_k1 at h
   refine zQ<|ya rfl (b false)<|zN ?_
   refine RunC.ret ?_
   have hq := oI h
   subst q0
   exact bodyQ.pure (.inr rfl) rfl (Res.one rfl (RV.tmp rfl))
def w_b10FarMatrix (a0 : Int) (a1 : Int) (a2 : List F) (a3 : Int) (a4 : Int) (a5 : List F) (a6 : F) : Option (Bool) :=
 bsel (!decide (a0 = a3)) (
  some true) (
  bsel (!decide (a1 = a4)) (
   some true) (
   obind (w_b10Far a2 a5 a6) fun (r1 : Bool) =>
   some r1))
theorem w_b10FarMatrix_ok (a0 : Int) (a1 : Int) (a2 : List F) (a3 : Int) (a4 : Int) (a5 : List F) (a6 : F) (q0 : Bool) (h : w_b10FarMatrix a0 a1 a2 a3 a4 a5 a6 = some q0) : Ev Tryz.prog 22 [agg (mXc a0 a1 a2), agg (mXc a3 a4 a5), f64 a6] [] (b q0) [] := by
 refine yE Tryz.func22 0 55 0 [(0, agg (mXc a0 a1 a2)), (1, agg (mXc a3 a4 a5)), (2, f64 a6)] [] rfl ?_
 unfold w_b10FarMatrix at h
 refine zQ<|yd rfl (ptr (mXc a0 a1 a2)) (TOp.box_s rfl rfl rfl)<|yd rfl (ptr (mXc a3 a4 a5)) (TOp.box_s rfl rfl rfl)<|ya rfl (b false)<|zN ?_
 refine yS ?_
 rcases oB h with ⟨hc1, h⟩ | ⟨hc1, h⟩
 ·refine yW<|yl rfl (ptr (mXc a0 a1 a2)) (LOp.fap und27 rfl siz2 rfl rfl rfl)<|yl rfl (i64 a0) (y2 agg2)<|yl rfl (ptr (mXc a3 a4 a5)) (LOp.fap und27 rfl siz2 rfl rfl rfl)<|yl rfl (i64 a3) (y2 agg2)<|yl rfl (b true) (LOp.eqb (LOp.neq rfl rfl rfl) hc1)<|ym rfl (b true)<|ROps.s rfl rfl rfl<|ROps.s rfl rfl rfl<|ROps.s rfl rfl rfl<|ROps.s rfl rfl rfl<|ROps.s rfl rfl rfl<|yl rfl (b true) yq<|ym rfl (b true)<|ROps.s rfl rfl rfl<|ROps.s rfl rfl rfl<|ROps.s rfl rfl rfl<|ROps.s rfl rfl rfl<|ROps.s rfl rfl rfl<|ROps.s rfl rfl rfl<|yl rfl (b true) yq<|ya rfl (b true)<|zN ?_
  refine RunC.ret ?_
  have hq := oI h
  subst q0
  exact bodyQ.pure (.inr rfl) rfl (Res.one rfl (RV.tmp rfl))
 ·rcases oB h with ⟨hc2, h⟩ | ⟨hc2, h⟩
  ·refine yW<|yl rfl (ptr (mXc a0 a1 a2)) (LOp.fap und27 rfl siz2 rfl rfl rfl)<|yl rfl (i64 a0) (y2 agg2)<|yl rfl (ptr (mXc a3 a4 a5)) (LOp.fap und27 rfl siz2 rfl rfl rfl)<|yl rfl (i64 a3) (y2 agg2)<|yl rfl (b false) (LOp.eqb (LOp.neq rfl rfl rfl) hc1)<|ym rfl (b false)<|yl rfl (ptr [i64 a1, (sFc a2)]) (LOp.fap und27 rfl siz2 rfl rfl rfl)<|yl rfl (i64 a1) (y2 agg2)<|yl rfl (ptr [i64 a4, (sFc a5)]) (LOp.fap und27 rfl siz2 rfl rfl rfl)<|yl rfl (i64 a4) (y2 agg2)<|yl rfl (b true) (LOp.eqb (LOp.neq rfl rfl rfl) hc2)<|yl rfl (b true) yp<|ym rfl (b true)<|ROps.s rfl rfl rfl<|ROps.s rfl rfl rfl<|ROps.s rfl rfl rfl<|ROps.s rfl rfl rfl<|ROps.s rfl rfl rfl<|ROps.s rfl rfl rfl<|yl rfl (b true) yq<|ya rfl (b true)<|zN ?_
   refine RunC.ret ?_
   have hq := oI h
   subst q0
   exact bodyQ.pure (.inr rfl) rfl (Res.one rfl (RV.tmp rfl))
  ·obtain ⟨r1, hf3, h⟩ := oS h
   refine yW<|yl rfl (ptr (mXc a0 a1 a2)) (LOp.fap und27 rfl siz2 rfl rfl rfl)<|yl rfl (i64 a0) (y2 agg2)<|yl rfl (ptr (mXc a3 a4 a5)) (LOp.fap und27 rfl siz2 rfl rfl rfl)<|yl rfl (i64 a3) (y2 agg2)<|yl rfl (b false) (LOp.eqb (LOp.neq rfl rfl rfl) hc1)<|ym rfl (b false)<|yl rfl (ptr [i64 a1, (sFc a2)]) (LOp.fap und27 rfl siz2 rfl rfl rfl)<|yl rfl (i64 a1) (y2 agg2)<|yl rfl (ptr [i64 a4, (sFc a5)]) (LOp.fap und27 rfl siz2 rfl rfl rfl)<|yl rfl (i64 a4) (y2 agg2)<|yl rfl (b false) (LOp.eqb (LOp.neq rfl rfl rfl) hc2)<|yl rfl (b false) yp<|ym rfl (b false)<|yl rfl (ptr [(sFc a2)]) (LOp.fap und27 rfl siz25 rfl rfl rfl)<|yl rfl (sFc a2) (y2 agg25)<|yl rfl (ptr [(sFc a5)]) (LOp.fap und27 rfl siz25 rfl rfl rfl)<|yl rfl (sFc a5) (y2 agg25)<|ym rfl (f64 a6)<|yd rfl (b r1) (yc ent25 rfl rfl (bS (bS bN0)) (w_b10Far_ok a2 a5 a6 r1 hf3))<|yl rfl (b r1) yp<|ya rfl (b r1)<|zN ?_
   refine RunC.ret ?_
   have hq := oI h
   subst q0
   exact bodyQ.pure (.inr rfl) rfl (Res.one rfl (RV.tmp rfl))
end
end Go.Proofs.YtkdociaoknmgbaaGreat
