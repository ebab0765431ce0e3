/- Generated. -/
import Derived.Test.YtfhbfpdeafpelaaG1
namespace Go.Proofs.Ytfhbfpdeafpelaa
open Go Go.AM Go.AM.AV
set_option maxRecDepth 20000
set_option maxHeartbeats 4000000
set_option linter.unusedVariables false
set_option linter.unusedSimpArgs false
noncomputable section

def K1m_b5 (a0 : Int) (a3 : List F) (a5 : List Int) (a6 : List Int) (a7 : List F) (v10 : Int) (v16 : Int) (e19 : Int) (L21 : List Bool) (L23 : List F) (v25 : Int) : Option (LR ((List Bool) × (List F) × Int) ((List Bool) × (List F)) (Int × Bool × (List Int) × (List Int) × (List F))) :=
 olet (IntKind.i64.wrap (e19 + 1)) fun (x26 : Int) =>
 obind (at? a5 x26) fun (e27 : Int) =>
 bsel (decide (v25 < e27)) (
  olet (IntKind.i64.wrap (v10 * a0)) fun (x28 : Int) =>
  obind (at? a6 v25) fun (e29 : Int) =>
  olet (IntKind.i64.wrap (x28 + e29)) fun (x30 : Int) =>
  obind (setAt? L21 x30 true) fun (L31 : List Bool) =>
  obind (at? L23 x30) fun (e32 : F) =>
  obind (at? a3 v16) fun (e33 : F) =>
  obind (at? a7 v25) fun (e34 : F) =>
  olet (fop .mul .f32 e33 e34) fun (x35 : F) =>
  olet (fop .add .f32 e32 x35) fun (x36 : F) =>
  obind (setAt? L23 x30 x36) fun (L37 : List F) =>
  olet (IntKind.i64.wrap (v25 + 1)) fun (x38 : Int) =>
  some (LR.next (L31, L37, x38))) (
  some (LR.out (L21, L23)))
def K1m_s5 (a0 : Int) (a3 : List F) (a5 : List Int) (a6 : List Int) (a7 : List F) (v10 : Int) (v16 : Int) (e19 : Int) : ((List Bool) × (List F) × Int) → Option (LR ((List Bool) × (List F) × Int) ((List Bool) × (List F)) (Int × Bool × (List Int) × (List Int) × (List F))) := fun s => K1m_b5 a0 a3 a5 a6 a7 v10 v16 e19 s.1 s.2.1 s.2.2
def K1m_k5 (v16 : Int) (L39 : List Bool) (L41 : List F) : Option (LR ((List Bool) × (List F) × Int) ((List Bool) × (List F)) (Int × Bool × (List Int) × (List Int) × (List F))) :=
 olet (IntKind.i64.wrap (v16 + 1)) fun (x43 : Int) =>
 some (LR.next (L39, L41, x43))
def K1m_b6 (a0 : Int) (a1 : List Int) (a2 : List Int) (a3 : List F) (a5 : List Int) (a6 : List Int) (a7 : List F) (v10 : Int) (L12 : List Bool) (L14 : List F) (v16 : Int) : Option (LR ((List Bool) × (List F) × Int) ((List Bool) × (List F)) (Int × Bool × (List Int) × (List Int) × (List F))) :=
 olet (IntKind.i64.wrap (v10 + 1)) fun (x17 : Int) =>
 obind (at? a1 x17) fun (e18 : Int) =>
 bsel (decide (v16 < e18)) (
  obind (at? a2 v16) fun (e19 : Int) =>
  obind (at? a5 e19) fun (e20 : Int) =>
  obind (loopM (K1m_s5 a0 a3 a5 a6 a7 v10 v16 e19) (L12, L14, e20)) fun z => osum z (fun e => K1m_k5 v16 e.1 e.2) (fun r => some (LR.ret r))) (
  some (LR.out (L12, L14)))
def K1m_s6 (a0 : Int) (a1 : List Int) (a2 : List Int) (a3 : List F) (a5 : List Int) (a6 : List Int) (a7 : List F) (v10 : Int) : ((List Bool) × (List F) × Int) → Option (LR ((List Bool) × (List F) × Int) ((List Bool) × (List F)) (Int × Bool × (List Int) × (List Int) × (List F))) := fun s => K1m_b6 a0 a1 a2 a3 a5 a6 a7 v10 s.1 s.2.1 s.2.2
def K1m_k6 (v10 : Int) (L44 : List Bool) (L46 : List F) : Option (LR ((List Bool) × (List F) × Int) ((List Bool) × (List F)) (Int × Bool × (List Int) × (List Int) × (List F))) :=
 olet (IntKind.i64.wrap (v10 + 1)) fun (x48 : Int) =>
 some (LR.next (L44, L46, x48))
def K1m_b7 (a0 : Int) (a1 : List Int) (a2 : List Int) (a3 : List F) (a5 : List Int) (a6 : List Int) (a7 : List F) (L6 : List Bool) (L8 : List F) (v10 : Int) : Option (LR ((List Bool) × (List F) × Int) ((List Bool) × (List F)) (Int × Bool × (List Int) × (List Int) × (List F))) :=
 bsel (decide (v10 < a0)) (
  obind (at? a1 v10) fun (e11 : Int) =>
  obind (loopM (K1m_s6 a0 a1 a2 a3 a5 a6 a7 v10) (L6, L8, e11)) fun z => osum z (fun e => K1m_k6 v10 e.1 e.2) (fun r => some (LR.ret r))) (
  some (LR.out (L6, L8)))
def K1m_s7 (a0 : Int) (a1 : List Int) (a2 : List Int) (a3 : List F) (a5 : List Int) (a6 : List Int) (a7 : List F) : ((List Bool) × (List F) × Int) → Option (LR ((List Bool) × (List F) × Int) ((List Bool) × (List F)) (Int × Bool × (List Int) × (List Int) × (List F))) := fun s => K1m_b7 a0 a1 a2 a3 a5 a6 a7 s.1 s.2.1 s.2.2
def K1m_k7 (r3 : Int) (L49 : List Bool) (L51 : List F) : Option (Int × Bool × (List Int) × (List Int) × (List F)) :=
 obind5 (K0a r3 L49 L51) fun (r53 : Int) (r54 : Bool) (r55 : List Int) (r56 : List Int) (r57 : List F) =>
 some (r53, r54, r55, r56, r57)
def K1m (a0 : Int) (a1 : List Int) (a2 : List Int) (a3 : List F) (a4 : Int) (a5 : List Int) (a6 : List Int) (a7 : List F) : Option (Int × Bool × (List Int) × (List Int) × (List F)) :=
 obind (K09 a0 a1 a2 a3) fun (r1 : Bool) =>
 bsel r1 (
  obind (K09 a4 a5 a6 a7) fun (r2 : Bool) =>
  bsel r2 (
   bsel (!decide (a0 = a4)) (
    some (0, false, ([] : List Int), ([] : List Int), ([] : List F))) (
    obind3 (K06 a0) fun (r3 : Int) (r4 : List Bool) (r5 : List F) =>
    obind (loopM (K1m_s7 a0 a1 a2 a3 a5 a6 a7) (r4, r5, 0)) fun z => osum z (fun e => K1m_k7 r3 e.1 e.2) (fun r => some r))) (
   some (0, false, ([] : List Int), ([] : List Int), ([] : List F)))) (
  some (0, false, ([] : List Int), ([] : List Int), ([] : List F)))
abbrev z02n (a0 : Int) (a1 : List Int) (a2 : List Int) (a3 : List F) : List AV := [i64 a0, sl a1.length (a1.map i64), sl a2.length (a2.map i64), (sFc a3)]
abbrev z02o : Ob := ⟨1, some [i64 0, nilsl, nilsl, nilsl]⟩
abbrev z02p (a4 : Int) (a5 : List Int) (a6 : List Int) (a7 : List F) : List AV := [i64 a4, sl a5.length (a5.map i64), sl a6.length (a6.map i64), (sFc a7)]
abbrev z02q (r3 : Int) (r4 : List Bool) (r5 : List F) : Ob := ⟨1, some [i64 r3, oref 1 1 0 r4.length, oref 2 1 0 r5.length]⟩
abbrev z02r : AV := tup [agg [i64 0, oref 1 1 0 (([] : List Int).length), oref 2 1 0 (([] : List Int).length), oref 3 1 0 (([] : List F).length)], b false]
abbrev z02s : List AV := [i64 0, oref 1 1 0 0, oref 2 1 0 0, oref 3 1 0 0]
abbrev z02t (r53 : Int) (r55 : List Int) (r56 : List Int) (r57 : List F) : List AV := [i64 r53, oref 4 1 0 r55.length, oref 5 1 0 r56.length, oref 6 1 0 r57.length]
abbrev z02u : List AV := [i64 0, nilsl, nilsl, nilsl]
abbrev z02v : List AV := [i64 0, oref 1 1 0 0, oref 2 1 0 0, nilsl]
abbrev z02w : List Ob := [z02o, o0, o0, o0, o0, o0, o0]
abbrev z02x : List AV := [i64 0, oref 1 1 0 0, nilsl, nilsl]
abbrev z02y : List Ob := [⟨1, some z02s⟩, oJ 1 [], oJ 1 [], oF 1 [], o0, o0, o0]
abbrev z02z : List Ob := [⟨1, some z02v⟩, oJ 1 [], oJ 1 [], o0, o0, o0, o0]
theorem K1m_ok (a0 : Int) (a1 : List Int) (a2 : List Int) (a3 : List F) (a4 : Int) (a5 : List Int) (a6 : List Int) (a7 : List F) (q0 : Int) (q1 : Bool) (q2 : List Int) (q3 : List Int) (q4 : List F) (h : K1m a0 a1 a2 a3 a4 a5 a6 a7 = some (q0, q1, q2, q3, q4)) : Ev Try.prog 46 [agg [i64 a0, sl a1.length (a1.map i64), sl a2.length (a2.map i64), (sFc a3)], agg [i64 a4, sl a5.length (a5.map i64), sl a6.length (a6.map i64), (sFc a7)]] [] (tup [agg [i64 q0, oref 0 0 0 q2.length, oref 1 0 0 q3.length, oref 2 0 0 q4.length], b q1]) [oJ 0 q2, oJ 0 q3, oF 0 q4] := by
 refine yE Try.func46 7 217 0 ([(0, agg (z02n a0 a1 a2 a3)), (1, agg (z02p a4 a5 a6 a7))]) [o0, o0, o0, o0, o0, o0, o0] rfl ?_
 unfold K1m at h
 refine zQ<|yd rfl (ptr (z02n a0 a1 a2 a3)) (TOp.box_s rfl rfl rfl)<|yd rfl (ptr (z02p a4 a5 a6 a7)) (TOp.box_s rfl rfl rfl)<|ye rfl (optr 0 1 0) (z02w) (TOp.alloc_o (g := o0) 0 rfl zer30 zok30 rfl)<|ya rfl (b false)<|zN ?_
 refine yS<|yS ?_
 obtain ⟨r1, hf1, h⟩ := oS h
 rcases oB h with ⟨hc2, h⟩ | ⟨hc2, h⟩
 ·obtain ⟨r2, hf3, h⟩ := oS h
  rcases oB h with ⟨hc4, h⟩ | ⟨hc4, h⟩
  ·rcases oB h with ⟨hc5, h⟩ | ⟨hc5, h⟩
   ·refine yW<|yd rfl (b true) (TOp.eqb (TOp.callB (CallAs.func ent111 rfl rfl) (Bors.cons (Bor.ptr (bP (bS (bS (bS bN))))) bN) rfl rfl (K09_ok a0 a1 a2 a3 r1 hf1)) hc2)<|yl rfl (b false) n1<|ym rfl (b false)<|yd rfl (b true) (TOp.eqb (TOp.callB (CallAs.func ent111 rfl rfl) (Bors.cons (Bor.ptr (bP (bS (bS (bS bN))))) bN) rfl rfl (K09_ok a4 a5 a6 a7 r2 hf3)) hc4)<|yl rfl (b false) n1<|yl rfl (b false) yp<|ym rfl (b false)<|yl rfl (ptr (z02n a0 a1 a2 a3)) (LOp.fap und30 rfl siz2 rfl rfl rfl)<|yl rfl (i64 a0) (n2 agg2)<|yl rfl (ptr (z02p a4 a5 a6 a7)) (LOp.fap und30 rfl siz2 rfl rfl rfl)<|yl rfl (i64 a4) (n2 agg2)<|yl rfl (b true) (LOp.eqb (LOp.neq rfl rfl rfl) hc5)<|yl rfl (b true) yp<|zN ?_
    refine RunC.wl (τ' := [(2, ptr (z02n a0 a1 a2 a3)), (3, ptr (z02p a4 a5 a6 a7)), (4, optr 0 1 0), (24, b true)]) (Γ' := z02w) ⟨aR, aR, aR, aR, trivial⟩ ⟨dR, dR, dR, dR, dR, dR, dR, trivial⟩<|yT<|zQ<|yl rfl (agg z02u) (LOp.build (qs := []) zer30 zok30 und30 plc30 rfl trivial rfl)<|ys (agg z02u) z02u (z02w) siz30<|ya rfl (b false)<|zN ?_
    refine RunC.nil_cell (l' := z02x) (Γ' := [⟨1, some z02x⟩, oJ 1 [], o0, o0, o0, o0, o0]) 0 1 1 rfl rfl rfl rfl rfl<|RunC.nil_cell (l' := z02v) (Γ' := z02z) 0 2 2 rfl rfl rfl rfl rfl<|RunC.nil_cell (l' := z02s) (Γ' := z02y) 0 3 3 rfl rfl rfl rfl rfl<|RunC.ret ?_
    have hq := oI h
    obtain ⟨hq0, hq⟩ := Prod.mk.inj hq
    obtain ⟨hq1, hq⟩ := Prod.mk.inj hq
    obtain ⟨hq2, hq⟩ := Prod.mk.inj hq
    obtain ⟨hq3, hq⟩ := Prod.mk.inj hq
    subst q0
    subst q1
    subst q2
    subst q3
    subst q4
    exact yB z02r [(1, 1), (2, 1), (3, 1)] (Res.eq (Res.two rfl (RV.cell agg30 siz30 rfl rfl rfl rfl) (RV.tmp rfl)) (by first | rfl | (rw [(show ([] : List Int).length = 0 from rfl), (show ([] : List F).length = 0 from rfl)] <;> rfl))) (SelL.arr0 (f := i64) (fun _ => rfl) rfl (SelL.arr0 (f := i64) (fun _ => rfl) rfl (sA rfl trivial)))
   ·refine yW<|yd rfl (b true) (TOp.eqb (TOp.callB (CallAs.func ent111 rfl rfl) (Bors.cons (Bor.ptr (bP (bS (bS (bS bN))))) bN) rfl rfl (K09_ok a0 a1 a2 a3 r1 hf1)) hc2)<|yl rfl (b false) n1<|ym rfl (b false)<|yd rfl (b true) (TOp.eqb (TOp.callB (CallAs.func ent111 rfl rfl) (Bors.cons (Bor.ptr (bP (bS (bS (bS bN))))) bN) rfl rfl (K09_ok a4 a5 a6 a7 r2 hf3)) hc4)<|yl rfl (b false) n1<|yl rfl (b false) yp<|ym rfl (b false)<|yl rfl (ptr (z02n a0 a1 a2 a3)) (LOp.fap und30 rfl siz2 rfl rfl rfl)<|yl rfl (i64 a0) (n2 agg2)<|yl rfl (ptr (z02p a4 a5 a6 a7)) (LOp.fap und30 rfl siz2 rfl rfl rfl)<|yl rfl (i64 a4) (n2 agg2)<|yl rfl (b false) (LOp.eqb (LOp.neq rfl rfl rfl) hc5)<|yl rfl (b false) yp<|zN ?_
    refine RunC.wl (τ' := [(2, ptr (z02n a0 a1 a2 a3)), (3, ptr (z02p a4 a5 a6 a7)), (4, optr 0 1 0), (24, b false)]) (Γ' := z02w) ⟨aR, aR, aR, aR, trivial⟩ ⟨dR, dR, dR, dR, dR, dR, dR, trivial⟩<|yF<|RunC.skip<|yS ?_
    obtain ⟨r3, r4, r5, hf6, h⟩ := obind3_some h
    refine yW<|yl rfl (ptr (z02n a0 a1 a2 a3)) (LOp.fap und30 rfl siz2 rfl rfl rfl)<|yl rfl (i64 a0) (n2 agg2)<|ye rfl (agg [i64 r3, oref 1 1 0 r4.length, oref 2 1 0 r5.length]) ([z02o, ⟨1, some (r4.map b)⟩, oF 1 r5, o0, o0, o0, o0]) (TOp.callBN (ls := [(r4.map b), (r5.map f32)]) [1, 2] (CallAs.func ent97 rfl rfl) bN0 rfl (K06_ok a0 r3 r4 r5 hf6) (and_all (lts0_map (f := b) (fun _ => rfl) _) (and_all (lts0_map (f := f32) (fun _ => rfl) _) rfl)) (and_all (noss_map (f := b) (fun _ => rfl) _) (and_all (noss_map (f := f32) (fun _ => rfl) _) rfl)) rfl (by decide) (ns_of ⟨⟨_, rfl⟩, ⟨_, rfl⟩, trivial⟩))<|ye rfl (optr 3 1 0) ([z02o, ⟨1, some (r4.map b)⟩, oF 1 r5, ⟨1, some [i64 0, nilsl, nilsl]⟩, o0, o0, o0]) (TOp.alloc_o (g := o0) 3 rfl zer91 zok91 rfl)<|ys (agg [i64 r3, oref 1 1 0 r4.length, oref 2 1 0 r5.length]) [i64 r3, oref 1 1 0 r4.length, oref 2 1 0 r5.length] ([z02o, ⟨1, some (r4.map b)⟩, oF 1 r5, (z02q r3 r4 r5), o0, o0, o0]) siz91<|zN ?_
    refine yS<|zQ<|ya rfl (i64 0)<|zN ?_
    obtain ⟨z8, hz_8, h⟩ := oS h
    refine RunC.cutN (fun τ Γ => ∃ (L49 : List Bool) (L51 : List F), L49.length = r4.length ∧ L51.length = r5.length ∧ WeakLe τ [(4, optr 0 1 0), (6, optr 3 1 0)] ∧ DeadLe Γ [z02o, ⟨1, some (L49.map b)⟩, oF 1 L51, (z02q r3 r4 r5), o0, o0, o0] ∧ z8 = .inl (L49, L51)) ?_ ?_
    ·refine RunC.block (RunC.loop (RunL.loopM (x := z8) (K1m_s7 a0 a1 a2 a3 a5 a6 a7) (fun (s : (List Bool) × (List F) × Int) τ Γ => s.1.length = r4.length ∧ s.2.1.length = r5.length ∧ WeakLe τ [(2, ptr (z02n a0 a1 a2 a3)), (3, ptr (z02p a4 a5 a6 a7)), (4, optr 0 1 0), (6, optr 3 1 0), (7, i64 s.2.2)] ∧ DeadLe Γ [z02o, ⟨1, some (s.1.map b)⟩, ⟨1, some (s.2.1.map f32)⟩, (z02q r3 r4 r5), o0, o0, o0]) ?_ _ _ _ hz_8 ⟨rfl, rfl, ⟨aR, aR, aR, aR, aR, trivial⟩, ⟨dR, dR, dR, dR, dR, dR, dR, trivial⟩⟩))
     rintro ⟨L6, L8, v10⟩ τ8 Γ8 y8_ ⟨hl7, hl9, hw8, hd8⟩ h8_ ho8 hr8
     refine RunC.wl (τ' := [(2, ptr (z02n a0 a1 a2 a3)), (3, ptr (z02p a4 a5 a6 a7)), (4, optr 0 1 0), (6, optr 3 1 0), (7, i64 v10)]) (Γ' := [z02o, ⟨1, some (L6.map b)⟩, oF 1 L8, (z02q r3 r4 r5), o0, o0, o0]) hw8 hd8 ?_
     replace hl7 : L6.length = r4.length := hl7
     replace hl9 : L8.length = r5.length := hl9
     replace h8_ : K1m_b7 a0 a1 a2 a3 a5 a6 a7 L6 L8 v10 = some y8_ := h8_
     unfold K1m_b7 at h8_
     refine yS<|yS ?_
     rcases oB h8_ with ⟨hc7, h8_⟩ | ⟨hc7, h8_⟩
     ·refine yW<|ym rfl (i64 v10)<|yl rfl (ptr (z02n a0 a1 a2 a3)) (LOp.fap und30 rfl siz2 rfl rfl rfl)<|yl rfl (i64 a0) (n2 agg2)<|yl rfl (b true) (LOp.eqb (LOp.lss rfl rfl rfl) hc7)<|zN ?_
      refine yT<|RunC.skip<|yS<|RunC.block<|yS ?_
      obtain ⟨e11, he8, h8_⟩ := oS h8_
      refine yW<|yl rfl (ptr [sl a1.length (a1.map i64), sl a2.length (a2.map i64), (sFc a3)]) (LOp.fap und30 rfl siz22 rfl rfl rfl)<|yl rfl (sl a1.length (a1.map i64)) (n2 agg22)<|ym rfl (i64 v10)<|yl rfl (ptr [i64 e11]) (LOp.le (LOp.ix (f := i64) und22 siz2 rfl rfl rfl rfl he8) ALe.ptr)<|yl rfl (i64 e11) (n2 agg2)<|ya rfl (i64 e11)<|zN ?_
      obtain ⟨z9, hz_9, h8_⟩ := oS h8_
      refine RunC.cutN (fun τ Γ => ∃ (L44 : List Bool) (L46 : List F), L44.length = r4.length ∧ L46.length = r5.length ∧ WeakLe τ [(2, ptr (z02n a0 a1 a2 a3)), (3, ptr (z02p a4 a5 a6 a7)), (4, optr 0 1 0), (6, optr 3 1 0), (7, i64 v10)] ∧ DeadLe Γ [z02o, ⟨1, some (L44.map b)⟩, oF 1 L46, (z02q r3 r4 r5), o0, o0, o0] ∧ z9 = .inl (L44, L46)) ?_ ?_
      ·refine RunC.block (RunC.loop (RunL.loopM (x := z9) (K1m_s6 a0 a1 a2 a3 a5 a6 a7 v10) (fun (s : (List Bool) × (List F) × Int) τ Γ => s.1.length = r4.length ∧ s.2.1.length = r5.length ∧ WeakLe τ [(2, ptr (z02n a0 a1 a2 a3)), (3, ptr (z02p a4 a5 a6 a7)), (4, optr 0 1 0), (6, optr 3 1 0), (7, i64 v10), (8, i64 s.2.2)] ∧ DeadLe Γ [z02o, ⟨1, some (s.1.map b)⟩, ⟨1, some (s.2.1.map f32)⟩, (z02q r3 r4 r5), o0, o0, o0]) ?_ _ _ _ hz_9 ⟨hl7, hl9, ⟨aR, aR, aR, aR, aR, aR, trivial⟩, ⟨dR, dR, dR, dR, dR, dR, dR, trivial⟩⟩))
       rintro ⟨L12, L14, v16⟩ τ9 Γ9 y9_ ⟨hl13, hl15, hw9, hd9⟩ h9_ ho9 hr9
       refine RunC.wl (τ' := [(2, ptr (z02n a0 a1 a2 a3)), (3, ptr (z02p a4 a5 a6 a7)), (4, optr 0 1 0), (6, optr 3 1 0), (7, i64 v10), (8, i64 v16)]) (Γ' := [z02o, ⟨1, some (L12.map b)⟩, oF 1 L14, (z02q r3 r4 r5), o0, o0, o0]) hw9 hd9 ?_
       replace hl13 : L12.length = r4.length := hl13
       replace hl15 : L14.length = r5.length := hl15
       replace h9_ : K1m_b6 a0 a1 a2 a3 a5 a6 a7 v10 L12 L14 v16 = some y9_ := h9_
       unfold K1m_b6 at h9_
       refine yS<|yS ?_
       obtain ⟨x17, hx9, h9_⟩ := oL h9_
       obtain ⟨e18, he10, h9_⟩ := oS h9_
       rcases oB h9_ with ⟨hc11, h9_⟩ | ⟨hc11, h9_⟩
       ·refine yW<|ym rfl (i64 v16)<|yl rfl (ptr [sl a1.length (a1.map i64), sl a2.length (a2.map i64), (sFc a3)]) (LOp.fap und30 rfl siz22 rfl rfl rfl)<|yl rfl (sl a1.length (a1.map i64)) (n2 agg22)<|ym rfl (i64 v10)<|yl rfl (i64 x17) (LOp.eqr (LOp.add rfl rfl rfl) (congrArg (ik .i64) hx9))<|yl rfl (ptr [i64 e18]) (LOp.le (LOp.ix (f := i64) und22 siz2 rfl rfl rfl rfl he10) ALe.ptr)<|yl rfl (i64 e18) (n2 agg2)<|yl rfl (b true) (LOp.eqb (LOp.lss rfl rfl rfl) hc11)<|zN ?_
        refine yT<|RunC.skip<|yS<|RunC.block<|yS ?_
        obtain ⟨e19, he12, h9_⟩ := oS h9_
        refine yW<|yl rfl (ptr [sl a2.length (a2.map i64), (sFc a3)]) (LOp.fap und30 rfl siz22 rfl rfl rfl)<|yl rfl (sl a2.length (a2.map i64)) (n2 agg22)<|ym rfl (i64 v16)<|yl rfl (ptr [i64 e19]) (LOp.le (LOp.ix (f := i64) und22 siz2 rfl rfl rfl rfl he12) ALe.ptr)<|yl rfl (i64 e19) (n2 agg2)<|ya rfl (i64 e19)<|zN ?_
        refine RunC.wl (τ' := [(2, ptr (z02n a0 a1 a2 a3)), (3, ptr (z02p a4 a5 a6 a7)), (4, optr 0 1 0), (6, optr 3 1 0), (7, i64 v10), (8, i64 v16), (9, i64 e19)]) (Γ' := [z02o, ⟨1, some (L12.map b)⟩, oF 1 L14, (z02q r3 r4 r5), o0, o0, o0]) ⟨aR, aR, aR, aR, aR, aR, aR, trivial⟩ ⟨dR, dR, dR, dR, dR, dR, dR, trivial⟩<|yS ?_
        obtain ⟨e20, he13, h9_⟩ := oS h9_
        refine yW<|yl rfl (ptr [sl a5.length (a5.map i64), sl a6.length (a6.map i64), (sFc a7)]) (LOp.fap und30 rfl siz22 rfl rfl rfl)<|yl rfl (sl a5.length (a5.map i64)) (n2 agg22)<|ym rfl (i64 e19)<|yl rfl (ptr [i64 e20]) (LOp.le (LOp.ix (f := i64) und22 siz2 rfl rfl rfl rfl he13) ALe.ptr)<|yl rfl (i64 e20) (n2 agg2)<|ya rfl (i64 e20)<|zN ?_
        obtain ⟨z10, hz_10, h9_⟩ := oS h9_
        refine RunC.cutN (fun τ Γ => ∃ (L39 : List Bool) (L41 : List F), L39.length = r4.length ∧ L41.length = r5.length ∧ WeakLe τ [(2, ptr (z02n a0 a1 a2 a3)), (3, ptr (z02p a4 a5 a6 a7)), (4, optr 0 1 0), (6, optr 3 1 0), (7, i64 v10), (8, i64 v16)] ∧ DeadLe Γ [z02o, ⟨1, some (L39.map b)⟩, oF 1 L41, (z02q r3 r4 r5), o0, o0, o0] ∧ z10 = .inl (L39, L41)) ?_ ?_
        ·refine RunC.block (RunC.loop (RunL.loopM (x := z10) (K1m_s5 a0 a3 a5 a6 a7 v10 v16 e19) (fun (s : (List Bool) × (List F) × Int) τ Γ => s.1.length = r4.length ∧ s.2.1.length = r5.length ∧ WeakLe τ [(2, ptr (z02n a0 a1 a2 a3)), (3, ptr (z02p a4 a5 a6 a7)), (4, optr 0 1 0), (6, optr 3 1 0), (7, i64 v10), (8, i64 v16), (9, i64 e19), (10, i64 s.2.2)] ∧ DeadLe Γ [z02o, ⟨1, some (s.1.map b)⟩, ⟨1, some (s.2.1.map f32)⟩, (z02q r3 r4 r5), o0, o0, o0]) ?_ _ _ _ hz_10 ⟨hl13, hl15, ⟨aR, aR, aR, aR, aR, aR, aR, aR, trivial⟩, ⟨dR, dR, dR, dR, dR, dR, dR, trivial⟩⟩))
         rintro ⟨L21, L23, v25⟩ τ10 Γ10 y10_ ⟨hl22, hl24, hw10, hd10⟩ h10_ ho10 hr10
         refine RunC.wl (τ' := [(2, ptr (z02n a0 a1 a2 a3)), (3, ptr (z02p a4 a5 a6 a7)), (4, optr 0 1 0), (6, optr 3 1 0), (7, i64 v10), (8, i64 v16), (9, i64 e19), (10, i64 v25)]) (Γ' := [z02o, ⟨1, some (L21.map b)⟩, oF 1 L23, (z02q r3 r4 r5), o0, o0, o0]) hw10 hd10 ?_
         replace hl22 : L21.length = r4.length := hl22
         replace hl24 : L23.length = r5.length := hl24
         replace h10_ : K1m_b5 a0 a3 a5 a6 a7 v10 v16 e19 L21 L23 v25 = some y10_ := h10_
         unfold K1m_b5 at h10_
         refine yS<|yS ?_
         obtain ⟨x26, hx14, h10_⟩ := oL h10_
         obtain ⟨e27, he15, h10_⟩ := oS h10_
         rcases oB h10_ with ⟨hc16, h10_⟩ | ⟨hc16, h10_⟩
         ·refine yW<|ym rfl (i64 v25)<|yl rfl (ptr [sl a5.length (a5.map i64), sl a6.length (a6.map i64), (sFc a7)]) (LOp.fap und30 rfl siz22 rfl rfl rfl)<|yl rfl (sl a5.length (a5.map i64)) (n2 agg22)<|ym rfl (i64 e19)<|yl rfl (i64 x26) (LOp.eqr (LOp.add rfl rfl rfl) (congrArg (ik .i64) hx14))<|yl rfl (ptr [i64 e27]) (LOp.le (LOp.ix (f := i64) und22 siz2 rfl rfl rfl rfl he15) ALe.ptr)<|yl rfl (i64 e27) (n2 agg2)<|yl rfl (b true) (LOp.eqb (LOp.lss rfl rfl rfl) hc16)<|zN ?_
          refine yT<|RunC.skip<|yS<|RunC.block<|yS ?_
          obtain ⟨x28, hx17, h10_⟩ := oL h10_
          obtain ⟨e29, he18, h10_⟩ := oS h10_
          obtain ⟨x30, hx19, h10_⟩ := oL h10_
          refine RunC.region_draw (Γ' := [z02o, ⟨1, some (L21.map b)⟩, oF 1 L23, (z02q r3 r4 r5), o0, o0, o0]) 11 mixed 
           (tm rfl (i64 v10) <|
           (tl rfl (ptr (z02n a0 a1 a2 a3)) (LOp.fap und30 rfl siz2 rfl rfl rfl) <|
           (tl rfl (i64 a0) (n2 agg2) <|
           (tl rfl (i64 x28) (LOp.eqr (LOp.mul rfl rfl rfl) (congrArg (ik .i64) hx17)) <|
           (tl rfl (ptr [sl a6.length (a6.map i64), (sFc a7)]) (LOp.fap und30 rfl siz22 rfl rfl rfl) <|
           (tl rfl (sl a6.length (a6.map i64)) (n2 agg22) <|
           (tm rfl (i64 v25) <|
           (tl rfl (ptr [i64 e29]) (LOp.le (LOp.ix (f := i64) und22 siz2 rfl rfl rfl rfl he18) ALe.ptr) <|
           (tl rfl (i64 e29) (n2 agg2) <|
           (tl rfl (i64 x30) (LOp.eqr (LOp.add rfl rfl rfl) (congrArg (ik .i64) hx19)) <|
           (tl rfl (i64 x30) (LOp.assign rfl rfl) <|
           TR.nil))))))))))) rfl (by kernel_rfl) rfl fills_nil rfl ?_
          iterate 11 refine ROps.dropS ?_
          refine ROps.drop0<|zN ?_
          refine RunC.wl (τ' := [(2, ptr (z02n a0 a1 a2 a3)), (3, ptr (z02p a4 a5 a6 a7)), (4, optr 0 1 0), (6, optr 3 1 0), (7, i64 v10), (8, i64 v16), (9, i64 e19), (10, i64 v25), (11, i64 x30)]) (Γ' := [z02o, ⟨1, some (L21.map b)⟩, oF 1 L23, (z02q r3 r4 r5), o0, o0, o0]) ⟨aR, aR, aR, aR, aR, aR, aR, aR, aR, trivial⟩ ⟨dR, dR, dR, dR, dR, dR, dR, trivial⟩<|yS ?_
          obtain ⟨L31, he20, h10_⟩ := oS h10_
          refine yW<|yl rfl (optr 3 1 1) (LOp.fao und91 rfl siz89 rfl rfl rfl)<|yd rfl (oref 1 1 0 r4.length) (TOp.load1_o rfl rfl agg89 rfl rfl)<|ym rfl (i64 x30)<|yd rfl (optr 1 1 x30.toNat) (TOp.ixo und89 siz4 rfl rfl rfl (set_in he20 hl22) rfl)<|ROps.st (f := b) (i := x30) (Γ' := [z02o, ⟨1, some (L31.map b)⟩, oF 1 L23, (z02q r3 r4 r5), o0, o0, o0]) rfl siz4 rfl rfl rfl aR rfl rfl rfl he20 rfl<|zN ?_
          obtain ⟨e32, he21, h10_⟩ := oS h10_
          obtain ⟨e33, he22, h10_⟩ := oS h10_
          obtain ⟨e34, he23, h10_⟩ := oS h10_
          obtain ⟨x35, hx24, h10_⟩ := oL h10_
          obtain ⟨x36, hx25, h10_⟩ := oL h10_
          obtain ⟨L37, he26, h10_⟩ := oS h10_
          refine RunC.region_draw (Γ' := [z02o, ⟨1, some (L31.map b)⟩, oF 1 L23, (z02q r3 r4 r5), o0, o0, o0]) 21 mixed 
           (tl rfl (optr 3 1 2) (LOp.fao und91 rfl siz23 rfl rfl rfl) <|
           (TR.d (r := oref 2 1 0 r5.length) (fs := []) rfl rfl (TOp.load1_o rfl rfl agg23 rfl rfl) <|
           (tm rfl (i64 x30) <|
           (tl rfl (optr 3 1 2) (LOp.fao und91 rfl siz23 rfl rfl rfl) <|
           (TR.d (r := oref 2 1 0 r5.length) (fs := []) rfl rfl (TOp.load1_o rfl rfl agg23 rfl rfl) <|
           (tm rfl (i64 x30) <|
           (TR.d (r := optr 2 1 x30.toNat) (fs := []) rfl rfl (TOp.ixo und23 siz26 rfl rfl rfl (at_in he21 hl24) rfl) <|
           (TR.d (r := f32 e32) (fs := []) rfl rfl (TOp.load1_o rfl (at_cell he21) agg26 rfl rfl) <|
           (tl rfl (ptr [(sFc a3)]) (LOp.fap und30 rfl siz23 rfl rfl rfl) <|
           (tl rfl (sFc a3) (n2 agg23) <|
           (tm rfl (i64 v16) <|
           (tl rfl (ptr [f32 e33]) (LOp.le (LOp.ix (f := f32) und23 siz26 rfl rfl rfl rfl he22) ALe.ptr) <|
           (tl rfl (f32 e33) (n2 agg26) <|
           (tl rfl (ptr [(sFc a7)]) (LOp.fap und30 rfl siz23 rfl rfl rfl) <|
           (tl rfl (sFc a7) (n2 agg23) <|
           (tm rfl (i64 v25) <|
           (tl rfl (ptr [f32 e34]) (LOp.le (LOp.ix (f := f32) und23 siz26 rfl rfl rfl rfl he23) ALe.ptr) <|
           (tl rfl (f32 e34) (n2 agg26) <|
           (TR.d (r := f32 x35) (fs := []) rfl rfl (TOp.eqr (TOp.fop (.inr (.inr (.inl rfl))) rfl (OpF.tmp rfl) (OpF.tmp rfl)) (congrArg (f .f32) hx24)) <|
           (TR.d (r := f32 x36) (fs := []) rfl rfl (TOp.eqr (TOp.fop (.inl rfl) rfl (OpF.tmp rfl) (OpF.tmp rfl)) (congrArg (f .f32) hx25)) <|
           (TR.d (r := optr 2 1 x30.toNat) (fs := []) rfl rfl (TOp.ixo und23 siz26 rfl rfl rfl (set_in he26 hl24) rfl) <|
           TR.nil))))))))))))))))))))) rfl (by kernel_rfl) rfl fills_nil rfl ?_
          iterate 21 refine ROps.dropS ?_
          refine ROps.drop0<|ROps.st (f := f32) (i := x30) (Γ' := [z02o, ⟨1, some (L31.map b)⟩, oF 1 L37, (z02q r3 r4 r5), o0, o0, o0]) rfl siz26 rfl rfl rfl aR rfl rfl rfl he26 rfl<|zN ?_
          refine RunC.wl (τ' := [(2, ptr (z02n a0 a1 a2 a3)), (3, ptr (z02p a4 a5 a6 a7)), (4, optr 0 1 0), (6, optr 3 1 0), (7, i64 v10), (8, i64 v16), (9, i64 e19), (10, i64 v25)]) (Γ' := [z02o, ⟨1, some (L31.map b)⟩, oF 1 L37, (z02q r3 r4 r5), o0, o0, o0]) ⟨aR, aR, aR, aR, aR, aR, aR, aR, trivial⟩ ⟨dR, dR, dR, dR, dR, dR, dR, trivial⟩ ?_
          obtain ⟨x38, hx27, h10_⟩ := oL h10_
          refine yW<|ym rfl (i64 v25)<|yl rfl (i64 x38) (LOp.eqr (LOp.add rfl rfl rfl) (congrArg (ik .i64) hx27))<|ya rfl (i64 x38)<|zN ?_
          cases oI h10_
          exact ⟨_, rfl, ((setAt?_len he20).trans hl22), ((setAt?_len he26).trans hl24), ⟨aR, aR, aR, aR, aR, aR, aR, aR, trivial⟩, ⟨dR, dR, dR, dR, dR, dR, dR, trivial⟩⟩
         ·refine yW<|ym rfl (i64 v25)<|yl rfl (ptr [sl a5.length (a5.map i64), sl a6.length (a6.map i64), (sFc a7)]) (LOp.fap und30 rfl siz22 rfl rfl rfl)<|yl rfl (sl a5.length (a5.map i64)) (n2 agg22)<|ym rfl (i64 e19)<|yl rfl (i64 x26) (LOp.eqr (LOp.add rfl rfl rfl) (congrArg (ik .i64) hx14))<|yl rfl (ptr [i64 e27]) (LOp.le (LOp.ix (f := i64) und22 siz2 rfl rfl rfl rfl he15) ALe.ptr)<|yl rfl (i64 e27) (n2 agg2)<|yl rfl (b false) (LOp.eqb (LOp.lss rfl rfl rfl) hc16)<|zN ?_
          refine yF<|RunC.exit ?_
          cases oI h10_
          have hx := ho10 _ rfl
          exact ⟨L21, L23, hl22, hl24, ⟨aR, aR, aR, aR, aR, aR, trivial⟩, ⟨dR, dR, dR, dR, dR, dR, dR, trivial⟩, hx⟩
        ·rintro τ11 Γ11 ⟨L39, L41, hl40, hl42, hw11, hd11, rfl⟩
         refine RunC.wl hw11 hd11 ?_
         replace h9_ : K1m_k5 v16 L39 L41 = some y9_ := h9_
         unfold K1m_k5 at h9_
         obtain ⟨x43, hx28, h9_⟩ := oL h9_
         refine yW<|ym rfl (i64 v16)<|yl rfl (i64 x43) (LOp.eqr (LOp.add rfl rfl rfl) (congrArg (ik .i64) hx28))<|ya rfl (i64 x43)<|zN ?_
         cases oI h9_
         exact ⟨_, rfl, hl40, hl42, ⟨aR, aR, aR, aR, aR, aR, trivial⟩, ⟨dR, dR, dR, dR, dR, dR, dR, trivial⟩⟩
       ·refine yW<|ym rfl (i64 v16)<|yl rfl (ptr [sl a1.length (a1.map i64), sl a2.length (a2.map i64), (sFc a3)]) (LOp.fap und30 rfl siz22 rfl rfl rfl)<|yl rfl (sl a1.length (a1.map i64)) (n2 agg22)<|ym rfl (i64 v10)<|yl rfl (i64 x17) (LOp.eqr (LOp.add rfl rfl rfl) (congrArg (ik .i64) hx9))<|yl rfl (ptr [i64 e18]) (LOp.le (LOp.ix (f := i64) und22 siz2 rfl rfl rfl rfl he10) ALe.ptr)<|yl rfl (i64 e18) (n2 agg2)<|yl rfl (b false) (LOp.eqb (LOp.lss rfl rfl rfl) hc11)<|zN ?_
        refine yF<|RunC.exit ?_
        cases oI h9_
        have hx := ho9 _ rfl
        exact ⟨L12, L14, hl13, hl15, ⟨aR, aR, aR, aR, aR, trivial⟩, ⟨dR, dR, dR, dR, dR, dR, dR, trivial⟩, hx⟩
      ·rintro τ12 Γ12 ⟨L44, L46, hl45, hl47, hw12, hd12, rfl⟩
       refine RunC.wl hw12 hd12 ?_
       replace h8_ : K1m_k6 v10 L44 L46 = some y8_ := h8_
       unfold K1m_k6 at h8_
       obtain ⟨x48, hx29, h8_⟩ := oL h8_
       refine yW<|ym rfl (i64 v10)<|yl rfl (i64 x48) (LOp.eqr (LOp.add rfl rfl rfl) (congrArg (ik .i64) hx29))<|ya rfl (i64 x48)<|zN ?_
       cases oI h8_
       exact ⟨_, rfl, hl45, hl47, ⟨aR, aR, aR, aR, aR, trivial⟩, ⟨dR, dR, dR, dR, dR, dR, dR, trivial⟩⟩
     ·refine yW<|ym rfl (i64 v10)<|yl rfl (ptr (z02n a0 a1 a2 a3)) (LOp.fap und30 rfl siz2 rfl rfl rfl)<|yl rfl (i64 a0) (n2 agg2)<|yl rfl (b false) (LOp.eqb (LOp.lss rfl rfl rfl) hc7)<|zN ?_
      refine yF<|RunC.exit ?_
      cases oI h8_
      have hx := ho8 _ rfl
      exact ⟨L6, L8, hl7, hl9, ⟨aR, aR, trivial⟩, ⟨dR, dR, dR, dR, dR, dR, dR, trivial⟩, hx⟩
    ·rintro τ13 Γ13 ⟨L49, L51, hl50, hl52, hw13, hd13, rfl⟩
     refine RunC.wl hw13 hd13 ?_
     replace h : K1m_k7 r3 L49 L51 = some (q0, q1, q2, q3, q4) := h
     unfold K1m_k7 at h
     refine yS ?_
     obtain ⟨r53, r54, r55, r56, r57, hf30, h⟩ := obind5_some h
     refine yW<|ye rfl (tup [agg (z02t r53 r55 r56 r57), b r54]) ([z02o, ⟨1, some (L49.map b)⟩, oF 1 L51, (z02q r3 r4 r5), oJ 1 r55, oJ 1 r56, oF 1 r57]) (TOp.callBN (ls := [(r55.map i64), (r56.map i64), (r57.map f32)]) [4, 5, 6] (CallAs.func ent98 rfl rfl) (Bors.cons (Bor.optr rfl (Bors.p (bP (Bors.cons (Bor.own (f := b) (fun _ => rfl) rfl hl50) (Bors.cons (Bor.own (f := f32) (fun _ => rfl) rfl hl52) bN)))) rfl) bN) rfl (K0a_ok r3 L49 L51 r53 r54 r55 r56 r57 hf30) (and_all (lts0_map (f := i64) (fun _ => rfl) _) (and_all (lts0_map (f := i64) (fun _ => rfl) _) (and_all (lts0_map (f := f32) (fun _ => rfl) _) rfl))) (and_all (noss_map (f := i64) (fun _ => rfl) _) (and_all (noss_map (f := i64) (fun _ => rfl) _) (and_all (noss_map (f := f32) (fun _ => rfl) _) rfl))) rfl (by decide) (ns_of ⟨⟨_, rfl⟩, ⟨_, rfl⟩, ⟨_, rfl⟩, trivial⟩))<|yl rfl (agg (z02t r53 r55 r56 r57)) n3<|yl rfl (b r54) n3<|ys (agg (z02t r53 r55 r56 r57)) (z02t r53 r55 r56 r57) ([⟨1, some (z02t r53 r55 r56 r57)⟩, ⟨1, some (L49.map b)⟩, oF 1 L51, (z02q r3 r4 r5), oJ 1 r55, oJ 1 r56, oF 1 r57]) siz30<|ya rfl (b r54)<|zN ?_
     refine RunC.ret ?_
     have hq := oI h
     obtain ⟨hq0, hq⟩ := Prod.mk.inj hq
     obtain ⟨hq1, hq⟩ := Prod.mk.inj hq
     obtain ⟨hq2, hq⟩ := Prod.mk.inj hq
     obtain ⟨hq3, hq⟩ := Prod.mk.inj hq
     subst q0
     subst q1
     subst q2
     subst q3
     subst q4
     exact yB (tup [agg (z02t r53 r55 r56 r57), b r54]) [(4, 1), (5, 1), (6, 1)] (Res.two rfl (RV.cell agg30 siz30 rfl rfl rfl rfl) (RV.tmp rfl)) (SelL.arr0 (f := i64) (fun _ => rfl) rfl (SelL.arr0 (f := i64) (fun _ => rfl) rfl (sA rfl trivial)))
  ·refine yW<|yd rfl (b true) (TOp.eqb (TOp.callB (CallAs.func ent111 rfl rfl) (Bors.cons (Bor.ptr (bP (bS (bS (bS bN))))) bN) rfl rfl (K09_ok a0 a1 a2 a3 r1 hf1)) hc2)<|yl rfl (b false) n1<|ym rfl (b false)<|yd rfl (b false) (TOp.eqb (TOp.callB (CallAs.func ent111 rfl rfl) (Bors.cons (Bor.ptr (bP (bS (bS (bS bN))))) bN) rfl rfl (K09_ok a4 a5 a6 a7 r2 hf3)) hc4)<|yl rfl (b true) n0<|yl rfl (b true) yp<|ym rfl (b true)<|yR rfl<|yR rfl<|yR rfl<|yR rfl<|yR rfl<|yl rfl (b true) yq<|zN ?_
   refine RunC.wl (τ' := [(2, ptr (z02n a0 a1 a2 a3)), (3, ptr (z02p a4 a5 a6 a7)), (4, optr 0 1 0), (24, b true)]) (Γ' := z02w) ⟨aR, aR, aR, aR, trivial⟩ ⟨dR, dR, dR, dR, dR, dR, dR, trivial⟩<|yT<|zQ<|yl rfl (agg z02u) (LOp.build (qs := []) zer30 zok30 und30 plc30 rfl trivial rfl)<|ys (agg z02u) z02u (z02w) siz30<|ya rfl (b false)<|zN ?_
   refine RunC.nil_cell (l' := z02x) (Γ' := [⟨1, some z02x⟩, oJ 1 [], o0, o0, o0, o0, o0]) 0 1 1 rfl rfl rfl rfl rfl<|RunC.nil_cell (l' := z02v) (Γ' := z02z) 0 2 2 rfl rfl rfl rfl rfl<|RunC.nil_cell (l' := z02s) (Γ' := z02y) 0 3 3 rfl rfl rfl rfl rfl<|RunC.ret ?_
   have hq := oI h
   obtain ⟨hq0, hq⟩ := Prod.mk.inj hq
   obtain ⟨hq1, hq⟩ := Prod.mk.inj hq
   obtain ⟨hq2, hq⟩ := Prod.mk.inj hq
   obtain ⟨hq3, hq⟩ := Prod.mk.inj hq
   subst q0
   subst q1
   subst q2
   subst q3
   subst q4
   exact yB z02r [(1, 1), (2, 1), (3, 1)] (Res.eq (Res.two rfl (RV.cell agg30 siz30 rfl rfl rfl rfl) (RV.tmp rfl)) (by first | rfl | (rw [(show ([] : List Int).length = 0 from rfl), (show ([] : List F).length = 0 from rfl)] <;> rfl))) (SelL.arr0 (f := i64) (fun _ => rfl) rfl (SelL.arr0 (f := i64) (fun _ => rfl) rfl (sA rfl trivial)))
 ·refine yW<|yd rfl (b false) (TOp.eqb (TOp.callB (CallAs.func ent111 rfl rfl) (Bors.cons (Bor.ptr (bP (bS (bS (bS bN))))) bN) rfl rfl (K09_ok a0 a1 a2 a3 r1 hf1)) hc2)<|yl rfl (b true) n0<|ym rfl (b true)<|yR rfl<|yR rfl<|yl rfl (b true) yq<|ym rfl (b true)<|yR rfl<|yR rfl<|yR rfl<|yR rfl<|yR rfl<|yl rfl (b true) yq<|zN ?_
  refine RunC.wl (τ' := [(2, ptr (z02n a0 a1 a2 a3)), (3, ptr (z02p a4 a5 a6 a7)), (4, optr 0 1 0), (24, b true)]) (Γ' := z02w) ⟨aR, aR, aR, aR, trivial⟩ ⟨dR, dR, dR, dR, dR, dR, dR, trivial⟩<|yT<|zQ<|yl rfl (agg z02u) (LOp.build (qs := []) zer30 zok30 und30 plc30 rfl trivial rfl)<|ys (agg z02u) z02u (z02w) siz30<|ya rfl (b false)<|zN ?_
  refine RunC.nil_cell (l' := z02x) (Γ' := [⟨1, some z02x⟩, oJ 1 [], o0, o0, o0, o0, o0]) 0 1 1 rfl rfl rfl rfl rfl<|RunC.nil_cell (l' := z02v) (Γ' := z02z) 0 2 2 rfl rfl rfl rfl rfl<|RunC.nil_cell (l' := z02s) (Γ' := z02y) 0 3 3 rfl rfl rfl rfl rfl<|RunC.ret ?_
  have hq := oI h
  obtain ⟨hq0, hq⟩ := Prod.mk.inj hq
  obtain ⟨hq1, hq⟩ := Prod.mk.inj hq
  obtain ⟨hq2, hq⟩ := Prod.mk.inj hq
  obtain ⟨hq3, hq⟩ := Prod.mk.inj hq
  subst q0
  subst q1
  subst q2
  subst q3
  subst q4
  exact yB z02r [(1, 1), (2, 1), (3, 1)] (Res.eq (Res.two rfl (RV.cell agg30 siz30 rfl rfl rfl rfl) (RV.tmp rfl)) (by first | rfl | (rw [(show ([] : List Int).length = 0 from rfl), (show ([] : List F).length = 0 from rfl)] <;> rfl))) (SelL.arr0 (f := i64) (fun _ => rfl) rfl (SelL.arr0 (f := i64) (fun _ => rfl) rfl (sA rfl trivial)))

def K1n_b1 (a0 : Int) (a1 : List Int) (a2 : List Int) (a3 : List F) (v2 : Int) : Option (LR (Int) (Unit) (Bool)) :=
 bsel (decide (v2 < a0)) (
  olet (IntKind.i64.wrap (v2 + 1)) fun (x3 : Int) =>
  obind (at? a1 x3) fun (e4 : Int) =>
  olet (IntKind.i64.wrap (e4 - 1)) fun (x5 : Int) =>
  obind (at? a1 v2) fun (e6 : Int) =>
  bsel (decide (x5 < e6)) (
   some (LR.ret false)) (
   obind (at? a2 x5) fun (e7 : Int) =>
   bsel (!decide (e7 = v2)) (
    some (LR.ret false)) (
    obind (at? a3 x5) fun (e8 : F) =>
    bsel (fle .f32 e8 (some 0)) (
     some (LR.ret false)) (
     olet (IntKind.i64.wrap (v2 + 1)) fun (x9 : Int) =>
     some (LR.next x9))))) (
  some (LR.out ()))
def K1n_s1 (a0 : Int) (a1 : List Int) (a2 : List Int) (a3 : List F) : (Int) → Option (LR (Int) (Unit) (Bool)) := fun s => K1n_b1 a0 a1 a2 a3 s
def K1n_k1  : Option (Bool) :=
 some true
def K1n (a0 : Int) (a1 : List Int) (a2 : List Int) (a3 : List F) : Option (Bool) :=
 obind (K0w a0 a1 a2 a3) fun (r1 : Bool) =>
 bsel r1 (
  obind (loopM (K1n_s1 a0 a1 a2 a3) 0) fun z => osum z (fun _ => K1n_k1) (fun r => some r)) (
  some false)
abbrev z030 (a0 : Int) (a1 : List Int) (a2 : List Int) (a3 : List F) : List AV := [i64 a0, sl a1.length (a1.map i64), sl a2.length (a2.map i64), (sFc a3)]
abbrev z031 (a1 : List Int) (a2 : List Int) (a3 : List F) : AV := ptr [sl a1.length (a1.map i64), sl a2.length (a2.map i64), (sFc a3)]
abbrev z032 (a2 : List Int) (a3 : List F) : List AV := [sl a2.length (a2.map i64), (sFc a3)]
theorem K1n_ok (a0 : Int) (a1 : List Int) (a2 : List Int) (a3 : List F) (q0 : Bool) (h : K1n a0 a1 a2 a3 = some q0) : Ev Try.prog 121 [agg [i64 a0, sl a1.length (a1.map i64), sl a2.length (a2.map i64), (sFc a3)]] [] (b q0) [] := by
 refine yE Try.func121 0 91 0 ([(0, agg (z030 a0 a1 a2 a3))]) [] rfl ?_
 unfold K1n at h
 refine zQ<|yd rfl (ptr (z030 a0 a1 a2 a3)) (TOp.box_s rfl rfl rfl)<|ya rfl (b false)<|zN ?_
 refine yS<|yS ?_
 obtain ⟨r1, hf1, h⟩ := oS h
 rcases oB h with ⟨hc2, h⟩ | ⟨hc2, h⟩
 ·refine yW<|yl rfl (agg (z030 a0 a1 a2 a3)) (yL agg30 siz30)<|yd rfl (b true) (TOp.eqb (TOp.callB (CallAs.func ent30 rfl rfl) (Bors.cons (Bor.agg (bP (bS (bS (bS bN))))) bN) rfl rfl (K0w_ok a0 a1 a2 a3 r1 hf1)) hc2)<|yl rfl (b false) n1<|zN ?_
  refine yF<|RunC.skip<|yS<|zQ<|yl rfl (ptr (z030 a0 a1 a2 a3)) (LOp.fap und30 rfl siz2 rfl rfl rfl)<|yl rfl (i64 a0) (n2 agg2)<|ym rfl (i64 0)<|zN ?_
  obtain ⟨z2, hz_2, h⟩ := oS h
  refine RunC.cutN (fun τ Γ => WeakLe τ [] ∧ DeadLe Γ [] ∧ z2 = .inl ()) ?_ ?_
  ·refine RunC.block (RunC.loop (RunL.loopM (x := z2) (K1n_s1 a0 a1 a2 a3) (fun (s : Int) τ Γ => WeakLe τ [(1, ptr (z030 a0 a1 a2 a3)), (9, i64 a0), (10, i64 s)] ∧ DeadLe Γ []) ?_ _ _ _ hz_2 ⟨⟨aR, aR, aR, trivial⟩, trivial⟩))
   rintro v2 τ2 Γ2 y2_ ⟨hw2, hd2⟩ h2_ ho2 hr2
   refine RunC.wl (τ' := [(1, ptr (z030 a0 a1 a2 a3)), (9, i64 a0), (10, i64 v2)]) (Γ' := []) hw2 hd2 ?_
   replace h2_ : K1n_b1 a0 a1 a2 a3 v2 = some y2_ := h2_
   unfold K1n_b1 at h2_
   refine yS ?_
   rcases oB h2_ with ⟨hc3, h2_⟩ | ⟨hc3, h2_⟩
   ·refine yW<|yl rfl (b true) (LOp.eqb (LOp.lss rfl rfl rfl) hc3)<|zN ?_
    refine yS<|yT<|RunC.skip<|yS<|RunC.block<|zQ<|ym rfl (i64 v2)<|ya rfl (i64 v2)<|zN ?_
    refine yS ?_
    obtain ⟨x3, hx4, h2_⟩ := oL h2_
    obtain ⟨e4, he5, h2_⟩ := oS h2_
    obtain ⟨x5, hx6, h2_⟩ := oL h2_
    refine yW<|yl rfl (z031 a1 a2 a3) (LOp.fap und30 rfl siz22 rfl rfl rfl)<|yl rfl (sl a1.length (a1.map i64)) (n2 agg22)<|ym rfl (i64 v2)<|yl rfl (i64 x3) (LOp.eqr (LOp.add rfl rfl rfl) (congrArg (ik .i64) hx4))<|yl rfl (ptr [i64 e4]) (LOp.le (LOp.ix (f := i64) und22 siz2 rfl rfl rfl rfl he5) ALe.ptr)<|yl rfl (i64 e4) (n2 agg2)<|yl rfl (i64 x5) (LOp.eqr (LOp.sub rfl rfl rfl) (congrArg (ik .i64) hx6))<|ya rfl (i64 x5)<|zN ?_
    refine yS ?_
    obtain ⟨e6, he7, h2_⟩ := oS h2_
    rcases oB h2_ with ⟨hc8, h2_⟩ | ⟨hc8, h2_⟩
    ·refine yW<|ym rfl (i64 x5)<|yl rfl (z031 a1 a2 a3) (LOp.fap und30 rfl siz22 rfl rfl rfl)<|yl rfl (sl a1.length (a1.map i64)) (n2 agg22)<|ym rfl (i64 v2)<|yl rfl (ptr [i64 e6]) (LOp.le (LOp.ix (f := i64) und22 siz2 rfl rfl rfl rfl he7) ALe.ptr)<|yl rfl (i64 e6) (n2 agg2)<|yl rfl (b true) (LOp.eqb (LOp.lss rfl rfl rfl) hc8)<|ym rfl (b true)<|yR rfl<|yR rfl<|yR rfl<|yR rfl<|yR rfl<|yR rfl<|yR rfl<|yl rfl (b true) yq<|ym rfl (b true)<|yR rfl<|yR rfl<|yR rfl<|yR rfl<|yR rfl<|yR rfl<|yl rfl (b true) yq<|zN ?_
     refine RunC.wl (τ' := [(1, ptr (z030 a0 a1 a2 a3)), (9, i64 a0), (10, i64 v2), (43, b true)]) (Γ' := []) ⟨aR, aR, aR, aR, trivial⟩ trivial<|yT<|zQ<|ya rfl (b false)<|zN ?_
     refine RunC.ret ?_
     cases oI h2_
     have hx3_ := hr2 _ rfl
     subst hx3_
     have hq := oI h
     subst q0
     exact bR rfl
    ·obtain ⟨e7, he9, h2_⟩ := oS h2_
     rcases oB h2_ with ⟨hc10, h2_⟩ | ⟨hc10, h2_⟩
     ·refine yW<|ym rfl (i64 x5)<|yl rfl (z031 a1 a2 a3) (LOp.fap und30 rfl siz22 rfl rfl rfl)<|yl rfl (sl a1.length (a1.map i64)) (n2 agg22)<|ym rfl (i64 v2)<|yl rfl (ptr [i64 e6]) (LOp.le (LOp.ix (f := i64) und22 siz2 rfl rfl rfl rfl he7) ALe.ptr)<|yl rfl (i64 e6) (n2 agg2)<|yl rfl (b false) (LOp.eqb (LOp.lss rfl rfl rfl) hc8)<|ym rfl (b false)<|yl rfl (ptr (z032 a2 a3)) (LOp.fap und30 rfl siz22 rfl rfl rfl)<|yl rfl (sl a2.length (a2.map i64)) (n2 agg22)<|ym rfl (i64 x5)<|yl rfl (ptr [i64 e7]) (LOp.le (LOp.ix (f := i64) und22 siz2 rfl rfl rfl rfl he9) ALe.ptr)<|yl rfl (i64 e7) (n2 agg2)<|ym rfl (i64 v2)<|yl rfl (b true) (LOp.eqb (LOp.neq rfl rfl rfl) hc10)<|yl rfl (b true) yp<|ym rfl (b true)<|yR rfl<|yR rfl<|yR rfl<|yR rfl<|yR rfl<|yR rfl<|yl rfl (b true) yq<|zN ?_
      refine RunC.wl (τ' := [(1, ptr (z030 a0 a1 a2 a3)), (9, i64 a0), (10, i64 v2), (28, ptr (z032 a2 a3)), (29, sl a2.length (a2.map i64)), (30, i64 x5), (31, ptr [i64 e7]), (32, i64 e7), (33, i64 v2), (34, b true), (43, b true)]) (Γ' := []) ⟨aR, aR, aR, aR, aR, aR, aR, aR, aR, aR, aR, trivial⟩ trivial<|yT<|zQ<|ya rfl (b false)<|zN ?_
      refine RunC.ret ?_
      cases oI h2_
      have hx4_ := hr2 _ rfl
      subst hx4_
      have hq := oI h
      subst q0
      exact bR rfl
     ·obtain ⟨e8, he11, h2_⟩ := oS h2_
      rcases oB h2_ with ⟨hc12, h2_⟩ | ⟨hc12, h2_⟩
      ·refine yW<|ym rfl (i64 x5)<|yl rfl (z031 a1 a2 a3) (LOp.fap und30 rfl siz22 rfl rfl rfl)<|yl rfl (sl a1.length (a1.map i64)) (n2 agg22)<|ym rfl (i64 v2)<|yl rfl (ptr [i64 e6]) (LOp.le (LOp.ix (f := i64) und22 siz2 rfl rfl rfl rfl he7) ALe.ptr)<|yl rfl (i64 e6) (n2 agg2)<|yl rfl (b false) (LOp.eqb (LOp.lss rfl rfl rfl) hc8)<|ym rfl (b false)<|yl rfl (ptr (z032 a2 a3)) (LOp.fap und30 rfl siz22 rfl rfl rfl)<|yl rfl (sl a2.length (a2.map i64)) (n2 agg22)<|ym rfl (i64 x5)<|yl rfl (ptr [i64 e7]) (LOp.le (LOp.ix (f := i64) und22 siz2 rfl rfl rfl rfl he9) ALe.ptr)<|yl rfl (i64 e7) (n2 agg2)<|ym rfl (i64 v2)<|yl rfl (b false) (LOp.eqb (LOp.neq rfl rfl rfl) hc10)<|yl rfl (b false) yp<|ym rfl (b false)<|yl rfl (ptr [(sFc a3)]) (LOp.fap und30 rfl siz23 rfl rfl rfl)<|yl rfl (sFc a3) (n2 agg23)<|ym rfl (i64 x5)<|yl rfl (ptr [f32 e8]) (LOp.le (LOp.ix (f := f32) und23 siz26 rfl rfl rfl rfl he11) ALe.ptr)<|yl rfl (f32 e8) (n2 agg26)<|yl rfl (b true) (LOp.eqb (LOp.fle rfl (OpF.tmp rfl) (OpF.const rfl (by kernel_rfl) (by kernel_rfl))) hc12)<|yl rfl (b true) yp<|zN ?_
       refine RunC.wl (τ' := [(1, ptr (z030 a0 a1 a2 a3)), (9, i64 a0), (10, i64 v2), (28, ptr (z032 a2 a3)), (29, sl a2.length (a2.map i64)), (30, i64 x5), (31, ptr [i64 e7]), (32, i64 e7), (33, i64 v2), (34, b false), (37, ptr [(sFc a3)]), (38, (sFc a3)), (39, i64 x5), (40, ptr [f32 e8]), (41, f32 e8), (42, b true), (43, b true)]) (Γ' := []) ⟨aR, aR, aR, aR, aR, aR, aR, aR, aR, aR, aR, aR, aR, aR, aR, aR, aR, trivial⟩ trivial<|yT<|zQ<|ya rfl (b false)<|zN ?_
       refine RunC.ret ?_
       cases oI h2_
       have hx5_ := hr2 _ rfl
       subst hx5_
       have hq := oI h
       subst q0
       exact bR rfl
      ·refine yW<|ym rfl (i64 x5)<|yl rfl (z031 a1 a2 a3) (LOp.fap und30 rfl siz22 rfl rfl rfl)<|yl rfl (sl a1.length (a1.map i64)) (n2 agg22)<|ym rfl (i64 v2)<|yl rfl (ptr [i64 e6]) (LOp.le (LOp.ix (f := i64) und22 siz2 rfl rfl rfl rfl he7) ALe.ptr)<|yl rfl (i64 e6) (n2 agg2)<|yl rfl (b false) (LOp.eqb (LOp.lss rfl rfl rfl) hc8)<|ym rfl (b false)<|yl rfl (ptr (z032 a2 a3)) (LOp.fap und30 rfl siz22 rfl rfl rfl)<|yl rfl (sl a2.length (a2.map i64)) (n2 agg22)<|ym rfl (i64 x5)<|yl rfl (ptr [i64 e7]) (LOp.le (LOp.ix (f := i64) und22 siz2 rfl rfl rfl rfl he9) ALe.ptr)<|yl rfl (i64 e7) (n2 agg2)<|ym rfl (i64 v2)<|yl rfl (b false) (LOp.eqb (LOp.neq rfl rfl rfl) hc10)<|yl rfl (b false) yp<|ym rfl (b false)<|yl rfl (ptr [(sFc a3)]) (LOp.fap und30 rfl siz23 rfl rfl rfl)<|yl rfl (sFc a3) (n2 agg23)<|ym rfl (i64 x5)<|yl rfl (ptr [f32 e8]) (LOp.le (LOp.ix (f := f32) und23 siz26 rfl rfl rfl rfl he11) ALe.ptr)<|yl rfl (f32 e8) (n2 agg26)<|yl rfl (b false) (LOp.eqb (LOp.fle rfl (OpF.tmp rfl) (OpF.const rfl (by kernel_rfl) (by kernel_rfl))) hc12)<|yl rfl (b false) yp<|zN ?_
       refine RunC.wl (τ' := [(1, ptr (z030 a0 a1 a2 a3)), (9, i64 a0), (10, i64 v2), (28, ptr (z032 a2 a3)), (29, sl a2.length (a2.map i64)), (30, i64 x5), (31, ptr [i64 e7]), (32, i64 e7), (33, i64 v2), (34, b false), (37, ptr [(sFc a3)]), (38, (sFc a3)), (39, i64 x5), (40, ptr [f32 e8]), (41, f32 e8), (42, b false), (43, b false)]) (Γ' := []) ⟨aR, aR, aR, aR, aR, aR, aR, aR, aR, aR, aR, aR, aR, aR, aR, aR, aR, trivial⟩ trivial<|yF<|RunC.skip ?_
       obtain ⟨x9, hx13, h2_⟩ := oL h2_
       refine yW<|yl rfl (i64 x9) (LOp.eqr (LOp.add rfl rfl rfl) (congrArg (ik .i64) hx13))<|ym rfl (i64 x9)<|zN ?_
       cases oI h2_
       exact ⟨_, rfl, ⟨aR, aR, aR, trivial⟩, trivial⟩
   ·refine yW<|yl rfl (b false) (LOp.eqb (LOp.lss rfl rfl rfl) hc3)<|zN ?_
    refine yS<|yF<|RunC.exit ?_
    cases oI h2_
    have hx := ho2 _ rfl
    exact ⟨trivial, trivial, hx⟩
  ·rintro τ6 Γ6 ⟨hw6, hd6, rfl⟩
   refine RunC.wl hw6 hd6 ?_
   replace h : K1n_k1 = some q0 := h
   unfold K1n_k1 at h
   refine zQ<|ya rfl (b true)<|zN ?_
   refine RunC.ret ?_
   have hq := oI h
   subst q0
   exact bR rfl
 ·refine yW<|yl rfl (agg (z030 a0 a1 a2 a3)) (yL agg30 siz30)<|yd rfl (b false) (TOp.eqb (TOp.callB (CallAs.func ent30 rfl rfl) (Bors.cons (Bor.agg (bP (bS (bS (bS bN))))) bN) rfl rfl (K0w_ok a0 a1 a2 a3 r1 hf1)) hc2)<|yl rfl (b true) n0<|zN ?_
  refine yT<|zQ<|ya rfl (b false)<|zN ?_
  refine RunC.ret ?_
  have hq := oI h
  subst q0
  exact bR rfl

def K1o (a0 : List F) : Option (Int) :=
 some (a0.length : Int)
theorem K1o_ok (a0 : List F) (q0 : Int) (h : K1o a0 = some q0) : Ev Try.prog 145 [(sFc a0)] [] (i64 q0) [] := by
 refine yE Try.func145 0 11 0 [(0, (sFc a0))] [] rfl ?_
 unfold K1o at h
 refine zQ<|ya rfl (i64 0)<|zN ?_
 refine zQ<|ym rfl (sFc a0)<|yl rfl (i64 (a0.length : Int)) (LOp.len_sl und23 rfl rfl)<|ya rfl (i64 (a0.length : Int))<|zN ?_
 refine RunC.ret ?_
 have hq := oI h
 subst q0
 exact bR rfl

def K1p (a0 : List F) : Option (Bool) :=
 obind (K1o a0) fun (r1 : Int) =>
 obind (K0f r1 1 256) fun (r2 : Bool) =>
 bsel r2 (
  obind (K0v a0) fun (r3 : Bool) =>
  some r3) (
  some false)
theorem K1p_ok (a0 : List F) (q0 : Bool) (h : K1p a0 = some q0) : Ev Try.prog 144 [(sFc a0)] [] (b q0) [] := by
 refine yE Try.func144 0 21 0 [(0, (sFc a0))] [] rfl ?_
 unfold K1p at h
 refine zQ<|ya rfl (b false)<|zN ?_
 refine yS ?_
 obtain ⟨r1, hf1, h⟩ := oS h
 obtain ⟨r2, hf2, h⟩ := oS h
 rcases oB h with ⟨hc3, h⟩ | ⟨hc3, h⟩
 ·obtain ⟨r3, hf4, h⟩ := oS h
  refine yW<|ym rfl (sFc a0)<|yd rfl (i64 r1) (yc ent145 rfl rfl (bS bN) (K1o_ok a0 r1 hf1))<|yd rfl (b true) (TOp.eqb (yc ent82 rfl rfl (bP (bP bN0)) (K0f_ok r1 1 256 r2 hf2)) hc3)<|ym rfl (b true)<|ym rfl (sFc a0)<|yd rfl (b r3) (yc ent81 rfl rfl (bS bN) (K0v_ok a0 r3 hf4))<|yl rfl (b r3) yq<|ya rfl (b r3)<|zN ?_
  refine RunC.ret ?_
  have hq := oI h
  subst q0
  exact bR rfl
 ·refine yW<|ym rfl (sFc a0)<|yd rfl (i64 r1) (yc ent145 rfl rfl (bS bN) (K1o_ok a0 r1 hf1))<|yd rfl (b false) (TOp.eqb (yc ent82 rfl rfl (bP (bP bN0)) (K0f_ok r1 1 256 r2 hf2)) hc3)<|ym rfl (b false)<|yR rfl<|yR rfl<|yl rfl (b false) yp<|ya rfl (b false)<|zN ?_
  refine RunC.ret ?_
  have hq := oI h
  subst q0
  exact bR rfl

def K1q (a0 : Int) (a1 : List Int) (a2 : List Int) (a3 : List F) (a4 : List F) : Option (Bool) :=
 obind (K0w a0 a1 a2 a3) fun (r1 : Bool) =>
 bsel r1 (
  obind (K1p a4) fun (r2 : Bool) =>
  bsel r2 (
   obind (K1o a4) fun (r3 : Int) =>
   some (decide (r3 = a0))) (
   some false)) (
  some false)
abbrev z033 (a0 : Int) (a1 : List Int) (a2 : List Int) (a3 : List F) : List AV := [i64 a0, sl a1.length (a1.map i64), sl a2.length (a2.map i64), (sFc a3)]
theorem K1q_ok (a0 : Int) (a1 : List Int) (a2 : List Int) (a3 : List F) (a4 : List F) (q0 : Bool) (h : K1q a0 a1 a2 a3 a4 = some q0) : Ev Try.prog 80 [agg [i64 a0, sl a1.length (a1.map i64), sl a2.length (a2.map i64), (sFc a3)], (sFc a4)] [] (b q0) [] := by
 refine yE Try.func80 0 37 0 ([(0, agg (z033 a0 a1 a2 a3)), (1, (sFc a4))]) [] rfl ?_
 unfold K1q at h
 refine zQ<|yd rfl (ptr (z033 a0 a1 a2 a3)) (TOp.box_s rfl rfl rfl)<|ya rfl (b false)<|zN ?_
 refine yS ?_
 obtain ⟨r1, hf1, h⟩ := oS h
 rcases oB h with ⟨hc2, h⟩ | ⟨hc2, h⟩
 ·obtain ⟨r2, hf3, h⟩ := oS h
  rcases oB h with ⟨hc4, h⟩ | ⟨hc4, h⟩
  ·obtain ⟨r3, hf5, h⟩ := oS h
   refine RunC.region_draw (Γ' := []) 14 mixed 
    (tl rfl (agg (z033 a0 a1 a2 a3)) (yL agg30 siz30) <|
    (TR.d (r := b true) (fs := []) rfl rfl (TOp.eqb (TOp.callB (CallAs.func ent30 rfl rfl) (Bors.cons (Bor.agg (bP (bS (bS (bS bN))))) bN) rfl rfl (K0w_ok a0 a1 a2 a3 r1 hf1)) hc2) <|
    (tm rfl (b true) <|
    (tm rfl (sFc a4) <|
    (TR.d (r := b true) (fs := []) rfl rfl (TOp.eqb (yc ent144 rfl rfl (bS bN) (K1p_ok a4 r2 hf3)) hc4) <|
    (tl rfl (b true) yq <|
    (tm rfl (b true) <|
    (tm rfl (sFc a4) <|
    (TR.d (r := i64 r3) (fs := []) rfl rfl (yc ent145 rfl rfl (bS bN) (K1o_ok a4 r3 hf5)) <|
    (tl rfl (ptr (z033 a0 a1 a2 a3)) (LOp.fap und30 rfl siz2 rfl rfl rfl) <|
    (tl rfl (i64 a0) (n2 agg2) <|
    (tl rfl (b (decide (r3 = a0))) (LOp.eql rfl rfl rfl) <|
    (tl rfl (b (decide (r3 = a0))) yq <|
    (tl rfl (b (decide (r3 = a0))) (LOp.assign rfl rfl) <|
    TR.nil)))))))))))))) rfl (by kernel_rfl) rfl fills_nil rfl ?_
   iterate 14 refine ROps.dropS ?_
   refine ROps.drop0<|zN ?_
   refine RunC.ret ?_
   have hq := oI h
   subst q0
   exact bR rfl
  ·refine RunC.region_draw (Γ' := []) 14 mixed 
    (tl rfl (agg (z033 a0 a1 a2 a3)) (yL agg30 siz30) <|
    (TR.d (r := b true) (fs := []) rfl rfl (TOp.eqb (TOp.callB (CallAs.func ent30 rfl rfl) (Bors.cons (Bor.agg (bP (bS (bS (bS bN))))) bN) rfl rfl (K0w_ok a0 a1 a2 a3 r1 hf1)) hc2) <|
    (tm rfl (b true) <|
    (tm rfl (sFc a4) <|
    (TR.d (r := b false) (fs := []) rfl rfl (TOp.eqb (yc ent144 rfl rfl (bS bN) (K1p_ok a4 r2 hf3)) hc4) <|
    (tl rfl (b false) yq <|
    (tm rfl (b false) <|
    (ts rfl <|
    (ts rfl <|
    (ts rfl <|
    (ts rfl <|
    (ts rfl <|
    (tl rfl (b false) yp <|
    (tl rfl (b false) (LOp.assign rfl rfl) <|
    TR.nil)))))))))))))) rfl (by kernel_rfl) rfl fills_nil rfl ?_
   iterate 14 refine ROps.dropS ?_
   refine ROps.drop0<|zN ?_
   refine RunC.ret ?_
   have hq := oI h
   subst q0
   exact bR rfl
 ·refine RunC.region_draw (Γ' := []) 14 mixed 
   (tl rfl (agg (z033 a0 a1 a2 a3)) (yL agg30 siz30) <|
   (TR.d (r := b false) (fs := []) rfl rfl (TOp.eqb (TOp.callB (CallAs.func ent30 rfl rfl) (Bors.cons (Bor.agg (bP (bS (bS (bS bN))))) bN) rfl rfl (K0w_ok a0 a1 a2 a3 r1 hf1)) hc2) <|
   (tm rfl (b false) <|
   (ts rfl <|
   (ts rfl <|
   (tl rfl (b false) yp <|
   (tm rfl (b false) <|
   (ts rfl <|
   (ts rfl <|
   (ts rfl <|
   (ts rfl <|
   (ts rfl <|
   (tl rfl (b false) yp <|
   (tl rfl (b false) (LOp.assign rfl rfl) <|
   TR.nil)))))))))))))) rfl (by kernel_rfl) rfl fills_nil rfl ?_
  iterate 14 refine ROps.dropS ?_
  refine ROps.drop0<|zN ?_
  refine RunC.ret ?_
  have hq := oI h
  subst q0
  exact bR rfl

def K1r (a0 : List F) : Option ((List F)) :=
 need (apok 4 0 a0.length) <|
 some (([] : List F) ++ a0)
theorem K1r_ok (a0 : List F) (q0 : List F) (h : K1r a0 = some q0) : Ev Try.prog 122 [(sFc a0)] [] (oref 0 0 0 q0.length) [oF 0 q0] := by
 refine yE Try.func122 1 17 0 [(0, (sFc a0))] [o0] rfl ?_
 unfold K1r at h
 refine zQ<|ya rfl nilsl<|zN ?_
 refine yS<|zQ<|ym rfl (sFc a0)<|ROps.eqnil rfl pun23 rfl rfl rfl rfl rfl ?_ ?_
 ·intro hnil1
  refine zN ?_
  refine yT<|zQ<|ya rfl nilsl<|zN ?_
  refine RunC.nil_slot (Γ' := [oF 1 []]) 2 0 rfl rfl rfl<|RunC.ret ?_
  have hnl := List.map_eq_nil_iff.1 hnil1
  have hq : some ([] : List F) = some q0 := by
   rw [← h]; subst hnl; simp [need, apok]
  have hq := oI hq
  subst q0
  exact yB (oref 0 1 0 (([] : List F).length)) [(0, 1)] (Res.eq (Res.one rfl (RV.tmp rfl)) (by first | rfl | (rw [(show ([] : List F).length = 0 from rfl)] <;> rfl))) (sA rfl trivial)
 ·refine zN ?_
  refine yF<|RunC.skip<|yS ?_
  obtain ⟨hm2, h⟩ := need_some h
  refine yW<|ye rfl (oref 0 1 0 0) ([oF 1 []]) (TOp.buildSlice_o (g := o0) (za := f32 (some 0)) (qs := []) 0 rfl und23 siz26 zer26 rfl zel26 rfl rfl trivial rfl)<|ym rfl (sFc a0)<|ROps.app (f := f32) (xs := ([] : List F)) (ys := a0) (Γ' := [⟨2, some ((([] : List F) ++ a0).map f32)⟩]) rfl pun23 inf26 rfl rfl rfl rfl rfl rfl rfl rfl rfl (by simp) (ReadAs.sl (by simp)) (ones_map (fun _ => rfl)) (ap_by hm2) (ap_mx hm2) rfl<|ya rfl (oref 0 2 0 (0 + a0.length))<|zN ?_
  refine RunC.ret ?_
  have hq := oI h
  subst q0
  exact yB (oref 0 2 0 ((([] : List F) ++ a0).length)) [(0, 2)] (Res.eq (Res.one rfl (RV.tmp rfl)) (by first | rfl | (rw [(show (([] : List F) ++ a0).length = (0 + a0.length) from (app_len rfl rfl))] <;> rfl))) (sA rfl trivial)

def K1s (a0 : Int) (a1 : F) (a2 : Int) (a3 : List F) : Option ((List F)) :=
 bsel (decide (a0 < a2)) (
  obind (at? a3 a2) fun (e1 : F) =>
  obind (at? a3 a0) fun (e2 : F) =>
  obind (K18 a1 e2) fun (r3 : F) =>
  olet (fop .sub .f32 e1 r3) fun (x4 : F) =>
  obind (setAt? a3 a2 x4) fun (L5 : List F) =>
  some L5) (
  some a3)
theorem K1s_ok (a0 : Int) (a1 : F) (a2 : Int) (a3 : List F) (q0 : List F) (h : K1s a0 a1 a2 a3 = some q0) : Ev Try.prog 124 [i64 a0, f32 a1, optr 0 0 0, optr 1 0 0] [⟨0, some [i64 a2]⟩, ⟨0, some [oref 2 0 0 a3.length]⟩, oF 0 a3] (tup []) [⟨0, some [i64 a2]⟩, ⟨0, some [oref 2 0 0 a3.length]⟩, oF 0 q0] := by
 refine Ev.start Try.func124 rfl rfl 0 (τ := [(0, i64 a0), (1, f32 a1), (2, optr 0 0 0), (3, optr 1 0 0)]) rfl (Γ' := [⟨0, some [i64 a2]⟩, ⟨0, some [oref 2 0 0 a3.length]⟩, oF 0 a3]) rfl (n := 42) rfl (g := 3) rfl (by decide) ?_
 unfold K1s at h
 refine yS ?_
 rcases oB h with ⟨hc1, h⟩ | ⟨hc1, h⟩
 ·refine yW<|ym rfl (i64 a0)<|yd rfl (i64 a2) (TOp.load1_o rfl rfl agg2 rfl rfl)<|yl rfl (b true) (LOp.eqb (LOp.lss rfl rfl rfl) hc1)<|zN ?_
  refine yT ?_
  obtain ⟨e1, he2, h⟩ := oS h
  obtain ⟨e2, he3, h⟩ := oS h
  obtain ⟨r3, hf4, h⟩ := oS h
  obtain ⟨x4, hx5, h⟩ := oL h
  obtain ⟨L5, he6, h⟩ := oS h
  refine RunC.region_draw (Γ' := [⟨0, some [i64 a2]⟩, ⟨0, some [oref 2 0 0 a3.length]⟩, oF 0 a3]) 12 mixed 
   (TR.d (r := oref 2 0 0 a3.length) (fs := []) rfl rfl (TOp.load1_o rfl rfl agg23 rfl rfl) <|
   (TR.d (r := i64 a2) (fs := []) rfl rfl (TOp.load1_o rfl rfl agg2 rfl rfl) <|
   (TR.d (r := optr 2 0 a2.toNat) (fs := []) rfl rfl (TOp.ixo und23 siz26 rfl rfl rfl (at_in he2 rfl) rfl) <|
   (TR.d (r := f32 e1) (fs := []) rfl rfl (TOp.load1_o rfl (at_cell he2) agg26 rfl rfl) <|
   (tm rfl (f32 a1) <|
   (TR.d (r := oref 2 0 0 a3.length) (fs := []) rfl rfl (TOp.load1_o rfl rfl agg23 rfl rfl) <|
   (tm rfl (i64 a0) <|
   (TR.d (r := optr 2 0 a0.toNat) (fs := []) rfl rfl (TOp.ixo und23 siz26 rfl rfl rfl (at_in he3 rfl) rfl) <|
   (TR.d (r := f32 e2) (fs := []) rfl rfl (TOp.load1_o rfl (at_cell he3) agg26 rfl rfl) <|
   (TR.d (r := f32 r3) (fs := []) rfl rfl (yc ent86 rfl rfl (bP bN0) (K18_ok a1 e2 r3 hf4)) <|
   (TR.d (r := f32 x4) (fs := []) rfl rfl (TOp.eqr (TOp.fop (.inr (.inl rfl)) rfl (OpF.tmp rfl) (OpF.tmp rfl)) (congrArg (f .f32) hx5)) <|
   (TR.d (r := optr 2 0 a2.toNat) (fs := []) rfl rfl (TOp.ixo und23 siz26 rfl rfl rfl (set_in he6 rfl) rfl) <|
   TR.nil)))))))))))) rfl (by kernel_rfl) rfl fills_nil rfl ?_
  iterate 12 refine ROps.dropS ?_
  refine ROps.drop0<|ROps.st (f := f32) (i := a2) (Γ' := [⟨0, some [i64 a2]⟩, ⟨0, some [oref 2 0 0 a3.length]⟩, oF 0 L5]) rfl siz26 rfl rfl rfl aR rfl rfl rfl he6 rfl<|zN ?_
  have hq := oI h
  subst q0
  exact yB (tup []) [(0, 0), (1, 0), (2, 0)] (Res.zero rfl) (SelL.cells rfl (by first | rfl | simp [ren, rens, sigma, rens_f32, rens_f64, rens_i64, rens_ik, rens_str, rens_cp]) rfl (SelL.cells rfl (by first | rfl | simp [ren, rens, sigma, rens_f32, rens_f64, rens_i64, rens_ik, rens_str, rens_cp]) rfl (SelL.arr (f := f32) (fun _ => rfl) rfl trivial)))
 ·refine yW<|ym rfl (i64 a0)<|yd rfl (i64 a2) (TOp.load1_o rfl rfl agg2 rfl rfl)<|yl rfl (b false) (LOp.eqb (LOp.lss rfl rfl rfl) hc1)<|zN ?_
  refine yF<|RunC.skip ?_
  have hq := oI h
  subst q0
  exact yB (tup []) [(0, 0), (1, 0), (2, 0)] (Res.zero rfl) (SelL.cells rfl (by first | rfl | simp [ren, rens, sigma, rens_f32, rens_f64, rens_i64, rens_ik, rens_str, rens_cp]) rfl (SelL.cells rfl (by first | rfl | simp [ren, rens, sigma, rens_f32, rens_f64, rens_i64, rens_ik, rens_str, rens_cp]) rfl (SelL.arr (f := f32) (fun _ => rfl) rfl trivial)))

def K1t_b1 (a1 : List Int) (a2 : List Int) (a3 : List F) (a4 : Int) (a5 : Int) (a6 : List F) (L2 : List F) (v4 : Int) : Option (LR ((List F) × Int) ((List F)) ((List F))) :=
 olet (IntKind.i64.wrap (a4 + 1)) fun (x5 : Int) =>
 obind (at? a1 x5) fun (e6 : Int) =>
 bsel (decide (v4 < e6)) (
  obind (at? a2 v4) fun (e9 : Int) =>
  obind (at? a3 v4) fun (e10 : F) =>
  obind (K1s e9 e10 a5 L2) fun (r11 : List F) =>
  need (decide (r11.length = a6.length)) <|
  olet (IntKind.i64.wrap (v4 + 1)) fun (x12 : Int) =>
  some (LR.next (r11, x12))) (
  some (LR.out L2))
def K1t_s1 (a1 : List Int) (a2 : List Int) (a3 : List F) (a4 : Int) (a5 : Int) (a6 : List F) : ((List F) × Int) → Option (LR ((List F) × Int) ((List F)) ((List F))) := fun s => K1t_b1 a1 a2 a3 a4 a5 a6 s.1 s.2
def K1t_k1 (L13 : List F) : Option ((List F)) :=
 some L13
def K1t (a0 : Int) (a1 : List Int) (a2 : List Int) (a3 : List F) (a4 : Int) (a5 : Int) (a6 : List F) : Option ((List F)) :=
 obind (at? a1 a4) fun (e1 : Int) =>
 obind (loopM (K1t_s1 a1 a2 a3 a4 a5 a6) (a6, e1)) fun z => osum z (fun e => K1t_k1 e) (fun r => some r)
abbrev z034 (a0 : Int) (a1 : List Int) (a2 : List Int) (a3 : List F) : List AV := [i64 a0, sl a1.length (a1.map i64), sl a2.length (a2.map i64), (sFc a3)]
abbrev z035 (a6 : List F) : Ob := ⟨0, some [oref 2 0 0 a6.length]⟩
theorem K1t_ok (a0 : Int) (a1 : List Int) (a2 : List Int) (a3 : List F) (a4 : Int) (a5 : Int) (a6 : List F) (q0 : List F) (h : K1t a0 a1 a2 a3 a4 a5 a6 = some q0) : Ev Try.prog 84 [agg [i64 a0, sl a1.length (a1.map i64), sl a2.length (a2.map i64), (sFc a3)], i64 a4, fn (.func 124) [] [optr 0 0 0, optr 1 0 0]] [⟨0, some [i64 a5]⟩, ⟨0, some [oref 2 0 0 a6.length]⟩, oF 0 a6] (tup []) [⟨0, some [i64 a5]⟩, ⟨0, some [oref 2 0 0 a6.length]⟩, oF 0 q0] := by
 refine Ev.start Try.func84 rfl rfl 0 (τ := [(0, agg (z034 a0 a1 a2 a3)), (1, i64 a4), (2, fn (.func 124) [] [optr 0 0 0, optr 1 0 0])]) rfl (Γ' := [⟨0, some [i64 a5]⟩, (z035 a6), oF 0 a6]) rfl (n := 68) rfl (g := 3) rfl (by decide) ?_
 unfold K1t at h
 refine zQ<|yd rfl (ptr (z034 a0 a1 a2 a3)) (TOp.box_s rfl rfl rfl)<|zN ?_
 refine yS ?_
 obtain ⟨e1, he1, h⟩ := oS h
 refine yW<|yl rfl (ptr [sl a1.length (a1.map i64), sl a2.length (a2.map i64), (sFc a3)]) (LOp.fap und30 rfl siz22 rfl rfl rfl)<|yl rfl (sl a1.length (a1.map i64)) (n2 agg22)<|ym rfl (i64 a4)<|yl rfl (ptr [i64 e1]) (LOp.le (LOp.ix (f := i64) und22 siz2 rfl rfl rfl rfl he1) ALe.ptr)<|yl rfl (i64 e1) (n2 agg2)<|ya rfl (i64 e1)<|zN ?_
 obtain ⟨z2, hz_2, h⟩ := oS h
 refine RunC.cutN (fun τ Γ => ∃ (L13 : List F), L13.length = a6.length ∧ WeakLe τ [] ∧ DeadLe Γ [⟨0, some [i64 a5]⟩, (z035 a6), oF 0 L13] ∧ z2 = .inl L13) ?_ ?_
 ·refine RunC.block (RunC.loop (RunL.loopM (x := z2) (K1t_s1 a1 a2 a3 a4 a5 a6) (fun (s : (List F) × Int) τ Γ => s.1.length = a6.length ∧ WeakLe τ [(1, i64 a4), (2, fn (.func 124) [] [optr 0 0 0, optr 1 0 0]), (3, ptr (z034 a0 a1 a2 a3)), (6, i64 s.2)] ∧ DeadLe Γ [⟨0, some [i64 a5]⟩, (z035 a6), ⟨0, some (s.1.map f32)⟩]) ?_ _ _ _ hz_2 ⟨rfl, ⟨aR, aR, aR, aR, trivial⟩, ⟨dR, dR, dR, trivial⟩⟩))
  rintro ⟨L2, v4⟩ τ2 Γ2 y2_ ⟨hl3, hw2, hd2⟩ h2_ ho2 hr2
  refine RunC.wl (τ' := [(1, i64 a4), (2, fn (.func 124) [] [optr 0 0 0, optr 1 0 0]), (3, ptr (z034 a0 a1 a2 a3)), (6, i64 v4)]) (Γ' := [⟨0, some [i64 a5]⟩, (z035 a6), oF 0 L2]) hw2 hd2 ?_
  replace hl3 : L2.length = a6.length := hl3
  replace h2_ : K1t_b1 a1 a2 a3 a4 a5 a6 L2 v4 = some y2_ := h2_
  unfold K1t_b1 at h2_
  refine yS<|yS ?_
  obtain ⟨x5, hx2, h2_⟩ := oL h2_
  obtain ⟨e6, he3, h2_⟩ := oS h2_
  rcases oB h2_ with ⟨hc4, h2_⟩ | ⟨hc4, h2_⟩
  ·refine yW<|ym rfl (i64 v4)<|yl rfl (ptr [sl a1.length (a1.map i64), sl a2.length (a2.map i64), (sFc a3)]) (LOp.fap und30 rfl siz22 rfl rfl rfl)<|yl rfl (sl a1.length (a1.map i64)) (n2 agg22)<|ym rfl (i64 a4)<|yl rfl (i64 x5) (LOp.eqr (LOp.add rfl rfl rfl) (congrArg (ik .i64) hx2))<|yl rfl (ptr [i64 e6]) (LOp.le (LOp.ix (f := i64) und22 siz2 rfl rfl rfl rfl he3) ALe.ptr)<|yl rfl (i64 e6) (n2 agg2)<|yl rfl (b true) (LOp.eqb (LOp.lss rfl rfl rfl) hc4)<|zN ?_
   refine yT<|RunC.skip<|yS<|RunC.block ?_
   obtain ⟨e9, he7, h2_⟩ := oS h2_
   obtain ⟨e10, he8, h2_⟩ := oS h2_
   obtain ⟨r11, hf9, h2_⟩ := oS h2_
   obtain ⟨hn10, h2_⟩ := need_some h2_
   refine RunC.region_draw (Γ' := [⟨0, some [i64 a5]⟩, (z035 a6), oF 0 L2]) 11 mixed 
    (tm rfl (fn (.func 124) [] [optr 0 0 0, optr 1 0 0]) <|
    (tl rfl (ptr [sl a2.length (a2.map i64), (sFc a3)]) (LOp.fap und30 rfl siz22 rfl rfl rfl) <|
    (tl rfl (sl a2.length (a2.map i64)) (n2 agg22) <|
    (tm rfl (i64 v4) <|
    (tl rfl (ptr [i64 e9]) (LOp.le (LOp.ix (f := i64) und22 siz2 rfl rfl rfl rfl he7) ALe.ptr) <|
    (tl rfl (i64 e9) (n2 agg2) <|
    (tl rfl (ptr [(sFc a3)]) (LOp.fap und30 rfl siz23 rfl rfl rfl) <|
    (tl rfl (sFc a3) (n2 agg23) <|
    (tm rfl (i64 v4) <|
    (tl rfl (ptr [f32 e10]) (LOp.le (LOp.ix (f := f32) und23 siz26 rfl rfl rfl rfl he8) ALe.ptr) <|
    (tl rfl (f32 e10) (n2 agg26) <|
    TR.nil))))))))))) rfl (by kernel_rfl) rfl fills_nil rfl ?_
   iterate 11 refine ROps.dropS ?_
   refine ROps.drop0<|ROps.callO (A := [i64 e9, f32 e10, optr 0 0 0, optr 1 0 0]) (args := [i64 e9, f32 e10, optr 0 0 0, optr 1 0 0]) (Γc := [⟨0, some [i64 a5]⟩, ⟨0, some [oref 2 0 0 L2.length]⟩, oF 0 L2]) (Γc' := [⟨0, some [i64 a5]⟩, ⟨0, some [oref 2 0 0 L2.length]⟩, oF 0 r11]) (r' := tup []) (Γ' := [⟨0, some [i64 a5]⟩, (z035 a6), oF 0 r11]) [(0, 0), (1, 0), (2, 0)] [] rfl (CallAs.fn ent124 rfl rfl rfl rfl) rfl rfl (SelOk.of (show List.Nodup [0, 1, 2] from by decide) (SelL.cells0 rfl (by simp [ren, rens, sigma, rens_f32, rens_f64, rens_i64, rens_ik, rens_str, rens_cp, hl3]) rfl (SelL.cells0 rfl (by simp [ren, rens, sigma, rens_f32, rens_f64, rens_i64, rens_ik, rens_str, rens_cp, hl3]) rfl (sA rfl trivial)))) (live_of ⟨⟨_, _, rfl⟩, ⟨_, _, rfl⟩, ⟨_, _, rfl⟩, trivial⟩) (by simp [ren, rens, sigma, rens_f32, rens_f64, rens_i64, rens_ik, rens_str, rens_cp, hl3]) rfl (K1s_ok e9 e10 a5 L2 r11 hf9) rfl (news_of trivial) (show List.Nodup [0, 1, 2] from by decide) (by simp [ren, rens, sigma, of_decide_eq_true hn10]) (by simp [backOb, sigma, ren, rens, rens_f32, rens_f64, rens_i64, rens_ik, rens_str, rens_cp, hl3, of_decide_eq_true hn10] <;> omega)<|zN ?_
   refine RunC.wl (τ' := [(1, i64 a4), (2, fn (.func 124) [] [optr 0 0 0, optr 1 0 0]), (3, ptr (z034 a0 a1 a2 a3)), (6, i64 v4)]) (Γ' := [⟨0, some [i64 a5]⟩, (z035 a6), oF 0 r11]) ⟨aR, aR, aR, aR, trivial⟩ ⟨dR, dR, dR, trivial⟩ ?_
   obtain ⟨x12, hx11, h2_⟩ := oL h2_
   refine yW<|ym rfl (i64 v4)<|yl rfl (i64 x12) (LOp.eqr (LOp.add rfl rfl rfl) (congrArg (ik .i64) hx11))<|ya rfl (i64 x12)<|zN ?_
   cases oI h2_
   exact ⟨_, rfl, (of_decide_eq_true hn10), ⟨aR, aR, aR, aR, trivial⟩, ⟨dR, dR, dR, trivial⟩⟩
  ·refine yW<|ym rfl (i64 v4)<|yl rfl (ptr [sl a1.length (a1.map i64), sl a2.length (a2.map i64), (sFc a3)]) (LOp.fap und30 rfl siz22 rfl rfl rfl)<|yl rfl (sl a1.length (a1.map i64)) (n2 agg22)<|ym rfl (i64 a4)<|yl rfl (i64 x5) (LOp.eqr (LOp.add rfl rfl rfl) (congrArg (ik .i64) hx2))<|yl rfl (ptr [i64 e6]) (LOp.le (LOp.ix (f := i64) und22 siz2 rfl rfl rfl rfl he3) ALe.ptr)<|yl rfl (i64 e6) (n2 agg2)<|yl rfl (b false) (LOp.eqb (LOp.lss rfl rfl rfl) hc4)<|zN ?_
   refine yF<|RunC.exit ?_
   cases oI h2_
   have hx := ho2 _ rfl
   exact ⟨L2, hl3, trivial, ⟨dR, dR, dR, trivial⟩, hx⟩
 ·rintro τ3 Γ3 ⟨L13, hl14, hw3, hd3, rfl⟩
  replace h : K1t_k1 L13 = some q0 := h
  unfold K1t_k1 at h
  refine bodyQ.wl hw3 hd3 ?_
  have hq := oI h
  subst q0
  exact yB (tup []) [(0, 0), (1, 0), (2, 0)] (Res.zero rfl) (SelL.cells rfl (by first | rfl | simp [ren, rens, sigma, rens_f32, rens_f64, rens_i64, rens_ik, rens_str, rens_cp]) rfl (SelL.cells rfl (by first | rfl | simp [ren, rens, sigma, rens_f32, rens_f64, rens_i64, rens_ik, rens_str, rens_cp]) rfl (SelL.arr (f := f32) (fun _ => rfl) rfl trivial)))

def K1u (a0 : Int) (a1 : Int) (a2 : List Int) (a3 : List Int) (a4 : List F) : Option (F) :=
 olet (IntKind.i64.wrap (a0 + 1)) fun (x1 : Int) =>
 obind (at? a2 x1) fun (e2 : Int) =>
 olet (IntKind.i64.wrap (e2 - 1)) fun (x3 : Int) =>
 obind (at? a4 x3) fun (e4 : F) =>
 some e4
theorem K1u_ok (a0 : Int) (a1 : Int) (a2 : List Int) (a3 : List Int) (a4 : List F) (q0 : F) (h : K1u a0 a1 a2 a3 a4 = some q0) : Ev Try.prog 123 [i64 a0, ptr [i64 a1, sl a2.length (a2.map i64), sl a3.length (a3.map i64), (sFc a4)]] [] (f32 q0) [] := by
 refine yE Try.func123 0 31 0 ([(0, i64 a0), (1, ptr [i64 a1, sl a2.length (a2.map i64), sl a3.length (a3.map i64), (sFc a4)])]) [] rfl ?_
 unfold K1u at h
 refine zQ<|yl rfl (f32 (some 0)) (LOp.le (LOp.assign rfl rfl) (ALe.fl (by kernel_rfl) (by kernel_rfl)))<|zN ?_
 refine yS ?_
 obtain ⟨x1, hx1, h⟩ := oL h
 obtain ⟨e2, he2, h⟩ := oS h
 obtain ⟨x3, hx3, h⟩ := oL h
 obtain ⟨e4, he4, h⟩ := oS h
 refine RunC.region_draw (Γ' := []) 12 mixed 
  (tl rfl (ptr [(sFc a4)]) (LOp.fap und30 rfl siz23 rfl rfl rfl) <|
  (tl rfl (sFc a4) (n2 agg23) <|
  (tl rfl (ptr [sl a2.length (a2.map i64), sl a3.length (a3.map i64), (sFc a4)]) (LOp.fap und30 rfl siz22 rfl rfl rfl) <|
  (tl rfl (sl a2.length (a2.map i64)) (n2 agg22) <|
  (tm rfl (i64 a0) <|
  (tl rfl (i64 x1) (LOp.eqr (LOp.add rfl rfl rfl) (congrArg (ik .i64) hx1)) <|
  (tl rfl (ptr [i64 e2]) (LOp.le (LOp.ix (f := i64) und22 siz2 rfl rfl rfl rfl he2) ALe.ptr) <|
  (tl rfl (i64 e2) (n2 agg2) <|
  (tl rfl (i64 x3) (LOp.eqr (LOp.sub rfl rfl rfl) (congrArg (ik .i64) hx3)) <|
  (tl rfl (ptr [f32 e4]) (LOp.le (LOp.ix (f := f32) und23 siz26 rfl rfl rfl rfl he4) ALe.ptr) <|
  (tl rfl (f32 e4) (n2 agg26) <|
  (tl rfl (f32 e4) (LOp.assign rfl rfl) <|
  TR.nil)))))))))))) rfl (by kernel_rfl) rfl fills_nil rfl ?_
 iterate 12 refine ROps.dropS ?_
 refine ROps.drop0<|zN ?_
 refine RunC.ret ?_
 have hq := oI h
 subst q0
 exact bR rfl

def K1v (a0 : Int) (a1 : F) (a2 : Int) (a3 : List F) : Option ((List F)) :=
 bsel (decide (a0 < a2)) (
  obind (at? a3 a0) fun (e1 : F) =>
  obind (at? a3 a2) fun (e2 : F) =>
  obind (K18 a1 e2) fun (r3 : F) =>
  olet (fop .sub .f32 e1 r3) fun (x4 : F) =>
  obind (setAt? a3 a0 x4) fun (L5 : List F) =>
  some L5) (
  some a3)
theorem K1v_ok (a0 : Int) (a1 : F) (a2 : Int) (a3 : List F) (q0 : List F) (h : K1v a0 a1 a2 a3 = some q0) : Ev Try.prog 125 [i64 a0, f32 a1, optr 0 0 0, optr 1 0 0] [⟨0, some [i64 a2]⟩, ⟨0, some [oref 2 0 0 a3.length]⟩, oF 0 a3] (tup []) [⟨0, some [i64 a2]⟩, ⟨0, some [oref 2 0 0 a3.length]⟩, oF 0 q0] := by
 refine Ev.start Try.func125 rfl rfl 0 (τ := [(0, i64 a0), (1, f32 a1), (2, optr 0 0 0), (3, optr 1 0 0)]) rfl (Γ' := [⟨0, some [i64 a2]⟩, ⟨0, some [oref 2 0 0 a3.length]⟩, oF 0 a3]) rfl (n := 42) rfl (g := 3) rfl (by decide) ?_
 unfold K1v at h
 refine yS ?_
 rcases oB h with ⟨hc1, h⟩ | ⟨hc1, h⟩
 ·refine yW<|ym rfl (i64 a0)<|yd rfl (i64 a2) (TOp.load1_o rfl rfl agg2 rfl rfl)<|yl rfl (b true) (LOp.eqb (LOp.lss rfl rfl rfl) hc1)<|zN ?_
  refine yT ?_
  obtain ⟨e1, he2, h⟩ := oS h
  obtain ⟨e2, he3, h⟩ := oS h
  obtain ⟨r3, hf4, h⟩ := oS h
  obtain ⟨x4, hx5, h⟩ := oL h
  obtain ⟨L5, he6, h⟩ := oS h
  refine RunC.region_draw (Γ' := [⟨0, some [i64 a2]⟩, ⟨0, some [oref 2 0 0 a3.length]⟩, oF 0 a3]) 12 mixed 
   (TR.d (r := oref 2 0 0 a3.length) (fs := []) rfl rfl (TOp.load1_o rfl rfl agg23 rfl rfl) <|
   (tm rfl (i64 a0) <|
   (TR.d (r := optr 2 0 a0.toNat) (fs := []) rfl rfl (TOp.ixo und23 siz26 rfl rfl rfl (at_in he2 rfl) rfl) <|
   (TR.d (r := f32 e1) (fs := []) rfl rfl (TOp.load1_o rfl (at_cell he2) agg26 rfl rfl) <|
   (tm rfl (f32 a1) <|
   (TR.d (r := oref 2 0 0 a3.length) (fs := []) rfl rfl (TOp.load1_o rfl rfl agg23 rfl rfl) <|
   (TR.d (r := i64 a2) (fs := []) rfl rfl (TOp.load1_o rfl rfl agg2 rfl rfl) <|
   (TR.d (r := optr 2 0 a2.toNat) (fs := []) rfl rfl (TOp.ixo und23 siz26 rfl rfl rfl (at_in he3 rfl) rfl) <|
   (TR.d (r := f32 e2) (fs := []) rfl rfl (TOp.load1_o rfl (at_cell he3) agg26 rfl rfl) <|
   (TR.d (r := f32 r3) (fs := []) rfl rfl (yc ent86 rfl rfl (bP bN0) (K18_ok a1 e2 r3 hf4)) <|
   (TR.d (r := f32 x4) (fs := []) rfl rfl (TOp.eqr (TOp.fop (.inr (.inl rfl)) rfl (OpF.tmp rfl) (OpF.tmp rfl)) (congrArg (f .f32) hx5)) <|
   (TR.d (r := optr 2 0 a0.toNat) (fs := []) rfl rfl (TOp.ixo und23 siz26 rfl rfl rfl (set_in he6 rfl) rfl) <|
   TR.nil)))))))))))) rfl (by kernel_rfl) rfl fills_nil rfl ?_
  iterate 12 refine ROps.dropS ?_
  refine ROps.drop0<|ROps.st (f := f32) (i := a0) (Γ' := [⟨0, some [i64 a2]⟩, ⟨0, some [oref 2 0 0 a3.length]⟩, oF 0 L5]) rfl siz26 rfl rfl rfl aR rfl rfl rfl he6 rfl<|zN ?_
  have hq := oI h
  subst q0
  exact yB (tup []) [(0, 0), (1, 0), (2, 0)] (Res.zero rfl) (SelL.cells rfl (by first | rfl | simp [ren, rens, sigma, rens_f32, rens_f64, rens_i64, rens_ik, rens_str, rens_cp]) rfl (SelL.cells rfl (by first | rfl | simp [ren, rens, sigma, rens_f32, rens_f64, rens_i64, rens_ik, rens_str, rens_cp]) rfl (SelL.arr (f := f32) (fun _ => rfl) rfl trivial)))
 ·refine yW<|ym rfl (i64 a0)<|yd rfl (i64 a2) (TOp.load1_o rfl rfl agg2 rfl rfl)<|yl rfl (b false) (LOp.eqb (LOp.lss rfl rfl rfl) hc1)<|zN ?_
  refine yF<|RunC.skip ?_
  have hq := oI h
  subst q0
  exact yB (tup []) [(0, 0), (1, 0), (2, 0)] (Res.zero rfl) (SelL.cells rfl (by first | rfl | simp [ren, rens, sigma, rens_f32, rens_f64, rens_i64, rens_ik, rens_str, rens_cp]) rfl (SelL.cells rfl (by first | rfl | simp [ren, rens, sigma, rens_f32, rens_f64, rens_i64, rens_ik, rens_str, rens_cp]) rfl (SelL.arr (f := f32) (fun _ => rfl) rfl trivial)))

def K1w_b1 (a1 : List Int) (a2 : List Int) (a3 : List F) (a4 : Int) (a5 : Int) (a6 : List F) (L2 : List F) (v4 : Int) : Option (LR ((List F) × Int) ((List F)) ((List F))) :=
 olet (IntKind.i64.wrap (a4 + 1)) fun (x5 : Int) =>
 obind (at? a1 x5) fun (e6 : Int) =>
 bsel (decide (v4 < e6)) (
  obind (at? a2 v4) fun (e9 : Int) =>
  obind (at? a3 v4) fun (e10 : F) =>
  obind (K1v e9 e10 a5 L2) fun (r11 : List F) =>
  need (decide (r11.length = a6.length)) <|
  olet (IntKind.i64.wrap (v4 + 1)) fun (x12 : Int) =>
  some (LR.next (r11, x12))) (
  some (LR.out L2))
def K1w_s1 (a1 : List Int) (a2 : List Int) (a3 : List F) (a4 : Int) (a5 : Int) (a6 : List F) : ((List F) × Int) → Option (LR ((List F) × Int) ((List F)) ((List F))) := fun s => K1w_b1 a1 a2 a3 a4 a5 a6 s.1 s.2
def K1w_k1 (L13 : List F) : Option ((List F)) :=
 some L13
def K1w (a0 : Int) (a1 : List Int) (a2 : List Int) (a3 : List F) (a4 : Int) (a5 : Int) (a6 : List F) : Option ((List F)) :=
 obind (at? a1 a4) fun (e1 : Int) =>
 obind (loopM (K1w_s1 a1 a2 a3 a4 a5 a6) (a6, e1)) fun z => osum z (fun e => K1w_k1 e) (fun r => some r)
abbrev z036 (a0 : Int) (a1 : List Int) (a2 : List Int) (a3 : List F) : List AV := [i64 a0, sl a1.length (a1.map i64), sl a2.length (a2.map i64), (sFc a3)]
abbrev z037 (a6 : List F) : Ob := ⟨0, some [oref 2 0 0 a6.length]⟩
theorem K1w_ok (a0 : Int) (a1 : List Int) (a2 : List Int) (a3 : List F) (a4 : Int) (a5 : Int) (a6 : List F) (q0 : List F) (h : K1w a0 a1 a2 a3 a4 a5 a6 = some q0) : Ev Try.prog 84 [agg [i64 a0, sl a1.length (a1.map i64), sl a2.length (a2.map i64), (sFc a3)], i64 a4, fn (.func 125) [] [optr 0 0 0, optr 1 0 0]] [⟨0, some [i64 a5]⟩, ⟨0, some [oref 2 0 0 a6.length]⟩, oF 0 a6] (tup []) [⟨0, some [i64 a5]⟩, ⟨0, some [oref 2 0 0 a6.length]⟩, oF 0 q0] := by
 refine Ev.start Try.func84 rfl rfl 0 (τ := [(0, agg (z036 a0 a1 a2 a3)), (1, i64 a4), (2, fn (.func 125) [] [optr 0 0 0, optr 1 0 0])]) rfl (Γ' := [⟨0, some [i64 a5]⟩, (z037 a6), oF 0 a6]) rfl (n := 68) rfl (g := 3) rfl (by decide) ?_
 unfold K1w at h
 refine zQ<|yd rfl (ptr (z036 a0 a1 a2 a3)) (TOp.box_s rfl rfl rfl)<|zN ?_
 refine yS ?_
 obtain ⟨e1, he1, h⟩ := oS h
 refine yW<|yl rfl (ptr [sl a1.length (a1.map i64), sl a2.length (a2.map i64), (sFc a3)]) (LOp.fap und30 rfl siz22 rfl rfl rfl)<|yl rfl (sl a1.length (a1.map i64)) (n2 agg22)<|ym rfl (i64 a4)<|yl rfl (ptr [i64 e1]) (LOp.le (LOp.ix (f := i64) und22 siz2 rfl rfl rfl rfl he1) ALe.ptr)<|yl rfl (i64 e1) (n2 agg2)<|ya rfl (i64 e1)<|zN ?_
 obtain ⟨z2, hz_2, h⟩ := oS h
 refine RunC.cutN (fun τ Γ => ∃ (L13 : List F), L13.length = a6.length ∧ WeakLe τ [] ∧ DeadLe Γ [⟨0, some [i64 a5]⟩, (z037 a6), oF 0 L13] ∧ z2 = .inl L13) ?_ ?_
 ·refine RunC.block (RunC.loop (RunL.loopM (x := z2) (K1w_s1 a1 a2 a3 a4 a5 a6) (fun (s : (List F) × Int) τ Γ => s.1.length = a6.length ∧ WeakLe τ [(1, i64 a4), (2, fn (.func 125) [] [optr 0 0 0, optr 1 0 0]), (3, ptr (z036 a0 a1 a2 a3)), (6, i64 s.2)] ∧ DeadLe Γ [⟨0, some [i64 a5]⟩, (z037 a6), ⟨0, some (s.1.map f32)⟩]) ?_ _ _ _ hz_2 ⟨rfl, ⟨aR, aR, aR, aR, trivial⟩, ⟨dR, dR, dR, trivial⟩⟩))
  rintro ⟨L2, v4⟩ τ2 Γ2 y2_ ⟨hl3, hw2, hd2⟩ h2_ ho2 hr2
  refine RunC.wl (τ' := [(1, i64 a4), (2, fn (.func 125) [] [optr 0 0 0, optr 1 0 0]), (3, ptr (z036 a0 a1 a2 a3)), (6, i64 v4)]) (Γ' := [⟨0, some [i64 a5]⟩, (z037 a6), oF 0 L2]) hw2 hd2 ?_
  replace hl3 : L2.length = a6.length := hl3
  replace h2_ : K1w_b1 a1 a2 a3 a4 a5 a6 L2 v4 = some y2_ := h2_
  unfold K1w_b1 at h2_
  refine yS<|yS ?_
  obtain ⟨x5, hx2, h2_⟩ := oL h2_
  obtain ⟨e6, he3, h2_⟩ := oS h2_
  rcases oB h2_ with ⟨hc4, h2_⟩ | ⟨hc4, h2_⟩
  ·refine yW<|ym rfl (i64 v4)<|yl rfl (ptr [sl a1.length (a1.map i64), sl a2.length (a2.map i64), (sFc a3)]) (LOp.fap und30 rfl siz22 rfl rfl rfl)<|yl rfl (sl a1.length (a1.map i64)) (n2 agg22)<|ym rfl (i64 a4)<|yl rfl (i64 x5) (LOp.eqr (LOp.add rfl rfl rfl) (congrArg (ik .i64) hx2))<|yl rfl (ptr [i64 e6]) (LOp.le (LOp.ix (f := i64) und22 siz2 rfl rfl rfl rfl he3) ALe.ptr)<|yl rfl (i64 e6) (n2 agg2)<|yl rfl (b true) (LOp.eqb (LOp.lss rfl rfl rfl) hc4)<|zN ?_
   refine yT<|RunC.skip<|yS<|RunC.block ?_
   obtain ⟨e9, he7, h2_⟩ := oS h2_
   obtain ⟨e10, he8, h2_⟩ := oS h2_
   obtain ⟨r11, hf9, h2_⟩ := oS h2_
   obtain ⟨hn10, h2_⟩ := need_some h2_
   refine RunC.region_draw (Γ' := [⟨0, some [i64 a5]⟩, (z037 a6), oF 0 L2]) 11 mixed 
    (tm rfl (fn (.func 125) [] [optr 0 0 0, optr 1 0 0]) <|
    (tl rfl (ptr [sl a2.length (a2.map i64), (sFc a3)]) (LOp.fap und30 rfl siz22 rfl rfl rfl) <|
    (tl rfl (sl a2.length (a2.map i64)) (n2 agg22) <|
    (tm rfl (i64 v4) <|
    (tl rfl (ptr [i64 e9]) (LOp.le (LOp.ix (f := i64) und22 siz2 rfl rfl rfl rfl he7) ALe.ptr) <|
    (tl rfl (i64 e9) (n2 agg2) <|
    (tl rfl (ptr [(sFc a3)]) (LOp.fap und30 rfl siz23 rfl rfl rfl) <|
    (tl rfl (sFc a3) (n2 agg23) <|
    (tm rfl (i64 v4) <|
    (tl rfl (ptr [f32 e10]) (LOp.le (LOp.ix (f := f32) und23 siz26 rfl rfl rfl rfl he8) ALe.ptr) <|
    (tl rfl (f32 e10) (n2 agg26) <|
    TR.nil))))))))))) rfl (by kernel_rfl) rfl fills_nil rfl ?_
   iterate 11 refine ROps.dropS ?_
   refine ROps.drop0<|ROps.callO (A := [i64 e9, f32 e10, optr 0 0 0, optr 1 0 0]) (args := [i64 e9, f32 e10, optr 0 0 0, optr 1 0 0]) (Γc := [⟨0, some [i64 a5]⟩, ⟨0, some [oref 2 0 0 L2.length]⟩, oF 0 L2]) (Γc' := [⟨0, some [i64 a5]⟩, ⟨0, some [oref 2 0 0 L2.length]⟩, oF 0 r11]) (r' := tup []) (Γ' := [⟨0, some [i64 a5]⟩, (z037 a6), oF 0 r11]) [(0, 0), (1, 0), (2, 0)] [] rfl (CallAs.fn ent125 rfl rfl rfl rfl) rfl rfl (SelOk.of (show List.Nodup [0, 1, 2] from by decide) (SelL.cells0 rfl (by simp [ren, rens, sigma, rens_f32, rens_f64, rens_i64, rens_ik, rens_str, rens_cp, hl3]) rfl (SelL.cells0 rfl (by simp [ren, rens, sigma, rens_f32, rens_f64, rens_i64, rens_ik, rens_str, rens_cp, hl3]) rfl (sA rfl trivial)))) (live_of ⟨⟨_, _, rfl⟩, ⟨_, _, rfl⟩, ⟨_, _, rfl⟩, trivial⟩) (by simp [ren, rens, sigma, rens_f32, rens_f64, rens_i64, rens_ik, rens_str, rens_cp, hl3]) rfl (K1v_ok e9 e10 a5 L2 r11 hf9) rfl (news_of trivial) (show List.Nodup [0, 1, 2] from by decide) (by simp [ren, rens, sigma, of_decide_eq_true hn10]) (by simp [backOb, sigma, ren, rens, rens_f32, rens_f64, rens_i64, rens_ik, rens_str, rens_cp, hl3, of_decide_eq_true hn10] <;> omega)<|zN ?_
   refine RunC.wl (τ' := [(1, i64 a4), (2, fn (.func 125) [] [optr 0 0 0, optr 1 0 0]), (3, ptr (z036 a0 a1 a2 a3)), (6, i64 v4)]) (Γ' := [⟨0, some [i64 a5]⟩, (z037 a6), oF 0 r11]) ⟨aR, aR, aR, aR, trivial⟩ ⟨dR, dR, dR, trivial⟩ ?_
   obtain ⟨x12, hx11, h2_⟩ := oL h2_
   refine yW<|ym rfl (i64 v4)<|yl rfl (i64 x12) (LOp.eqr (LOp.add rfl rfl rfl) (congrArg (ik .i64) hx11))<|ya rfl (i64 x12)<|zN ?_
   cases oI h2_
   exact ⟨_, rfl, (of_decide_eq_true hn10), ⟨aR, aR, aR, aR, trivial⟩, ⟨dR, dR, dR, trivial⟩⟩
  ·refine yW<|ym rfl (i64 v4)<|yl rfl (ptr [sl a1.length (a1.map i64), sl a2.length (a2.map i64), (sFc a3)]) (LOp.fap und30 rfl siz22 rfl rfl rfl)<|yl rfl (sl a1.length (a1.map i64)) (n2 agg22)<|ym rfl (i64 a4)<|yl rfl (i64 x5) (LOp.eqr (LOp.add rfl rfl rfl) (congrArg (ik .i64) hx2))<|yl rfl (ptr [i64 e6]) (LOp.le (LOp.ix (f := i64) und22 siz2 rfl rfl rfl rfl he3) ALe.ptr)<|yl rfl (i64 e6) (n2 agg2)<|yl rfl (b false) (LOp.eqb (LOp.lss rfl rfl rfl) hc4)<|zN ?_
   refine yF<|RunC.exit ?_
   cases oI h2_
   have hx := ho2 _ rfl
   exact ⟨L2, hl3, trivial, ⟨dR, dR, dR, trivial⟩, hx⟩
 ·rintro τ3 Γ3 ⟨L13, hl14, hw3, hd3, rfl⟩
  replace h : K1w_k1 L13 = some q0 := h
  unfold K1w_k1 at h
  refine bodyQ.wl hw3 hd3 ?_
  have hq := oI h
  subst q0
  exact yB (tup []) [(0, 0), (1, 0), (2, 0)] (Res.zero rfl) (SelL.cells rfl (by first | rfl | simp [ren, rens, sigma, rens_f32, rens_f64, rens_i64, rens_ik, rens_str, rens_cp]) rfl (SelL.cells rfl (by first | rfl | simp [ren, rens, sigma, rens_f32, rens_f64, rens_i64, rens_ik, rens_str, rens_cp]) rfl (SelL.arr (f := f32) (fun _ => rfl) rfl trivial)))

def K1x (a0 : List F) : Option ((Bool × (List F)) ⊕ (Bool × (List F) × (List F))) :=
 obind (K0v a0) fun (r1 : Bool) =>
 bsel r1 (
  some (Sum.inl (true, a0))) (
  some (Sum.inr (false, a0, ([] : List F))))
theorem K1x_ok0 (a0 : List F) (q0 : Bool) (q1 : List F) (h : K1x a0 = some (Sum.inl (q0, q1))) : Ev Try.prog 101 [oref 0 0 0 a0.length] [oF 0 a0] (tup [oref 0 0 0 q1.length, b q0]) [oF 0 q1] := by
 refine Ev.start Try.func101 rfl rfl 1 (τ := [(0, oref 0 0 0 a0.length)]) rfl (Γ' := [oF 0 a0, o0]) rfl (n := 16) rfl (g := 1) rfl (by decide) ?_
 unfold K1x at h
 refine zQ<|ya rfl nilsl<|ya rfl (b false)<|zN ?_
 refine yS<|yS ?_
 obtain ⟨r1, hf1, h⟩ := oS h
 rcases oB h with ⟨hc2, h⟩ | ⟨hc2, h⟩
 ·refine yW<|ym rfl (oref 0 0 0 a0.length)<|yd rfl (b true) (TOp.eqb (yc ent81 rfl rfl (Bors.cons (Bor.own (f := f32) (fun _ => rfl) rfl rfl) bN) (K0v_ok a0 r1 hf1)) hc2)<|yl rfl (b false) n1<|zN ?_
  refine yF<|RunC.skip<|zQ<|ym rfl (oref 0 0 0 a0.length)<|ya rfl (oref 0 0 0 a0.length)<|ya rfl (b true)<|zN ?_
  refine RunC.ret ?_
  have hq := oI h
  have hq := Sum.inl.inj hq
  obtain ⟨hq0, hq⟩ := Prod.mk.inj hq
  subst q0
  subst q1
  exact yB (tup [oref 0 0 0 a0.length, b true]) [(0, 0)] (Res.two rfl (RV.tmp rfl) (RV.tmp rfl)) (SelL.arr (f := f32) (fun _ => rfl) rfl trivial)
 ·refine yW<|ym rfl (oref 0 0 0 a0.length)<|yd rfl (b false) (TOp.eqb (yc ent81 rfl rfl (Bors.cons (Bor.own (f := f32) (fun _ => rfl) rfl rfl) bN) (K0v_ok a0 r1 hf1)) hc2)<|yl rfl (b true) n0<|zN ?_
  refine yT<|zQ<|ya rfl nilsl<|ya rfl (b false)<|zN ?_
  cases oI h
theorem K1x_ok1 (a0 : List F) (q0 : Bool) (q1 : List F) (q2 : List F) (h : K1x a0 = some (Sum.inr (q0, q1, q2))) : Ev Try.prog 101 [oref 0 0 0 a0.length] [oF 0 a0] (tup [oref 1 0 0 q2.length, b q0]) [oF 0 q1, oF 0 q2] := by
 refine Ev.start Try.func101 rfl rfl 1 (τ := [(0, oref 0 0 0 a0.length)]) rfl (Γ' := [oF 0 a0, o0]) rfl (n := 16) rfl (g := 1) rfl (by decide) ?_
 unfold K1x at h
 refine zQ<|ya rfl nilsl<|ya rfl (b false)<|zN ?_
 refine yS<|yS ?_
 obtain ⟨r1, hf1, h⟩ := oS h
 rcases oB h with ⟨hc2, h⟩ | ⟨hc2, h⟩
 ·refine yW<|ym rfl (oref 0 0 0 a0.length)<|yd rfl (b true) (TOp.eqb (yc ent81 rfl rfl (Bors.cons (Bor.own (f := f32) (fun _ => rfl) rfl rfl) bN) (K0v_ok a0 r1 hf1)) hc2)<|yl rfl (b false) n1<|zN ?_
  refine yF<|RunC.skip<|zQ<|ym rfl (oref 0 0 0 a0.length)<|ya rfl (oref 0 0 0 a0.length)<|ya rfl (b true)<|zN ?_
  cases oI h
 ·refine yW<|ym rfl (oref 0 0 0 a0.length)<|yd rfl (b false) (TOp.eqb (yc ent81 rfl rfl (Bors.cons (Bor.own (f := f32) (fun _ => rfl) rfl rfl) bN) (K0v_ok a0 r1 hf1)) hc2)<|yl rfl (b true) n0<|zN ?_
  refine yT<|zQ<|ya rfl nilsl<|ya rfl (b false)<|zN ?_
  refine RunC.nil_slot (Γ' := [oF 0 a0, oF 1 []]) 2 1 rfl rfl rfl<|RunC.ret ?_
  have hq := oI h
  have hq := Sum.inr.inj hq
  obtain ⟨hq0, hq⟩ := Prod.mk.inj hq
  obtain ⟨hq1, hq⟩ := Prod.mk.inj hq
  subst q0
  subst q1
  subst q2
  exact yB (tup [oref 1 1 0 (([] : List F).length), b false]) [(0, 0), (1, 1)] (Res.eq (Res.two rfl (RV.tmp rfl) (RV.tmp rfl)) (by first | rfl | (rw [(show ([] : List F).length = 0 from rfl)] <;> rfl))) (SelL.arr (f := f32) (fun _ => rfl) rfl (sA rfl trivial))

def K1y_b1 (a0 : Int) (a1 : List Int) (a2 : List Int) (a3 : List F) (r3 : List F) (L5 : List F) (v7 : Int) : Option (LR ((List F) × Int) ((List F)) (Bool × (List F))) :=
 bsel (decide (v7 < a0)) (
  obind (K1t a0 a1 a2 a3 v7 v7 L5) fun (r8 : List F) =>
  need (decide (r8.length = r3.length)) <|
  obind (at? r8 v7) fun (e9 : F) =>
  obind (K1u v7 a0 a1 a2 a3) fun (r10 : F) =>
  olet (fop .quo .f32 e9 r10) fun (x11 : F) =>
  obind (setAt? r8 v7 x11) fun (L12 : List F) =>
  olet (IntKind.i64.wrap (v7 + 1)) fun (x13 : Int) =>
  some (LR.next (L12, x13))) (
  some (LR.out L5))
def K1y_s1 (a0 : Int) (a1 : List Int) (a2 : List Int) (a3 : List F) (r3 : List F) : ((List F) × Int) → Option (LR ((List F) × Int) ((List F)) (Bool × (List F))) := fun s => K1y_b1 a0 a1 a2 a3 r3 s.1 s.2
def K1y_b2 (a0 : Int) (a1 : List Int) (a2 : List Int) (a3 : List F) (r3 : List F) (L19 : List F) (v21 : Int) : Option (LR ((List F) × Int) ((List F)) (Bool × (List F))) :=
 bsel (decide (0 ≤ v21)) (
  obind (at? L19 v21) fun (e22 : F) =>
  obind (K1u v21 a0 a1 a2 a3) fun (r23 : F) =>
  olet (fop .quo .f32 e22 r23) fun (x24 : F) =>
  obind (setAt? L19 v21 x24) fun (L25 : List F) =>
  obind (K1w a0 a1 a2 a3 v21 v21 L25) fun (r26 : List F) =>
  need (decide (r26.length = r3.length)) <|
  olet (IntKind.i64.wrap (v21 - 1)) fun (x27 : Int) =>
  some (LR.next (r26, x27))) (
  some (LR.out L19))
def K1y_s2 (a0 : Int) (a1 : List Int) (a2 : List Int) (a3 : List F) (r3 : List F) : ((List F) × Int) → Option (LR ((List F) × Int) ((List F)) (Bool × (List F))) := fun s => K1y_b2 a0 a1 a2 a3 r3 s.1 s.2
def K1y_k2 (r3 : List F) (L29 : List F) : Option (Bool × (List F)) :=
 obind (K1x L29) (fun z => osum z (fun y => obind2 (some y) fun (r31 : Bool) (r32 : List F) =>
  need (decide (r32.length = r3.length)) <|
  some (r31, r32)) (fun y => obind3 (some y) fun (r33 : Bool) (r34 : List F) (r35 : List F) =>
  need (decide (r34.length = r3.length)) <|
  some (r33, r35)))
def K1y_k1 (a0 : Int) (a1 : List Int) (a2 : List Int) (a3 : List F) (r3 : List F) (L15 : List F) : Option (Bool × (List F)) :=
 olet (IntKind.i64.wrap (a0 - 1)) fun (x17 : Int) =>
 obind (loopM (K1y_s2 a0 a1 a2 a3 r3) (L15, x17)) fun z => osum z (fun e => K1y_k2 r3 e) (fun r => some r)
def K1y (a0 : Int) (a1 : List Int) (a2 : List Int) (a3 : List F) (a4 : List F) : Option (Bool × (List F)) :=
 obind (K1n a0 a1 a2 a3) fun (r1 : Bool) =>
 bsel r1 (
  obind (K1q a0 a1 a2 a3 a4) fun (r2 : Bool) =>
  bsel r2 (
   obind (K1r a4) fun (r3 : List F) =>
   obind (loopM (K1y_s1 a0 a1 a2 a3 r3) (r3, 0)) fun z => osum z (fun e => K1y_k1 a0 a1 a2 a3 r3 e) (fun r => some r)) (
   some (false, ([] : List F)))) (
  some (false, ([] : List F)))
abbrev z038 (a0 : Int) (a1 : List Int) (a2 : List Int) (a3 : List F) : List AV := [i64 a0, sl a1.length (a1.map i64), sl a2.length (a2.map i64), (sFc a3)]
abbrev z039 (r3 : List F) : Ob := ⟨1, some [oref 0 1 0 r3.length]⟩
theorem K1y_ok (a0 : Int) (a1 : List Int) (a2 : List Int) (a3 : List F) (a4 : List F) (q0 : Bool) (q1 : List F) (h : K1y a0 a1 a2 a3 a4 = some (q0, q1)) : Ev Try.prog 47 [agg [i64 a0, sl a1.length (a1.map i64), sl a2.length (a2.map i64), (sFc a3)], (sFc a4)] [] (tup [oref 0 0 0 q1.length, b q0]) [oF 0 q1] := by
 refine yE Try.func47 3 133 0 ([(0, agg (z038 a0 a1 a2 a3)), (1, (sFc a4))]) [o0, o0, o0] rfl ?_
 unfold K1y at h
 refine zQ<|yd rfl (ptr (z038 a0 a1 a2 a3)) (TOp.box_s rfl rfl rfl)<|ya rfl nilsl<|ya rfl (b false)<|zN ?_
 refine yS<|yS ?_
 obtain ⟨r1, hf1, h⟩ := oS h
 rcases oB h with ⟨hc2, h⟩ | ⟨hc2, h⟩
 ·obtain ⟨r2, hf3, h⟩ := oS h
  rcases oB h with ⟨hc4, h⟩ | ⟨hc4, h⟩
  ·refine yW<|yl rfl (agg (z038 a0 a1 a2 a3)) (yL agg30 siz30)<|yd rfl (b true) (TOp.eqb (TOp.callB (CallAs.func ent121 rfl rfl) (Bors.cons (Bor.agg (bP (bS (bS (bS bN))))) bN) rfl rfl (K1n_ok a0 a1 a2 a3 r1 hf1)) hc2)<|yl rfl (b false) n1<|ym rfl (b false)<|yl rfl (agg (z038 a0 a1 a2 a3)) (yL agg30 siz30)<|ym rfl (sFc a4)<|yd rfl (b true) (TOp.eqb (TOp.callB (CallAs.func ent80 rfl rfl) (Bors.cons (Bor.agg (bP (bS (bS (bS bN))))) (bS bN)) rfl rfl (K1q_ok a0 a1 a2 a3 a4 r2 hf3)) hc4)<|yl rfl (b false) n1<|yl rfl (b false) yp<|zN ?_
   refine yF<|RunC.skip<|yS ?_
   obtain ⟨r3, hf5, h⟩ := oS h
   refine yW<|ym rfl (sFc a4)<|ye rfl (oref 0 1 0 r3.length) [oF 1 r3, o0, o0] (TOp.callBN (ls := [(r3.map f32)]) [0] (CallAs.func ent122 rfl rfl) (bS bN) rfl (K1r_ok a4 r3 hf5) (and_all (lts0_map (f := f32) (fun _ => rfl) _) rfl) (and_all (noss_map (f := f32) (fun _ => rfl) _) rfl) rfl (by decide) (ns_of ⟨⟨_, rfl⟩, trivial⟩))<|yl rfl (fn (.func 123) [] [ptr (z038 a0 a1 a2 a3)]) (LOp.makeFunc rfl rfl)<|ye rfl (optr 1 1 0) ([oF 1 r3, ⟨1, some [nilsl]⟩, o0]) (TOp.alloc_o (g := o0) 1 rfl zer23 zok23 rfl)<|ys (oref 0 1 0 r3.length) [oref 0 1 0 r3.length] ([oF 1 r3, (z039 r3), o0]) siz23<|ya rfl (fn (.func 123) [] [ptr (z038 a0 a1 a2 a3)])<|zN ?_
   refine RunC.wl (τ' := [(2, ptr (z038 a0 a1 a2 a3)), (6, optr 1 1 0), (7, fn (.func 123) [] [ptr (z038 a0 a1 a2 a3)])]) (Γ' := [oF 1 r3, (z039 r3), o0]) ⟨aR, aR, aR, trivial⟩ ⟨dR, dR, dR, trivial⟩<|yS<|zQ<|yl rfl (ptr (z038 a0 a1 a2 a3)) (LOp.fap und30 rfl siz2 rfl rfl rfl)<|yl rfl (i64 a0) (n2 agg2)<|ym rfl (i64 0)<|zN ?_
   obtain ⟨z3, hz_3, h⟩ := oS h
   refine RunC.cutN (fun τ Γ => ∃ (L15 : List F) (u14 : Nat), L15.length = r3.length ∧ WeakLe τ [(2, ptr (z038 a0 a1 a2 a3)), (6, optr 1 1 0), (7, fn (.func 123) [] [ptr (z038 a0 a1 a2 a3)])] ∧ DeadLe Γ [oF 1 L15, (z039 r3), ⟨u14, none⟩] ∧ z3 = .inl L15) ?_ ?_
   ·refine RunC.block (RunC.loop (RunL.loopM (x := z3) (K1y_s1 a0 a1 a2 a3 r3) (fun (s : (List F) × Int) τ Γ => ∃ (u4 : Nat), s.1.length = r3.length ∧ WeakLe τ [(2, ptr (z038 a0 a1 a2 a3)), (6, optr 1 1 0), (7, fn (.func 123) [] [ptr (z038 a0 a1 a2 a3)]), (23, i64 a0), (24, i64 s.2)] ∧ DeadLe Γ [⟨1, some (s.1.map f32)⟩, (z039 r3), ⟨u4, none⟩]) ?_ _ _ _ hz_3 ⟨0, rfl, ⟨aR, aR, aR, aR, aR, trivial⟩, ⟨dR, dR, dL, trivial⟩⟩))
    rintro ⟨L5, v7⟩ τ3 Γ3 y3_ ⟨u4, hl6, hw3, hd3⟩ h3_ ho3 hr3
    refine RunC.wl (τ' := [(2, ptr (z038 a0 a1 a2 a3)), (6, optr 1 1 0), (7, fn (.func 123) [] [ptr (z038 a0 a1 a2 a3)]), (23, i64 a0), (24, i64 v7)]) (Γ' := [oF 1 L5, (z039 r3), ⟨u4, none⟩]) hw3 hd3 ?_
    replace hl6 : L5.length = r3.length := hl6
    replace h3_ : K1y_b1 a0 a1 a2 a3 r3 L5 v7 = some y3_ := h3_
    unfold K1y_b1 at h3_
    refine yS ?_
    rcases oB h3_ with ⟨hc6, h3_⟩ | ⟨hc6, h3_⟩
    ·refine yW<|yl rfl (b true) (LOp.eqb (LOp.lss rfl rfl rfl) hc6)<|zN ?_
     refine yS<|yT<|RunC.skip<|yS<|RunC.block<|zQ<|ym rfl (i64 v7)<|ye rfl (optr 2 (u4 + 1) 0) ([oF 1 L5, (z039 r3), ⟨(u4 + 1), some [i64 0]⟩]) (TOp.alloc_o (g := ⟨u4, none⟩) 2 rfl zer2 zok2 rfl)<|ys (i64 v7) [i64 v7] ([oF 1 L5, (z039 r3), ⟨(u4 + 1), some [i64 v7]⟩]) siz2<|zN ?_
     refine yS ?_
     obtain ⟨r8, hf7, h3_⟩ := oS h3_
     obtain ⟨hn8, h3_⟩ := need_some h3_
     refine yW<|yl rfl (agg (z038 a0 a1 a2 a3)) (yL agg30 siz30)<|yd rfl (i64 v7) (TOp.load1_o rfl rfl agg2 rfl rfl)<|yl rfl (fn (.func 124) [] [optr 2 (u4 + 1) 0, optr 1 1 0]) (LOp.makeFunc rfl rfl)<|ROps.callO (A := [agg (z038 a0 a1 a2 a3), i64 v7, fn (.func 124) [] [optr 2 (u4 + 1) 0, optr 1 1 0]]) (args := [agg (z038 a0 a1 a2 a3), i64 v7, fn (.func 124) [] [optr 0 0 0, optr 1 0 0]]) (Γc := [⟨0, some [i64 v7]⟩, ⟨0, some [oref 2 0 0 L5.length]⟩, oF 0 L5]) (Γc' := [⟨0, some [i64 v7]⟩, ⟨0, some [oref 2 0 0 L5.length]⟩, oF 0 r8]) (r' := tup []) (Γ' := [oF 1 r8, (z039 r3), ⟨(u4 + 1), some [i64 v7]⟩]) [(2, (u4 + 1)), (1, 1), (0, 1)] [] rfl (CallAs.func ent84 rfl rfl) rfl rfl (SelOk.of (show List.Nodup [2, 1, 0] from by decide) (SelL.cells0 rfl (by simp [ren, rens, sigma, rens_f32, rens_f64, rens_i64, rens_ik, rens_str, rens_cp, hl6]) rfl (SelL.cells0 rfl (by simp [ren, rens, sigma, rens_f32, rens_f64, rens_i64, rens_ik, rens_str, rens_cp, hl6]) rfl (sA rfl trivial)))) (live_of ⟨⟨_, _, rfl⟩, ⟨_, _, rfl⟩, ⟨_, _, rfl⟩, trivial⟩) (by simp [ren, rens, sigma, rens_f32, rens_f64, rens_i64, rens_ik, rens_str, rens_cp, hl6]) (lts_cons (lt_agg (lts_cons rfl (lts_cons (lt_slk (fun _ => rfl)) (lts_cons (lt_slk (fun _ => rfl)) (lts_cons (lt_slk (fun _ => rfl)) lts_nil))))) (lts_cons rfl (lts_cons rfl lts_nil))) (K1t_ok a0 a1 a2 a3 v7 v7 L5 r8 hf7) rfl (news_of trivial) (show List.Nodup [2, 1, 0] from by decide) (by simp [ren, rens, sigma, of_decide_eq_true hn8]) (by simp [backOb, sigma, ren, rens, rens_f32, rens_f64, rens_i64, rens_ik, rens_str, rens_cp, hl6, of_decide_eq_true hn8] <;> omega)<|zN ?_
     obtain ⟨e9, he9, h3_⟩ := oS h3_
     obtain ⟨r10, hf10, h3_⟩ := oS h3_
     obtain ⟨x11, hx11, h3_⟩ := oL h3_
     obtain ⟨L12, he12, h3_⟩ := oS h3_
     refine RunC.region_draw (Γ' := [oF 1 r8, (z039 r3), ⟨(u4 + 1), some [i64 v7]⟩]) 9 mixed 
      (TR.d (r := oref 0 1 0 r3.length) (fs := []) rfl rfl (TOp.load1_o rfl rfl agg23 rfl rfl) <|
      (TR.d (r := i64 v7) (fs := []) rfl rfl (TOp.load1_o rfl rfl agg2 rfl rfl) <|
      (TR.d (r := optr 0 1 v7.toNat) (fs := []) rfl rfl (TOp.ixo und23 siz26 rfl rfl rfl (at_in he9 (of_decide_eq_true hn8)) rfl) <|
      (TR.d (r := f32 e9) (fs := []) rfl rfl (TOp.load1_o rfl (at_cell he9) agg26 rfl rfl) <|
      (tm rfl (fn (.func 123) [] [ptr (z038 a0 a1 a2 a3)]) <|
      (TR.d (r := i64 v7) (fs := []) rfl rfl (TOp.load1_o rfl rfl agg2 rfl rfl) <|
      (TR.d (r := f32 r10) (fs := []) rfl rfl (TOp.callB (CallAs.fn ent123 rfl rfl rfl rfl) (bP (Bors.cons (Bor.ptr (bP (bS (bS (bS bN))))) bN)) rfl rfl (K1u_ok v7 a0 a1 a2 a3 r10 hf10)) <|
      (TR.d (r := f32 x11) (fs := []) rfl rfl (TOp.eqr (TOp.fop (.inr (.inr (.inr rfl))) rfl (OpF.tmp rfl) (OpF.tmp rfl)) (congrArg (f .f32) hx11)) <|
      (TR.d (r := optr 0 1 v7.toNat) (fs := []) rfl rfl (TOp.ixo und23 siz26 rfl rfl rfl (set_in he12 (of_decide_eq_true hn8)) rfl) <|
      TR.nil))))))))) rfl (by kernel_rfl) rfl fills_nil rfl ?_
     iterate 9 refine ROps.dropS ?_
     refine ROps.drop0<|ROps.st (f := f32) (i := v7) (Γ' := [oF 1 L12, (z039 r3), ⟨(u4 + 1), some [i64 v7]⟩]) rfl siz26 rfl rfl rfl aR rfl rfl rfl he12 rfl<|zN ?_
     refine RunC.wl (τ' := [(2, ptr (z038 a0 a1 a2 a3)), (6, optr 1 1 0), (7, fn (.func 123) [] [ptr (z038 a0 a1 a2 a3)]), (23, i64 a0), (24, i64 v7)]) (Γ' := [oF 1 L12, (z039 r3), ⟨(u4 + 1), none⟩]) ⟨aR, aR, aR, aR, aR, trivial⟩ ⟨dR, dR, dL, trivial⟩ ?_
     obtain ⟨x13, hx13, h3_⟩ := oL h3_
     refine yW<|yl rfl (i64 x13) (LOp.eqr (LOp.add rfl rfl rfl) (congrArg (ik .i64) hx13))<|ym rfl (i64 x13)<|zN ?_
     cases oI h3_
     exact ⟨_, rfl, (u4 + 1), ((setAt?_len he12).trans (of_decide_eq_true hn8)), ⟨aR, aR, aR, aR, aR, trivial⟩, ⟨dR, dR, dL, trivial⟩⟩
    ·refine yW<|yl rfl (b false) (LOp.eqb (LOp.lss rfl rfl rfl) hc6)<|zN ?_
     refine yS<|yF<|RunC.exit ?_
     cases oI h3_
     have hx := ho3 _ rfl
     exact ⟨L5, u4, hl6, ⟨aR, aR, aR, trivial⟩, ⟨dR, dR, dL, trivial⟩, hx⟩
   ·rintro τ4 Γ4 ⟨L15, u14, hl16, hw4, hd4, rfl⟩
    refine RunC.wl hw4 hd4 ?_
    replace h : K1y_k1 a0 a1 a2 a3 r3 L15 = some (q0, q1) := h
    unfold K1y_k1 at h
    refine yS<|yS ?_
    obtain ⟨x17, hx14, h⟩ := oL h
    refine yW<|yl rfl (ptr (z038 a0 a1 a2 a3)) (LOp.fap und30 rfl siz2 rfl rfl rfl)<|yl rfl (i64 a0) (n2 agg2)<|yl rfl (i64 x17) (LOp.eqr (LOp.sub rfl rfl rfl) (congrArg (ik .i64) hx14))<|ye rfl (optr 2 (u14 + 1) 0) ([oF 1 L15, (z039 r3), ⟨(u14 + 1), some [i64 0]⟩]) (TOp.alloc_o (g := ⟨u14, none⟩) 2 rfl zer2 zok2 rfl)<|ys (i64 x17) [i64 x17] ([oF 1 L15, (z039 r3), ⟨(u14 + 1), some [i64 x17]⟩]) siz2<|zN ?_
    obtain ⟨z5, hz_5, h⟩ := oS h
    refine RunC.cutN (fun τ Γ => ∃ (L29 : List F) (u28 : Nat), L29.length = r3.length ∧ WeakLe τ [(6, optr 1 1 0)] ∧ DeadLe Γ [oF 1 L29, (z039 r3), ⟨u28, none⟩] ∧ z5 = .inl L29) ?_ ?_
    ·refine RunC.block (RunC.loop (RunL.loopM (x := z5) (K1y_s2 a0 a1 a2 a3 r3) (fun (s : (List F) × Int) τ Γ => ∃ (u18 : Nat), s.1.length = r3.length ∧ WeakLe τ [(2, ptr (z038 a0 a1 a2 a3)), (6, optr 1 1 0), (7, fn (.func 123) [] [ptr (z038 a0 a1 a2 a3)]), (9, optr 2 u18 0)] ∧ DeadLe Γ [⟨1, some (s.1.map f32)⟩, (z039 r3), ⟨u18, some [i64 s.2]⟩]) ?_ _ _ _ hz_5 ⟨(u14 + 1), hl16, ⟨aR, aR, aR, aR, trivial⟩, ⟨dR, dR, dR, trivial⟩⟩))
     rintro ⟨L19, v21⟩ τ5 Γ5 y5_ ⟨u18, hl20, hw5, hd5⟩ h5_ ho5 hr5
     refine RunC.wl (τ' := [(2, ptr (z038 a0 a1 a2 a3)), (6, optr 1 1 0), (7, fn (.func 123) [] [ptr (z038 a0 a1 a2 a3)]), (9, optr 2 u18 0)]) (Γ' := [oF 1 L19, (z039 r3), ⟨u18, some [i64 v21]⟩]) hw5 hd5 ?_
     replace hl20 : L19.length = r3.length := hl20
     replace h5_ : K1y_b2 a0 a1 a2 a3 r3 L19 v21 = some y5_ := h5_
     unfold K1y_b2 at h5_
     refine yS<|yS ?_
     rcases oB h5_ with ⟨hc15, h5_⟩ | ⟨hc15, h5_⟩
     ·refine yW<|yd rfl (i64 v21) (TOp.load1_o rfl rfl agg2 rfl rfl)<|yl rfl (b true) (LOp.eqb (LOp.geq rfl rfl rfl) hc15)<|zN ?_
      refine yT<|RunC.skip<|yS<|RunC.block<|yS ?_
      obtain ⟨e22, he16, h5_⟩ := oS h5_
      obtain ⟨r23, hf17, h5_⟩ := oS h5_
      obtain ⟨x24, hx18, h5_⟩ := oL h5_
      obtain ⟨L25, he19, h5_⟩ := oS h5_
      refine RunC.region_draw (Γ' := [oF 1 L19, (z039 r3), ⟨u18, some [i64 v21]⟩]) 9 mixed 
       (TR.d (r := oref 0 1 0 r3.length) (fs := []) rfl rfl (TOp.load1_o rfl rfl agg23 rfl rfl) <|
       (TR.d (r := i64 v21) (fs := []) rfl rfl (TOp.load1_o rfl rfl agg2 rfl rfl) <|
       (TR.d (r := optr 0 1 v21.toNat) (fs := []) rfl rfl (TOp.ixo und23 siz26 rfl rfl rfl (at_in he16 hl20) rfl) <|
       (TR.d (r := f32 e22) (fs := []) rfl rfl (TOp.load1_o rfl (at_cell he16) agg26 rfl rfl) <|
       (tm rfl (fn (.func 123) [] [ptr (z038 a0 a1 a2 a3)]) <|
       (TR.d (r := i64 v21) (fs := []) rfl rfl (TOp.load1_o rfl rfl agg2 rfl rfl) <|
       (TR.d (r := f32 r23) (fs := []) rfl rfl (TOp.callB (CallAs.fn ent123 rfl rfl rfl rfl) (bP (Bors.cons (Bor.ptr (bP (bS (bS (bS bN))))) bN)) rfl rfl (K1u_ok v21 a0 a1 a2 a3 r23 hf17)) <|
       (TR.d (r := f32 x24) (fs := []) rfl rfl (TOp.eqr (TOp.fop (.inr (.inr (.inr rfl))) rfl (OpF.tmp rfl) (OpF.tmp rfl)) (congrArg (f .f32) hx18)) <|
       (TR.d (r := optr 0 1 v21.toNat) (fs := []) rfl rfl (TOp.ixo und23 siz26 rfl rfl rfl (set_in he19 hl20) rfl) <|
       TR.nil))))))))) rfl (by kernel_rfl) rfl fills_nil rfl ?_
      iterate 9 refine ROps.dropS ?_
      refine ROps.drop0<|ROps.st (f := f32) (i := v21) (Γ' := [oF 1 L25, (z039 r3), ⟨u18, some [i64 v21]⟩]) rfl siz26 rfl rfl rfl aR rfl rfl rfl he19 rfl<|zN ?_
      obtain ⟨r26, hf20, h5_⟩ := oS h5_
      obtain ⟨hn21, h5_⟩ := need_some h5_
      refine yW<|yl rfl (agg (z038 a0 a1 a2 a3)) (yL agg30 siz30)<|yd rfl (i64 v21) (TOp.load1_o rfl rfl agg2 rfl rfl)<|yl rfl (fn (.func 125) [] [optr 2 u18 0, optr 1 1 0]) (LOp.makeFunc rfl rfl)<|ROps.callO (A := [agg (z038 a0 a1 a2 a3), i64 v21, fn (.func 125) [] [optr 2 u18 0, optr 1 1 0]]) (args := [agg (z038 a0 a1 a2 a3), i64 v21, fn (.func 125) [] [optr 0 0 0, optr 1 0 0]]) (Γc := [⟨0, some [i64 v21]⟩, ⟨0, some [oref 2 0 0 L25.length]⟩, oF 0 L25]) (Γc' := [⟨0, some [i64 v21]⟩, ⟨0, some [oref 2 0 0 L25.length]⟩, oF 0 r26]) (r' := tup []) (Γ' := [oF 1 r26, (z039 r3), ⟨u18, some [i64 v21]⟩]) [(2, u18), (1, 1), (0, 1)] [] rfl (CallAs.func ent84 rfl rfl) rfl rfl (SelOk.of (show List.Nodup [2, 1, 0] from by decide) (SelL.cells0 rfl (by simp [ren, rens, sigma, rens_f32, rens_f64, rens_i64, rens_ik, rens_str, rens_cp, ((setAt?_len he19).trans hl20)]) rfl (SelL.cells0 rfl (by simp [ren, rens, sigma, rens_f32, rens_f64, rens_i64, rens_ik, rens_str, rens_cp, ((setAt?_len he19).trans hl20)]) rfl (sA rfl trivial)))) (live_of ⟨⟨_, _, rfl⟩, ⟨_, _, rfl⟩, ⟨_, _, rfl⟩, trivial⟩) (by simp [ren, rens, sigma, rens_f32, rens_f64, rens_i64, rens_ik, rens_str, rens_cp, ((setAt?_len he19).trans hl20)]) (lts_cons (lt_agg (lts_cons rfl (lts_cons (lt_slk (fun _ => rfl)) (lts_cons (lt_slk (fun _ => rfl)) (lts_cons (lt_slk (fun _ => rfl)) lts_nil))))) (lts_cons rfl (lts_cons rfl lts_nil))) (K1w_ok a0 a1 a2 a3 v21 v21 L25 r26 hf20) rfl (news_of trivial) (show List.Nodup [2, 1, 0] from by decide) (by simp [ren, rens, sigma, of_decide_eq_true hn21]) (by simp [backOb, sigma, ren, rens, rens_f32, rens_f64, rens_i64, rens_ik, rens_str, rens_cp, ((setAt?_len he19).trans hl20), of_decide_eq_true hn21] <;> omega)<|zN ?_
      refine RunC.wl (τ' := [(2, ptr (z038 a0 a1 a2 a3)), (6, optr 1 1 0), (7, fn (.func 123) [] [ptr (z038 a0 a1 a2 a3)]), (9, optr 2 u18 0)]) (Γ' := [oF 1 r26, (z039 r3), ⟨u18, some [i64 v21]⟩]) ⟨aR, aR, aR, aR, trivial⟩ ⟨dR, dR, dR, trivial⟩<|yS<|zQ<|yd rfl (i64 v21) (TOp.load1_o rfl rfl agg2 rfl rfl)<|zN ?_
      refine RunC.wl (τ' := [(2, ptr (z038 a0 a1 a2 a3)), (6, optr 1 1 0), (7, fn (.func 123) [] [ptr (z038 a0 a1 a2 a3)]), (61, i64 v21)]) (Γ' := [oF 1 r26, (z039 r3), ⟨u18, none⟩]) ⟨aR, aR, aR, aR, trivial⟩ ⟨dR, dR, dL, trivial⟩<|yW<|ye rfl (optr 2 (u18 + 1) 0) ([oF 1 r26, (z039 r3), ⟨(u18 + 1), some [i64 0]⟩]) (TOp.alloc_o (g := ⟨u18, none⟩) 2 rfl zer2 zok2 rfl)<|ys (i64 v21) [i64 v21] ([oF 1 r26, (z039 r3), ⟨(u18 + 1), some [i64 v21]⟩]) siz2<|zN ?_
      obtain ⟨x27, hx22, h5_⟩ := oL h5_
      refine yW<|yd rfl (i64 v21) (TOp.load1_o rfl rfl agg2 rfl rfl)<|yl rfl (i64 x27) (LOp.eqr (LOp.sub rfl rfl rfl) (congrArg (ik .i64) hx22))<|ys (i64 x27) [i64 x27] ([oF 1 r26, (z039 r3), ⟨(u18 + 1), some [i64 x27]⟩]) siz2<|zN ?_
      cases oI h5_
      exact ⟨_, rfl, (u18 + 1), (of_decide_eq_true hn21), ⟨aR, aR, aR, aR, trivial⟩, ⟨dR, dR, dR, trivial⟩⟩
     ·refine yW<|yd rfl (i64 v21) (TOp.load1_o rfl rfl agg2 rfl rfl)<|yl rfl (b false) (LOp.eqb (LOp.geq rfl rfl rfl) hc15)<|zN ?_
      refine yF<|RunC.exit ?_
      cases oI h5_
      have hx := ho5 _ rfl
      exact ⟨L19, u18, hl20, ⟨aR, trivial⟩, ⟨dR, dR, dL, trivial⟩, hx⟩
    ·rintro τ6 Γ6 ⟨L29, u28, hl30, hw6, hd6, rfl⟩
     refine RunC.wl hw6 hd6 ?_
     replace h : K1y_k2 r3 L29 = some (q0, q1) := h
     unfold K1y_k2 at h
     refine yS ?_
     obtain ⟨z7, hf23, h⟩ := oS h
     rcases z7 with z7 | z7
     ·replace h := (osum_inl _ _ _).symm.trans h
      obtain ⟨r31, r32, hz8, h⟩ := obind2_some h
      cases hz8
      obtain ⟨hn24, h⟩ := need_some h
      refine yW<|yd rfl (oref 0 1 0 r3.length) (TOp.load1_o rfl rfl agg23 rfl rfl)<|ROps.callO (A := [oref 0 1 0 r3.length]) (args := [oref 0 0 0 L29.length]) (Γc := [oF 0 L29]) (Γc' := [oF 0 r32]) (r' := tup [oref 0 1 0 r3.length, b r31]) (Γ' := [oF 1 r32, (z039 r3), ⟨u28, none⟩]) [(0, 1)] [] rfl (CallAs.func ent101 rfl rfl) rfl rfl (SelOk.of (ndB_ok rfl) (sA rfl trivial)) (live_of ⟨⟨_, _, rfl⟩, trivial⟩) (by simp [ren, rens, sigma, rens_f32, rens_f64, rens_i64, rens_ik, rens_str, rens_cp, hl30]) rfl (K1x_ok0 L29 r31 r32 hf23) rfl (news_of trivial) (ndB_ok rfl) (by simp [ren, rens, sigma, of_decide_eq_true hn24]) (by simp [backOb, sigma, ren, rens, rens_f32, rens_f64, rens_i64, rens_ik, rens_str, rens_cp] <;> omega)<|yl rfl (oref 0 1 0 r3.length) n3<|yl rfl (b r31) n3<|ya rfl (oref 0 1 0 r3.length)<|ya rfl (b r31)<|zN ?_
      refine RunC.ret ?_
      have hq := oI h
      obtain ⟨hq0, hq⟩ := Prod.mk.inj hq
      subst q0
      subst q1
      exact yB (tup [oref 0 1 0 r32.length, b r31]) [(0, 1)] (Res.eq (Res.two rfl (RV.tmp rfl) (RV.tmp rfl)) (by first | rfl | (rw [(show r32.length = r3.length from (of_decide_eq_true hn24))] <;> rfl))) (sA rfl trivial)
     ·replace h := (osum_inr _ _ _).symm.trans h
      obtain ⟨r33, r34, r35, hz9, h⟩ := obind3_some h
      cases hz9
      obtain ⟨hn25, h⟩ := need_some h
      refine yW<|yd rfl (oref 0 1 0 r3.length) (TOp.load1_o rfl rfl agg23 rfl rfl)<|ROps.callO (A := [oref 0 1 0 r3.length]) (args := [oref 0 0 0 L29.length]) (Γc := [oF 0 L29]) (Γc' := [oF 0 r34, oF 0 r35]) (r' := tup [oref 2 (u28 + 1) 0 r35.length, b r33]) (Γ' := [oF 1 r34, (z039 r3), oF (u28 + 1) r35]) [(0, 1)] [(2, (u28 + 1))] rfl (CallAs.func ent101 rfl rfl) rfl rfl (SelOk.of (ndB_ok rfl) (sA rfl trivial)) (live_of ⟨⟨_, _, rfl⟩, trivial⟩) (by simp [ren, rens, sigma, rens_f32, rens_f64, rens_i64, rens_ik, rens_str, rens_cp, hl30]) rfl (K1x_ok1 L29 r33 r34 r35 hf23) rfl (news_of ⟨⟨_, rfl, rfl⟩, trivial⟩) (show List.Nodup [0, 2] from by decide) (by simp [ren, rens, sigma, of_decide_eq_true hn25]) (by simp [backOb, sigma, ren, rens, rens_f32, rens_f64, rens_i64, rens_ik, rens_str, rens_cp] <;> omega)<|yl rfl (oref 2 (u28 + 1) 0 r35.length) n3<|yl rfl (b r33) n3<|ya rfl (oref 2 (u28 + 1) 0 r35.length)<|ya rfl (b r33)<|zN ?_
      refine RunC.ret ?_
      have hq := oI h
      obtain ⟨hq0, hq⟩ := Prod.mk.inj hq
      subst q0
      subst q1
      exact bodyQ.mk (r' := tup [oref 2 (u28 + 1) 0 r35.length, b r33]) [(2, (u28 + 1))] (.inr rfl) rfl (show List.Nodup [2] from by decide) (by simp [ren, rens, sigma]) rfl (Res.two rfl (RV.tmp rfl) (RV.tmp rfl)) (sA rfl trivial)
  ·refine yW<|yl rfl (agg (z038 a0 a1 a2 a3)) (yL agg30 siz30)<|yd rfl (b true) (TOp.eqb (TOp.callB (CallAs.func ent121 rfl rfl) (Bors.cons (Bor.agg (bP (bS (bS (bS bN))))) bN) rfl rfl (K1n_ok a0 a1 a2 a3 r1 hf1)) hc2)<|yl rfl (b false) n1<|ym rfl (b false)<|yl rfl (agg (z038 a0 a1 a2 a3)) (yL agg30 siz30)<|ym rfl (sFc a4)<|yd rfl (b false) (TOp.eqb (TOp.callB (CallAs.func ent80 rfl rfl) (Bors.cons (Bor.agg (bP (bS (bS (bS bN))))) (bS bN)) rfl rfl (K1q_ok a0 a1 a2 a3 a4 r2 hf3)) hc4)<|yl rfl (b true) n0<|yl rfl (b true) yp<|zN ?_
   refine yT<|zQ<|ya rfl nilsl<|ya rfl (b false)<|zN ?_
   refine RunC.nil_slot (Γ' := [oF 1 [], o0, o0]) 4 0 rfl rfl rfl<|RunC.ret ?_
   have hq := oI h
   obtain ⟨hq0, hq⟩ := Prod.mk.inj hq
   subst q0
   subst q1
   exact yB (tup [oref 0 1 0 (([] : List F).length), b false]) [(0, 1)] (Res.eq (Res.two rfl (RV.tmp rfl) (RV.tmp rfl)) (by first | rfl | (rw [(show ([] : List F).length = 0 from rfl)] <;> rfl))) (sA rfl trivial)
 ·refine yW<|yl rfl (agg (z038 a0 a1 a2 a3)) (yL agg30 siz30)<|yd rfl (b false) (TOp.eqb (TOp.callB (CallAs.func ent121 rfl rfl) (Bors.cons (Bor.agg (bP (bS (bS (bS bN))))) bN) rfl rfl (K1n_ok a0 a1 a2 a3 r1 hf1)) hc2)<|yl rfl (b true) n0<|ym rfl (b true)<|yR rfl<|yR rfl<|yR rfl<|yR rfl<|yl rfl (b true) yq<|zN ?_
  refine yT<|zQ<|ya rfl nilsl<|ya rfl (b false)<|zN ?_
  refine RunC.nil_slot (Γ' := [oF 1 [], o0, o0]) 4 0 rfl rfl rfl<|RunC.ret ?_
  have hq := oI h
  obtain ⟨hq0, hq⟩ := Prod.mk.inj hq
  subst q0
  subst q1
  exact yB (tup [oref 0 1 0 (([] : List F).length), b false]) [(0, 1)] (Res.eq (Res.two rfl (RV.tmp rfl) (RV.tmp rfl)) (by first | rfl | (rw [(show ([] : List F).length = 0 from rfl)] <;> rfl))) (sA rfl trivial)

def K1z (a0 : Int) (a1 : List Int) (a2 : List Int) (a3 : List F) (a4 : List F) : Option (Bool) :=
 obind (K09 a0 a1 a2 a3) fun (r1 : Bool) =>
 bsel r1 (
  bsel (decide ((a4.length : Int) = a0)) (
   obind (K08 a4) fun (r2 : Bool) =>
   some r2) (
   some false)) (
  some false)
abbrev z03a (a0 : Int) (a1 : List Int) (a2 : List Int) (a3 : List F) : List AV := [i64 a0, sl a1.length (a1.map i64), sl a2.length (a2.map i64), (sFc a3)]
theorem K1z_ok (a0 : Int) (a1 : List Int) (a2 : List Int) (a3 : List F) (a4 : List F) (q0 : Bool) (h : K1z a0 a1 a2 a3 a4 = some q0) : Ev Try.prog 71 [ptr [i64 a0, sl a1.length (a1.map i64), sl a2.length (a2.map i64), (sFc a3)], (sFc a4)] [] (b q0) [] := by
 refine yE Try.func71 0 41 0 ([(0, ptr (z03a a0 a1 a2 a3)), (1, (sFc a4))]) [] rfl ?_
 unfold K1z at h
 refine zQ<|ya rfl (b false)<|zN ?_
 refine yS ?_
 obtain ⟨r1, hf1, h⟩ := oS h
 rcases oB h with ⟨hc2, h⟩ | ⟨hc2, h⟩
 ·rcases oB h with ⟨hc3, h⟩ | ⟨hc3, h⟩
  ·obtain ⟨r2, hf4, h⟩ := oS h
   refine yW<|ym rfl (ptr (z03a a0 a1 a2 a3))<|yd rfl (b true) (TOp.eqb (TOp.callB (CallAs.func ent111 rfl rfl) (Bors.cons (Bor.ptr (bP (bS (bS (bS bN))))) bN) rfl rfl (K09_ok a0 a1 a2 a3 r1 hf1)) hc2)<|ym rfl (b true)<|ym rfl (sFc a4)<|yl rfl (i64 (a4.length : Int)) (LOp.len_sl und23 rfl rfl)<|ym rfl (ptr (z03a a0 a1 a2 a3))<|yl rfl (ptr (z03a a0 a1 a2 a3)) n4<|yl rfl (ptr (z03a a0 a1 a2 a3)) (LOp.fap und30 rfl siz2 rfl rfl rfl)<|yl rfl (i64 a0) (n2 agg2)<|yl rfl (b true) (LOp.eqb (LOp.eql rfl rfl rfl) hc3)<|yl rfl (b true) yq<|ym rfl (b true)<|ym rfl (sFc a4)<|yd rfl (b r2) (yc ent77 rfl rfl (bS bN) (K08_ok a4 r2 hf4))<|yl rfl (b r2) yq<|ya rfl (b r2)<|zN ?_
   refine RunC.ret ?_
   have hq := oI h
   subst q0
   exact bR rfl
  ·refine yW<|ym rfl (ptr (z03a a0 a1 a2 a3))<|yd rfl (b true) (TOp.eqb (TOp.callB (CallAs.func ent111 rfl rfl) (Bors.cons (Bor.ptr (bP (bS (bS (bS bN))))) bN) rfl rfl (K09_ok a0 a1 a2 a3 r1 hf1)) hc2)<|ym rfl (b true)<|ym rfl (sFc a4)<|yl rfl (i64 (a4.length : Int)) (LOp.len_sl und23 rfl rfl)<|ym rfl (ptr (z03a a0 a1 a2 a3))<|yl rfl (ptr (z03a a0 a1 a2 a3)) n4<|yl rfl (ptr (z03a a0 a1 a2 a3)) (LOp.fap und30 rfl siz2 rfl rfl rfl)<|yl rfl (i64 a0) (n2 agg2)<|yl rfl (b false) (LOp.eqb (LOp.eql rfl rfl rfl) hc3)<|yl rfl (b false) yq<|ym rfl (b false)<|yR rfl<|yR rfl<|yl rfl (b false) yp<|ya rfl (b false)<|zN ?_
   refine RunC.ret ?_
   have hq := oI h
   subst q0
   exact bR rfl
 ·refine yW<|ym rfl (ptr (z03a a0 a1 a2 a3))<|yd rfl (b false) (TOp.eqb (TOp.callB (CallAs.func ent111 rfl rfl) (Bors.cons (Bor.ptr (bP (bS (bS (bS bN))))) bN) rfl rfl (K09_ok a0 a1 a2 a3 r1 hf1)) hc2)<|ym rfl (b false)<|yR rfl<|yR rfl<|yR rfl<|yR rfl<|yR rfl<|yR rfl<|yR rfl<|yl rfl (b false) yp<|ym rfl (b false)<|yR rfl<|yR rfl<|yl rfl (b false) yp<|ya rfl (b false)<|zN ?_
  refine RunC.ret ?_
  have hq := oI h
  subst q0
  exact bR rfl

def K20_b2 (a1 : List Int) (a2 : List Int) (a3 : List F) (a4 : List F) (v4 : Int) (y6 : F) (v7 : Int) : Option (LR (F × Int) (F) ((List F))) :=
 olet (IntKind.i64.wrap (v4 + 1)) fun (x8 : Int) =>
 obind (at? a1 x8) fun (e9 : Int) =>
 bsel (decide (v7 < e9)) (
  obind (at? a3 v7) fun (e10 : F) =>
  obind (at? a2 v7) fun (e11 : Int) =>
  obind (at? a4 e11) fun (e12 : F) =>
  olet (fop .mul .f32 e10 e12) fun (x13 : F) =>
  olet (fop .add .f32 y6 x13) fun (x14 : F) =>
  olet (IntKind.i64.wrap (v7 + 1)) fun (x15 : Int) =>
  some (LR.next (x14, x15))) (
  some (LR.out y6))
def K20_s2 (a1 : List Int) (a2 : List Int) (a3 : List F) (a4 : List F) (v4 : Int) : (F × Int) → Option (LR (F × Int) (F) ((List F))) := fun s => K20_b2 a1 a2 a3 a4 v4 s.1 s.2
def K20_k2 (L3 : List F) (v4 : Int) (y16 : F) : Option (LR ((List F) × Int) ((List F)) ((List F))) :=
 need (apok 4 L3.length 1) <|
 olet (IntKind.i64.wrap (v4 + 1)) fun (x17 : Int) =>
 some (LR.next ((L3 ++ ([y16] : List F)), x17))
def K20_b3 (a0 : Int) (a1 : List Int) (a2 : List Int) (a3 : List F) (a4 : List F) (L3 : List F) (v4 : Int) : Option (LR ((List F) × Int) ((List F)) ((List F))) :=
 bsel (decide (v4 < a0)) (
  obind (at? a1 v4) fun (e5 : Int) =>
  obind (loopM (K20_s2 a1 a2 a3 a4 v4) (some 0, e5)) fun z => osum z (fun e => K20_k2 L3 v4 e) (fun r => some (LR.ret r))) (
  some (LR.out L3))
def K20_s3 (a0 : Int) (a1 : List Int) (a2 : List Int) (a3 : List F) (a4 : List F) : ((List F) × Int) → Option (LR ((List F) × Int) ((List F)) ((List F))) := fun s => K20_b3 a0 a1 a2 a3 a4 s.1 s.2
def K20_k3 (L20 : List F) : Option ((List F)) :=
 some L20
def K20 (a0 : Int) (a1 : List Int) (a2 : List Int) (a3 : List F) (a4 : List F) : Option ((List F)) :=
 obind (loopM (K20_s3 a0 a1 a2 a3 a4) (([] : List F), 0)) fun z => osum z (fun e => K20_k3 e) (fun r => some r)
abbrev z03b (a0 : Int) (a1 : List Int) (a2 : List Int) (a3 : List F) : List AV := [i64 a0, sl a1.length (a1.map i64), sl a2.length (a2.map i64), (sFc a3)]
theorem K20_ok (a0 : Int) (a1 : List Int) (a2 : List Int) (a3 : List F) (a4 : List F) (q0 : List F) (h : K20 a0 a1 a2 a3 a4 = some q0) : Ev Try.prog 127 [ptr [i64 a0, sl a1.length (a1.map i64), sl a2.length (a2.map i64), (sFc a3)], (sFc a4)] [] (oref 0 0 0 q0.length) [oF 0 q0] := by
 refine yE Try.func127 2 125 0 ([(0, ptr (z03b a0 a1 a2 a3)), (1, (sFc a4))]) [o0, o0] rfl ?_
 unfold K20 at h
 refine zQ<|ya rfl nilsl<|zN ?_
 refine zQ<|ye rfl (oref 0 1 0 0) ([oF 1 [], o0]) (TOp.buildSlice_o (g := o0) (za := f32 (some 0)) (qs := []) 0 rfl und23 siz26 zer26 rfl zel26 rfl rfl trivial rfl)<|ya rfl (oref 0 1 0 0)<|zN ?_
 refine yS<|zQ<|ya rfl (i64 0)<|zN ?_
 obtain ⟨z4, hz_4, h⟩ := oS h
 refine RunC.cutN (fun τ Γ => ∃ (L20 : List F) (u18 : Nat) (u19 : Nat), WeakLe τ [(5, oref 0 u18 0 L20.length)] ∧ DeadLe Γ [oF u18 L20, ⟨u19, none⟩] ∧ z4 = .inl L20) ?_ ?_
 ·refine RunC.block (RunC.loop (RunL.loopM (x := z4) (K20_s3 a0 a1 a2 a3 a4) (fun (s : (List F) × Int) τ Γ => ∃ (u1 : Nat) (u2 : Nat), WeakLe τ [(0, ptr (z03b a0 a1 a2 a3)), (1, (sFc a4)), (5, oref 0 u1 0 s.1.length), (6, i64 s.2)] ∧ DeadLe Γ [⟨u1, some (s.1.map f32)⟩, ⟨u2, none⟩]) ?_ _ _ _ hz_4 ⟨1, 0, ⟨aR, aR, aR, aR, trivial⟩, ⟨dR, dL, trivial⟩⟩))
  rintro ⟨L3, v4⟩ τ4 Γ4 y4_ ⟨u1, u2, hw4, hd4⟩ h4_ ho4 hr4
  refine RunC.wl (τ' := [(0, ptr (z03b a0 a1 a2 a3)), (1, (sFc a4)), (5, oref 0 u1 0 L3.length), (6, i64 v4)]) (Γ' := [oF u1 L3, ⟨u2, none⟩]) hw4 hd4 ?_
  replace h4_ : K20_b3 a0 a1 a2 a3 a4 L3 v4 = some y4_ := h4_
  unfold K20_b3 at h4_
  refine yS<|yS ?_
  rcases oB h4_ with ⟨hc1, h4_⟩ | ⟨hc1, h4_⟩
  ·refine yW<|ym rfl (i64 v4)<|ym rfl (ptr (z03b a0 a1 a2 a3))<|yl rfl (ptr (z03b a0 a1 a2 a3)) n4<|yl rfl (ptr (z03b a0 a1 a2 a3)) (LOp.fap und30 rfl siz2 rfl rfl rfl)<|yl rfl (i64 a0) (n2 agg2)<|yl rfl (b true) (LOp.eqb (LOp.lss rfl rfl rfl) hc1)<|zN ?_
   refine yT<|RunC.skip<|yS<|RunC.block<|zQ<|yl rfl (f32 (some 0)) (LOp.le (LOp.assign rfl rfl) (ALe.fl (by kernel_rfl) (by kernel_rfl)))<|zN ?_
   refine yS<|yS ?_
   obtain ⟨e5, he2, h4_⟩ := oS h4_
   refine yW<|ym rfl (ptr (z03b a0 a1 a2 a3))<|yl rfl (ptr (z03b a0 a1 a2 a3)) n4<|yl rfl (ptr [sl a1.length (a1.map i64), sl a2.length (a2.map i64), (sFc a3)]) (LOp.fap und30 rfl siz22 rfl rfl rfl)<|yl rfl (sl a1.length (a1.map i64)) (n2 agg22)<|ym rfl (i64 v4)<|yl rfl (ptr [i64 e5]) (LOp.le (LOp.ix (f := i64) und22 siz2 rfl rfl rfl rfl he2) ALe.ptr)<|yl rfl (i64 e5) (n2 agg2)<|ya rfl (i64 e5)<|zN ?_
   refine RunC.wl (τ' := [(0, ptr (z03b a0 a1 a2 a3)), (1, (sFc a4)), (5, oref 0 u1 0 L3.length), (6, i64 v4), (7, f32 (some 0)), (8, i64 e5)]) (Γ' := [oF u1 L3, ⟨u2, none⟩]) ⟨aR, aR, aR, aR, aR, aR, trivial⟩ ⟨dR, dL, trivial⟩ ?_
   obtain ⟨z5, hz_5, h4_⟩ := oS h4_
   refine RunC.cutN (fun τ Γ => ∃ (y16 : F), WeakLe τ [(0, ptr (z03b a0 a1 a2 a3)), (1, (sFc a4)), (5, oref 0 u1 0 L3.length), (6, i64 v4), (7, f32 y16)] ∧ DeadLe Γ [oF u1 L3, ⟨u2, none⟩] ∧ z5 = .inl y16) ?_ ?_
   ·refine RunC.block (RunC.loop (RunL.loopM (x := z5) (K20_s2 a1 a2 a3 a4 v4) (fun (s : F × Int) τ Γ => WeakLe τ [(0, ptr (z03b a0 a1 a2 a3)), (1, (sFc a4)), (5, oref 0 u1 0 L3.length), (6, i64 v4), (7, f32 s.1), (8, i64 s.2)] ∧ DeadLe Γ [oF u1 L3, ⟨u2, none⟩]) ?_ _ _ _ hz_5 ⟨⟨aR, aR, aR, aR, aR, aR, trivial⟩, ⟨dR, dL, trivial⟩⟩))
    rintro ⟨y6, v7⟩ τ5 Γ5 y5_ ⟨hw5, hd5⟩ h5_ ho5 hr5
    refine RunC.wl (τ' := [(0, ptr (z03b a0 a1 a2 a3)), (1, (sFc a4)), (5, oref 0 u1 0 L3.length), (6, i64 v4), (7, f32 y6), (8, i64 v7)]) (Γ' := [oF u1 L3, ⟨u2, none⟩]) hw5 hd5 ?_
    replace h5_ : K20_b2 a1 a2 a3 a4 v4 y6 v7 = some y5_ := h5_
    unfold K20_b2 at h5_
    refine yS<|yS ?_
    obtain ⟨x8, hx3, h5_⟩ := oL h5_
    obtain ⟨e9, he4, h5_⟩ := oS h5_
    rcases oB h5_ with ⟨hc5, h5_⟩ | ⟨hc5, h5_⟩
    ·refine yW<|ym rfl (i64 v7)<|ym rfl (ptr (z03b a0 a1 a2 a3))<|yl rfl (ptr (z03b a0 a1 a2 a3)) n4<|yl rfl (ptr [sl a1.length (a1.map i64), sl a2.length (a2.map i64), (sFc a3)]) (LOp.fap und30 rfl siz22 rfl rfl rfl)<|yl rfl (sl a1.length (a1.map i64)) (n2 agg22)<|ym rfl (i64 v4)<|yl rfl (i64 x8) (LOp.eqr (LOp.add rfl rfl rfl) (congrArg (ik .i64) hx3))<|yl rfl (ptr [i64 e9]) (LOp.le (LOp.ix (f := i64) und22 siz2 rfl rfl rfl rfl he4) ALe.ptr)<|yl rfl (i64 e9) (n2 agg2)<|yl rfl (b true) (LOp.eqb (LOp.lss rfl rfl rfl) hc5)<|zN ?_
     refine yT<|RunC.skip<|yS<|RunC.block ?_
     obtain ⟨e10, he6, h5_⟩ := oS h5_
     obtain ⟨e11, he7, h5_⟩ := oS h5_
     obtain ⟨e12, he8, h5_⟩ := oS h5_
     obtain ⟨x13, hx9, h5_⟩ := oL h5_
     obtain ⟨x14, hx10, h5_⟩ := oL h5_
     refine RunC.region_draw (Γ' := [oF u1 L3, ⟨u2, none⟩]) 21 mixed 
      (tm rfl (f32 y6) <|
      (tm rfl (ptr (z03b a0 a1 a2 a3)) <|
      (tl rfl (ptr (z03b a0 a1 a2 a3)) n4 <|
      (tl rfl (ptr [(sFc a3)]) (LOp.fap und30 rfl siz23 rfl rfl rfl) <|
      (tl rfl (sFc a3) (n2 agg23) <|
      (tm rfl (i64 v7) <|
      (tl rfl (ptr [f32 e10]) (LOp.le (LOp.ix (f := f32) und23 siz26 rfl rfl rfl rfl he6) ALe.ptr) <|
      (tl rfl (f32 e10) (n2 agg26) <|
      (tm rfl (sFc a4) <|
      (tm rfl (ptr (z03b a0 a1 a2 a3)) <|
      (tl rfl (ptr (z03b a0 a1 a2 a3)) n4 <|
      (tl rfl (ptr [sl a2.length (a2.map i64), (sFc a3)]) (LOp.fap und30 rfl siz22 rfl rfl rfl) <|
      (tl rfl (sl a2.length (a2.map i64)) (n2 agg22) <|
      (tm rfl (i64 v7) <|
      (tl rfl (ptr [i64 e11]) (LOp.le (LOp.ix (f := i64) und22 siz2 rfl rfl rfl rfl he7) ALe.ptr) <|
      (tl rfl (i64 e11) (n2 agg2) <|
      (tl rfl (ptr [f32 e12]) (LOp.le (LOp.ix (f := f32) und23 siz26 rfl rfl rfl rfl he8) ALe.ptr) <|
      (tl rfl (f32 e12) (n2 agg26) <|
      (TR.d (r := f32 x13) (fs := []) rfl rfl (TOp.eqr (TOp.fop (.inr (.inr (.inl rfl))) rfl (OpF.tmp rfl) (OpF.tmp rfl)) (congrArg (f .f32) hx9)) <|
      (TR.d (r := f32 x14) (fs := []) rfl rfl (TOp.eqr (TOp.fop (.inl rfl) rfl (OpF.tmp rfl) (OpF.tmp rfl)) (congrArg (f .f32) hx10)) <|
      (tl rfl (f32 x14) (LOp.assign rfl rfl) <|
      TR.nil))))))))))))))))))))) rfl (by kernel_rfl) rfl fills_nil rfl ?_
     iterate 21 refine ROps.dropS ?_
     refine ROps.drop0<|zN ?_
     refine RunC.wl (τ' := [(0, ptr (z03b a0 a1 a2 a3)), (1, (sFc a4)), (5, oref 0 u1 0 L3.length), (6, i64 v4), (7, f32 x14), (8, i64 v7)]) (Γ' := [oF u1 L3, ⟨u2, none⟩]) ⟨aR, aR, aR, aR, aR, aR, trivial⟩ ⟨dR, dL, trivial⟩ ?_
     obtain ⟨x15, hx11, h5_⟩ := oL h5_
     refine yW<|ym rfl (i64 v7)<|yl rfl (i64 x15) (LOp.eqr (LOp.add rfl rfl rfl) (congrArg (ik .i64) hx11))<|ya rfl (i64 x15)<|zN ?_
     cases oI h5_
     exact ⟨_, rfl, ⟨aR, aR, aR, aR, aR, aR, trivial⟩, ⟨dR, dL, trivial⟩⟩
    ·refine yW<|ym rfl (i64 v7)<|ym rfl (ptr (z03b a0 a1 a2 a3))<|yl rfl (ptr (z03b a0 a1 a2 a3)) n4<|yl rfl (ptr [sl a1.length (a1.map i64), sl a2.length (a2.map i64), (sFc a3)]) (LOp.fap und30 rfl siz22 rfl rfl rfl)<|yl rfl (sl a1.length (a1.map i64)) (n2 agg22)<|ym rfl (i64 v4)<|yl rfl (i64 x8) (LOp.eqr (LOp.add rfl rfl rfl) (congrArg (ik .i64) hx3))<|yl rfl (ptr [i64 e9]) (LOp.le (LOp.ix (f := i64) und22 siz2 rfl rfl rfl rfl he4) ALe.ptr)<|yl rfl (i64 e9) (n2 agg2)<|yl rfl (b false) (LOp.eqb (LOp.lss rfl rfl rfl) hc5)<|zN ?_
     refine yF<|RunC.exit ?_
     cases oI h5_
     have hx := ho5 _ rfl
     exact ⟨y6, ⟨aR, aR, aR, aR, aR, trivial⟩, ⟨dR, dL, trivial⟩, hx⟩
   ·rintro τ6 Γ6 ⟨y16, hw6, hd6, rfl⟩
    refine RunC.wl hw6 hd6 ?_
    replace h4_ : K20_k2 L3 v4 y16 = some y4_ := h4_
    unfold K20_k2 at h4_
    obtain ⟨hm12, h4_⟩ := need_some h4_
    refine yW<|ym rfl (oref 0 u1 0 L3.length)<|ym rfl (f32 y16)<|ye rfl (oref 1 (u2 + 1) 0 1) ([oF u1 L3, oF (u2 + 1) [y16]]) (TOp.buildSlice_o (g := ⟨u2, none⟩) (za := f32 (some 0)) (qs := [(0, [f32 y16])]) 1 rfl und23 siz26 zer26 rfl zel26 rfl rfl ⟨rfl, ⟨_, ALe.refl _, rfl⟩, trivial⟩ rfl)<|ROps.app (f := f32) (xs := L3) (ys := ([y16] : List F)) (Γ' := [oF (u1 + 1) (L3 ++ [y16]), oF (u2 + 1) [y16]]) rfl pun23 inf26 rfl rfl rfl rfl rfl rfl rfl rfl rfl (by simp) (ReadAs.own rfl (by simp)) (ones_map (fun _ => rfl)) (ap_by hm12) (ap_mx hm12) rfl<|ya rfl (oref 0 (u1 + 1) 0 (L3.length + 1))<|zN ?_
    refine RunC.wl (τ' := [(0, ptr (z03b a0 a1 a2 a3)), (1, (sFc a4)), (5, oref 0 (u1 + 1) 0 (L3.length + 1)), (6, i64 v4)]) (Γ' := [oF (u1 + 1) (L3 ++ [y16]), ⟨(u2 + 1), none⟩]) ⟨aR, aR, aR, aR, trivial⟩ ⟨dR, dL, trivial⟩ ?_
    obtain ⟨x17, hx13, h4_⟩ := oL h4_
    refine yW<|ym rfl (i64 v4)<|yl rfl (i64 x17) (LOp.eqr (LOp.add rfl rfl rfl) (congrArg (ik .i64) hx13))<|ya rfl (i64 x17)<|zN ?_
    cases oI h4_
    exact ⟨_, rfl, (u1 + 1), (u2 + 1), ⟨aR, aR, (ALe.eq (by rw [(app_len rfl rfl)] <;> rfl)), aR, trivial⟩, ⟨dR, dL, trivial⟩⟩
  ·refine yW<|ym rfl (i64 v4)<|ym rfl (ptr (z03b a0 a1 a2 a3))<|yl rfl (ptr (z03b a0 a1 a2 a3)) n4<|yl rfl (ptr (z03b a0 a1 a2 a3)) (LOp.fap und30 rfl siz2 rfl rfl rfl)<|yl rfl (i64 a0) (n2 agg2)<|yl rfl (b false) (LOp.eqb (LOp.lss rfl rfl rfl) hc1)<|zN ?_
   refine yF<|RunC.exit ?_
   cases oI h4_
   have hx := ho4 _ rfl
   exact ⟨L3, u1, u2, ⟨aR, trivial⟩, ⟨dR, dL, trivial⟩, hx⟩
 ·rintro τ7 Γ7 ⟨L20, u18, u19, hw7, hd7, rfl⟩
  refine RunC.wl hw7 hd7 ?_
  replace h : K20_k3 L20 = some q0 := h
  unfold K20_k3 at h
  refine zQ<|ym rfl (oref 0 u18 0 L20.length)<|ya rfl (oref 0 u18 0 L20.length)<|zN ?_
  refine RunC.ret ?_
  have hq := oI h
  subst q0
  exact bodyQ.mk (r' := oref 0 u18 0 L20.length) [(0, u18)] (.inr rfl) rfl (ndB_ok rfl) (by simp [ren, rens, sigma]) rfl (Res.one rfl (RV.tmp rfl)) (sA rfl trivial)

def K21 (a0 : List F) : Option ((Bool × (List F)) ⊕ (Bool × (List F) × (List F))) :=
 obind (K08 a0) fun (r1 : Bool) =>
 bsel r1 (
  some (Sum.inl (true, a0))) (
  some (Sum.inr (false, a0, ([] : List F))))
theorem K21_ok0 (a0 : List F) (q0 : Bool) (q1 : List F) (h : K21 a0 = some (Sum.inl (q0, q1))) : Ev Try.prog 126 [oref 0 0 0 a0.length] [oF 0 a0] (tup [oref 0 0 0 q1.length, b q0]) [oF 0 q1] := by
 refine Ev.start Try.func126 rfl rfl 1 (τ := [(0, oref 0 0 0 a0.length)]) rfl (Γ' := [oF 0 a0, o0]) rfl (n := 16) rfl (g := 1) rfl (by decide) ?_
 unfold K21 at h
 refine zQ<|ya rfl nilsl<|ya rfl (b false)<|zN ?_
 refine yS<|yS ?_
 obtain ⟨r1, hf1, h⟩ := oS h
 rcases oB h with ⟨hc2, h⟩ | ⟨hc2, h⟩
 ·refine yW<|ym rfl (oref 0 0 0 a0.length)<|yd rfl (b true) (TOp.eqb (yc ent77 rfl rfl (Bors.cons (Bor.own (f := f32) (fun _ => rfl) rfl rfl) bN) (K08_ok a0 r1 hf1)) hc2)<|yl rfl (b false) n1<|zN ?_
  refine yF<|RunC.skip<|zQ<|ym rfl (oref 0 0 0 a0.length)<|ya rfl (oref 0 0 0 a0.length)<|ya rfl (b true)<|zN ?_
  refine RunC.ret ?_
  have hq := oI h
  have hq := Sum.inl.inj hq
  obtain ⟨hq0, hq⟩ := Prod.mk.inj hq
  subst q0
  subst q1
  exact yB (tup [oref 0 0 0 a0.length, b true]) [(0, 0)] (Res.two rfl (RV.tmp rfl) (RV.tmp rfl)) (SelL.arr (f := f32) (fun _ => rfl) rfl trivial)
 ·refine yW<|ym rfl (oref 0 0 0 a0.length)<|yd rfl (b false) (TOp.eqb (yc ent77 rfl rfl (Bors.cons (Bor.own (f := f32) (fun _ => rfl) rfl rfl) bN) (K08_ok a0 r1 hf1)) hc2)<|yl rfl (b true) n0<|zN ?_
  refine yT<|zQ<|ya rfl nilsl<|ya rfl (b false)<|zN ?_
  cases oI h
theorem K21_ok1 (a0 : List F) (q0 : Bool) (q1 : List F) (q2 : List F) (h : K21 a0 = some (Sum.inr (q0, q1, q2))) : Ev Try.prog 126 [oref 0 0 0 a0.length] [oF 0 a0] (tup [oref 1 0 0 q2.length, b q0]) [oF 0 q1, oF 0 q2] := by
 refine Ev.start Try.func126 rfl rfl 1 (τ := [(0, oref 0 0 0 a0.length)]) rfl (Γ' := [oF 0 a0, o0]) rfl (n := 16) rfl (g := 1) rfl (by decide) ?_
 unfold K21 at h
 refine zQ<|ya rfl nilsl<|ya rfl (b false)<|zN ?_
 refine yS<|yS ?_
 obtain ⟨r1, hf1, h⟩ := oS h
 rcases oB h with ⟨hc2, h⟩ | ⟨hc2, h⟩
 ·refine yW<|ym rfl (oref 0 0 0 a0.length)<|yd rfl (b true) (TOp.eqb (yc ent77 rfl rfl (Bors.cons (Bor.own (f := f32) (fun _ => rfl) rfl rfl) bN) (K08_ok a0 r1 hf1)) hc2)<|yl rfl (b false) n1<|zN ?_
  refine yF<|RunC.skip<|zQ<|ym rfl (oref 0 0 0 a0.length)<|ya rfl (oref 0 0 0 a0.length)<|ya rfl (b true)<|zN ?_
  cases oI h
 ·refine yW<|ym rfl (oref 0 0 0 a0.length)<|yd rfl (b false) (TOp.eqb (yc ent77 rfl rfl (Bors.cons (Bor.own (f := f32) (fun _ => rfl) rfl rfl) bN) (K08_ok a0 r1 hf1)) hc2)<|yl rfl (b true) n0<|zN ?_
  refine yT<|zQ<|ya rfl nilsl<|ya rfl (b false)<|zN ?_
  refine RunC.nil_slot (Γ' := [oF 0 a0, oF 1 []]) 2 1 rfl rfl rfl<|RunC.ret ?_
  have hq := oI h
  have hq := Sum.inr.inj hq
  obtain ⟨hq0, hq⟩ := Prod.mk.inj hq
  obtain ⟨hq1, hq⟩ := Prod.mk.inj hq
  subst q0
  subst q1
  subst q2
  exact yB (tup [oref 1 1 0 (([] : List F).length), b false]) [(0, 0), (1, 1)] (Res.eq (Res.two rfl (RV.tmp rfl) (RV.tmp rfl)) (by first | rfl | (rw [(show ([] : List F).length = 0 from rfl)] <;> rfl))) (SelL.arr (f := f32) (fun _ => rfl) rfl (sA rfl trivial))

def K22 (a0 : Int) (a1 : List Int) (a2 : List Int) (a3 : List F) (a4 : List F) : Option (Bool × (List F)) :=
 obind (K1z a0 a1 a2 a3 a4) fun (r1 : Bool) =>
 bsel r1 (
  obind (K20 a0 a1 a2 a3 a4) fun (r2 : List F) =>
  obind (K21 r2) (fun z => osum z (fun y => obind2 (some y) fun (r3 : Bool) (r4 : List F) =>
   need (decide (r4.length = r2.length)) <|
   some (r3, r4)) (fun y => obind3 (some y) fun (r5 : Bool) (r6 : List F) (r7 : List F) =>
   need (decide (r6.length = r2.length)) <|
   some (r5, r7)))) (
  some (false, ([] : List F)))
theorem K22_ok (a0 : Int) (a1 : List Int) (a2 : List Int) (a3 : List F) (a4 : List F) (q0 : Bool) (q1 : List F) (h : K22 a0 a1 a2 a3 a4 = some (q0, q1)) : Ev Try.prog 48 [agg [i64 a0, sl a1.length (a1.map i64), sl a2.length (a2.map i64), (sFc a3)], (sFc a4)] [] (tup [oref 0 0 0 q1.length, b q0]) [oF 0 q1] := by
 refine yE Try.func48 2 29 0 ([(0, agg [i64 a0, sl a1.length (a1.map i64), sl a2.length (a2.map i64), (sFc a3)]), (1, (sFc a4))]) [o0, o0] rfl ?_
 unfold K22 at h
 refine zQ<|yd rfl (ptr [i64 a0, sl a1.length (a1.map i64), sl a2.length (a2.map i64), (sFc a3)]) (TOp.box_s rfl rfl rfl)<|ya rfl nilsl<|ya rfl (b false)<|zN ?_
 refine yS<|yS ?_
 obtain ⟨r1, hf1, h⟩ := oS h
 rcases oB h with ⟨hc2, h⟩ | ⟨hc2, h⟩
 ·refine yW<|ym rfl (sFc a4)<|yd rfl (b true) (TOp.eqb (TOp.callB (CallAs.func ent71 rfl rfl) (Bors.cons (Bor.ptr (bP (bS (bS (bS bN))))) (bS bN)) rfl rfl (K1z_ok a0 a1 a2 a3 a4 r1 hf1)) hc2)<|yl rfl (b false) n1<|zN ?_
  refine yF<|RunC.skip<|yS ?_
  obtain ⟨r2, hf3, h⟩ := oS h
  obtain ⟨z1, hf4, h⟩ := oS h
  rcases z1 with z1 | z1
  ·replace h := (osum_inl _ _ _).symm.trans h
   obtain ⟨r3, r4, hz2, h⟩ := obind2_some h
   cases hz2
   obtain ⟨hn5, h⟩ := need_some h
   refine yW<|ym rfl (sFc a4)<|ye rfl (oref 0 1 0 r2.length) [oF 1 r2, o0] (TOp.callBN (ls := [(r2.map f32)]) [0] (CallAs.func ent127 rfl rfl) (Bors.cons (Bor.ptr (bP (bS (bS (bS bN))))) (bS bN)) rfl (K20_ok a0 a1 a2 a3 a4 r2 hf3) (and_all (lts0_map (f := f32) (fun _ => rfl) _) rfl) (and_all (noss_map (f := f32) (fun _ => rfl) _) rfl) rfl (by decide) (ns_of ⟨⟨_, rfl⟩, trivial⟩))<|ROps.callO (A := [oref 0 1 0 r2.length]) (args := [oref 0 0 0 r2.length]) (Γc := [oF 0 r2]) (Γc' := [oF 0 r4]) (r' := tup [oref 0 1 0 r2.length, b r3]) (Γ' := [oF 1 r4, o0]) [(0, 1)] [] rfl (CallAs.func ent126 rfl rfl) rfl rfl (SelOk.of (ndB_ok rfl) (sA rfl trivial)) (live_of ⟨⟨_, _, rfl⟩, trivial⟩) (by simp [ren, rens, sigma, rens_f32, rens_f64, rens_i64, rens_ik, rens_str, rens_cp]) rfl (K21_ok0 r2 r3 r4 hf4) rfl (news_of trivial) (ndB_ok rfl) (by simp [ren, rens, sigma, of_decide_eq_true hn5]) (by simp [backOb, sigma, ren, rens, rens_f32, rens_f64, rens_i64, rens_ik, rens_str, rens_cp] <;> omega)<|yl rfl (oref 0 1 0 r2.length) n3<|yl rfl (b r3) n3<|ya rfl (oref 0 1 0 r2.length)<|ya rfl (b r3)<|zN ?_
   refine RunC.ret ?_
   have hq := oI h
   obtain ⟨hq0, hq⟩ := Prod.mk.inj hq
   subst q0
   subst q1
   exact yB (tup [oref 0 1 0 r4.length, b r3]) [(0, 1)] (Res.eq (Res.two rfl (RV.tmp rfl) (RV.tmp rfl)) (by first | rfl | (rw [(show r4.length = r2.length from (of_decide_eq_true hn5))] <;> rfl))) (sA rfl trivial)
  ·replace h := (osum_inr _ _ _).symm.trans h
   obtain ⟨r5, r6, r7, hz3, h⟩ := obind3_some h
   cases hz3
   obtain ⟨hn6, h⟩ := need_some h
   refine yW<|ym rfl (sFc a4)<|ye rfl (oref 0 1 0 r2.length) [oF 1 r2, o0] (TOp.callBN (ls := [(r2.map f32)]) [0] (CallAs.func ent127 rfl rfl) (Bors.cons (Bor.ptr (bP (bS (bS (bS bN))))) (bS bN)) rfl (K20_ok a0 a1 a2 a3 a4 r2 hf3) (and_all (lts0_map (f := f32) (fun _ => rfl) _) rfl) (and_all (noss_map (f := f32) (fun _ => rfl) _) rfl) rfl (by decide) (ns_of ⟨⟨_, rfl⟩, trivial⟩))<|ROps.callO (A := [oref 0 1 0 r2.length]) (args := [oref 0 0 0 r2.length]) (Γc := [oF 0 r2]) (Γc' := [oF 0 r6, oF 0 r7]) (r' := tup [oref 1 1 0 r7.length, b r5]) (Γ' := [oF 1 r6, oF 1 r7]) [(0, 1)] [(1, 1)] rfl (CallAs.func ent126 rfl rfl) rfl rfl (SelOk.of (ndB_ok rfl) (sA rfl trivial)) (live_of ⟨⟨_, _, rfl⟩, trivial⟩) (by simp [ren, rens, sigma, rens_f32, rens_f64, rens_i64, rens_ik, rens_str, rens_cp]) rfl (K21_ok1 r2 r5 r6 r7 hf4) rfl (news_of ⟨⟨_, rfl, rfl⟩, trivial⟩) (show List.Nodup [0, 1] from by decide) (by simp [ren, rens, sigma, of_decide_eq_true hn6]) (by simp [backOb, sigma, ren, rens, rens_f32, rens_f64, rens_i64, rens_ik, rens_str, rens_cp] <;> omega)<|yl rfl (oref 1 1 0 r7.length) n3<|yl rfl (b r5) n3<|ya rfl (oref 1 1 0 r7.length)<|ya rfl (b r5)<|zN ?_
   refine RunC.ret ?_
   have hq := oI h
   obtain ⟨hq0, hq⟩ := Prod.mk.inj hq
   subst q0
   subst q1
   exact yB (tup [oref 1 1 0 r7.length, b r5]) [(1, 1)] (Res.two rfl (RV.tmp rfl) (RV.tmp rfl)) (sA rfl trivial)
 ·refine yW<|ym rfl (sFc a4)<|yd rfl (b false) (TOp.eqb (TOp.callB (CallAs.func ent71 rfl rfl) (Bors.cons (Bor.ptr (bP (bS (bS (bS bN))))) (bS bN)) rfl rfl (K1z_ok a0 a1 a2 a3 a4 r1 hf1)) hc2)<|yl rfl (b true) n0<|zN ?_
  refine yT<|zQ<|ya rfl nilsl<|ya rfl (b false)<|zN ?_
  refine RunC.nil_slot (Γ' := [oF 1 [], o0]) 4 0 rfl rfl rfl<|RunC.ret ?_
  have hq := oI h
  obtain ⟨hq0, hq⟩ := Prod.mk.inj hq
  subst q0
  subst q1
  exact yB (tup [oref 0 1 0 (([] : List F).length), b false]) [(0, 1)] (Res.eq (Res.two rfl (RV.tmp rfl) (RV.tmp rfl)) (by first | rfl | (rw [(show ([] : List F).length = 0 from rfl)] <;> rfl))) (sA rfl trivial)

def K23 (a0 : F) (a1 : F) : Option (F) :=
 bsel (flt .f64 a0 a1) (
  olet (fop .sub .f64 a1 a0) fun (x1 : F) =>
  some x1) (
  olet (fop .sub .f64 a0 a1) fun (x2 : F) =>
  some x2)
theorem K23_ok (a0 : F) (a1 : F) (q0 : F) (h : K23 a0 a1 = some q0) : Ev Try.prog 40 [f64 a0, f64 a1] [] (f64 q0) [] := by
 refine yE Try.func40 0 29 0 [(0, f64 a0), (1, f64 a1)] [] rfl ?_
 unfold K23 at h
 refine zQ<|yl rfl (f64 (some 0)) (LOp.le (LOp.assign rfl rfl) (ALe.fl (by kernel_rfl) (by kernel_rfl)))<|zN ?_
 refine yS<|yS ?_
 rcases oB h with ⟨hc1, h⟩ | ⟨hc1, h⟩
 ·refine yW<|ym rfl (f64 a0)<|ym rfl (f64 a1)<|yl rfl (b true) (LOp.eqb (LOp.flt rfl (OpF.tmp rfl) (OpF.tmp rfl)) hc1)<|zN ?_
  refine yT<|yS ?_
  obtain ⟨x1, hx2, h⟩ := oL h
  refine yW<|ym rfl (f64 a1)<|ym rfl (f64 a0)<|yd rfl (f64 x1) (TOp.eqr (TOp.fop (.inr (.inl rfl)) rfl (OpF.tmp rfl) (OpF.tmp rfl)) (congrArg (f .f64) hx2))<|ya rfl (f64 x1)<|zN ?_
  refine RunC.ret ?_
  have hq := oI h
  subst q0
  exact bR rfl
 ·refine yW<|ym rfl (f64 a0)<|ym rfl (f64 a1)<|yl rfl (b false) (LOp.eqb (LOp.flt rfl (OpF.tmp rfl) (OpF.tmp rfl)) hc1)<|zN ?_
  refine yF<|RunC.skip<|yS ?_
  obtain ⟨x2, hx3, h⟩ := oL h
  refine yW<|ym rfl (f64 a0)<|ym rfl (f64 a1)<|yd rfl (f64 x2) (TOp.eqr (TOp.fop (.inr (.inl rfl)) rfl (OpF.tmp rfl) (OpF.tmp rfl)) (congrArg (f .f64) hx3))<|ya rfl (f64 x2)<|zN ?_
  refine RunC.ret ?_
  have hq := oI h
  subst q0
  exact bR rfl

def K24_b1 (a0 : List F) (a1 : List F) (a2 : F) (v1 : Int) : Option (LR (Int) (Unit) (Bool)) :=
 bsel (decide (v1 < (a0.length : Int))) (
  obind (at? a0 v1) fun (e2 : F) =>
  olet (fwiden e2) fun (x3 : F) =>
  obind (at? a1 v1) fun (e4 : F) =>
  olet (fwiden e4) fun (x5 : F) =>
  obind (K23 x3 x5) fun (r6 : F) =>
  bsel (fle .f64 r6 a2) (
   olet (IntKind.i64.wrap (v1 + 1)) fun (x7 : Int) =>
   some (LR.next x7)) (
   some (LR.ret true))) (
  some (LR.out ()))
def K24_s1 (a0 : List F) (a1 : List F) (a2 : F) : (Int) → Option (LR (Int) (Unit) (Bool)) := fun s => K24_b1 a0 a1 a2 s
def K24_k1  : Option (Bool) :=
 some false
def K24 (a0 : List F) (a1 : List F) (a2 : F) : Option (Bool) :=
 bsel (!decide ((a0.length : Int) = (a1.length : Int))) (
  some true) (
  obind (loopM (K24_s1 a0 a1 a2) 0) fun z => osum z (fun _ => K24_k1) (fun r => some r))
theorem K24_ok (a0 : List F) (a1 : List F) (a2 : F) (q0 : Bool) (h : K24 a0 a1 a2 = some q0) : Ev Try.prog 34 [(sFc a0), (sFc a1), f64 a2] [] (b q0) [] := by
 refine yE Try.func34 0 67 0 [(0, (sFc a0)), (1, (sFc a1)), (2, f64 a2)] [] rfl ?_
 unfold K24 at h
 refine zQ<|ya rfl (b false)<|zN ?_
 refine yS<|yS ?_
 rcases oB h with ⟨hc1, h⟩ | ⟨hc1, h⟩
 ·refine yW<|ym rfl (sFc a0)<|yl rfl (i64 (a0.length : Int)) (LOp.len_sl und23 rfl rfl)<|ym rfl (sFc a1)<|yl rfl (i64 (a1.length : Int)) (LOp.len_sl und23 rfl rfl)<|yl rfl (b true) (LOp.eqb (LOp.neq rfl rfl rfl) hc1)<|zN ?_
  refine yT<|zQ<|ya rfl (b true)<|zN ?_
  refine RunC.ret ?_
  have hq := oI h
  subst q0
  exact bR rfl
 ·refine yW<|ym rfl (sFc a0)<|yl rfl (i64 (a0.length : Int)) (LOp.len_sl und23 rfl rfl)<|ym rfl (sFc a1)<|yl rfl (i64 (a1.length : Int)) (LOp.len_sl und23 rfl rfl)<|yl rfl (b false) (LOp.eqb (LOp.neq rfl rfl rfl) hc1)<|zN ?_
  refine yF<|RunC.skip<|yS<|zQ<|ym rfl (sFc a0)<|yl rfl (i64 (a0.length : Int)) (LOp.len_sl und23 rfl rfl)<|ym rfl (i64 0)<|zN ?_
  obtain ⟨z2, hz_2, h⟩ := oS h
  refine RunC.cutN (fun τ Γ => WeakLe τ [] ∧ DeadLe Γ [] ∧ z2 = .inl ()) ?_ ?_
  ·refine RunC.block (RunC.loop (RunL.loopM (x := z2) (K24_s1 a0 a1 a2) (fun (s : Int) τ Γ => WeakLe τ [(0, (sFc a0)), (1, (sFc a1)), (2, f64 a2), (14, i64 (a0.length : Int)), (15, i64 s)] ∧ DeadLe Γ []) ?_ _ _ _ hz_2 ⟨⟨aR, aR, aR, aR, aR, trivial⟩, trivial⟩))
   rintro v1 τ2 Γ2 y2_ ⟨hw2, hd2⟩ h2_ ho2 hr2
   refine RunC.wl (τ' := [(0, (sFc a0)), (1, (sFc a1)), (2, f64 a2), (14, i64 (a0.length : Int)), (15, i64 v1)]) (Γ' := []) hw2 hd2 ?_
   replace h2_ : K24_b1 a0 a1 a2 v1 = some y2_ := h2_
   unfold K24_b1 at h2_
   refine yS ?_
   rcases oB h2_ with ⟨hc2, h2_⟩ | ⟨hc2, h2_⟩
   ·refine yW<|yl rfl (b true) (LOp.eqb (LOp.lss rfl rfl rfl) hc2)<|zN ?_
    refine yS<|yT<|RunC.skip<|yS<|RunC.block<|zQ<|ym rfl (i64 v1)<|ya rfl (i64 v1)<|zN ?_
    refine yS ?_
    obtain ⟨e2, he3, h2_⟩ := oS h2_
    obtain ⟨x3, hx4, h2_⟩ := oL h2_
    obtain ⟨e4, he5, h2_⟩ := oS h2_
    obtain ⟨x5, hx6, h2_⟩ := oL h2_
    obtain ⟨r6, hf7, h2_⟩ := oS h2_
    rcases oB h2_ with ⟨hc8, h2_⟩ | ⟨hc8, h2_⟩
    ·refine RunC.region_draw (Γ' := []) 14 mixed 
      (tm rfl (sFc a0) <|
      (tm rfl (i64 v1) <|
      (tl rfl (ptr [f32 e2]) (LOp.le (LOp.ix (f := f32) und23 siz26 rfl rfl rfl rfl he3) ALe.ptr) <|
      (tl rfl (f32 e2) (n2 agg26) <|
      (TR.d (r := f64 x3) (fs := []) rfl rfl (TOp.eqr (TOp.widen (src := 26) (dst := 56) ⟨_, pun26⟩ pun56 rfl (OpF.tmp rfl)) (congrArg (f .f64) hx4)) <|
      (tm rfl (sFc a1) <|
      (tm rfl (i64 v1) <|
      (tl rfl (ptr [f32 e4]) (LOp.le (LOp.ix (f := f32) und23 siz26 rfl rfl rfl rfl he5) ALe.ptr) <|
      (tl rfl (f32 e4) (n2 agg26) <|
      (TR.d (r := f64 x5) (fs := []) rfl rfl (TOp.eqr (TOp.widen (src := 26) (dst := 56) ⟨_, pun26⟩ pun56 rfl (OpF.tmp rfl)) (congrArg (f .f64) hx6)) <|
      (TR.d (r := f64 r6) (fs := []) rfl rfl (yc ent40 rfl rfl (bP bN0) (K23_ok x3 x5 r6 hf7)) <|
      (tm rfl (f64 a2) <|
      (tl rfl (b true) (LOp.eqb (LOp.fle rfl (OpF.tmp rfl) (OpF.tmp rfl)) hc8) <|
      (tl rfl (b false) (LOp.eqb (LOp.not rfl rfl) rfl) <|
      TR.nil)))))))))))))) rfl (by kernel_rfl) rfl fills_nil rfl ?_
     iterate 14 refine ROps.dropS ?_
     refine ROps.drop0<|zN ?_
     refine RunC.wl (τ' := [(0, (sFc a0)), (1, (sFc a1)), (2, f64 a2), (14, i64 (a0.length : Int)), (15, i64 v1), (31, b false)]) (Γ' := []) ⟨aR, aR, aR, aR, aR, aR, trivial⟩ trivial<|yF<|RunC.skip ?_
     obtain ⟨x7, hx9, h2_⟩ := oL h2_
     refine yW<|yl rfl (i64 x7) (LOp.eqr (LOp.add rfl rfl rfl) (congrArg (ik .i64) hx9))<|ym rfl (i64 x7)<|zN ?_
     cases oI h2_
     exact ⟨_, rfl, ⟨aR, aR, aR, aR, aR, trivial⟩, trivial⟩
    ·refine RunC.region_draw (Γ' := []) 14 mixed 
      (tm rfl (sFc a0) <|
      (tm rfl (i64 v1) <|
      (tl rfl (ptr [f32 e2]) (LOp.le (LOp.ix (f := f32) und23 siz26 rfl rfl rfl rfl he3) ALe.ptr) <|
      (tl rfl (f32 e2) (n2 agg26) <|
      (TR.d (r := f64 x3) (fs := []) rfl rfl (TOp.eqr (TOp.widen (src := 26) (dst := 56) ⟨_, pun26⟩ pun56 rfl (OpF.tmp rfl)) (congrArg (f .f64) hx4)) <|
      (tm rfl (sFc a1) <|
      (tm rfl (i64 v1) <|
      (tl rfl (ptr [f32 e4]) (LOp.le (LOp.ix (f := f32) und23 siz26 rfl rfl rfl rfl he5) ALe.ptr) <|
      (tl rfl (f32 e4) (n2 agg26) <|
      (TR.d (r := f64 x5) (fs := []) rfl rfl (TOp.eqr (TOp.widen (src := 26) (dst := 56) ⟨_, pun26⟩ pun56 rfl (OpF.tmp rfl)) (congrArg (f .f64) hx6)) <|
      (TR.d (r := f64 r6) (fs := []) rfl rfl (yc ent40 rfl rfl (bP bN0) (K23_ok x3 x5 r6 hf7)) <|
      (tm rfl (f64 a2) <|
      (tl rfl (b false) (LOp.eqb (LOp.fle rfl (OpF.tmp rfl) (OpF.tmp rfl)) hc8) <|
      (tl rfl (b true) (LOp.eqb (LOp.not rfl rfl) rfl) <|
      TR.nil)))))))))))))) rfl (by kernel_rfl) rfl fills_nil rfl ?_
     iterate 14 refine ROps.dropS ?_
     refine ROps.drop0<|zN ?_
     refine RunC.wl (τ' := [(0, (sFc a0)), (1, (sFc a1)), (2, f64 a2), (14, i64 (a0.length : Int)), (15, i64 v1), (31, b true)]) (Γ' := []) ⟨aR, aR, aR, aR, aR, aR, trivial⟩ trivial<|yT<|zQ<|ya rfl (b true)<|zN ?_
     refine RunC.ret ?_
     cases oI h2_
     have hx3_ := hr2 _ rfl
     subst hx3_
     have hq := oI h
     subst q0
     exact bR rfl
   ·refine yW<|yl rfl (b false) (LOp.eqb (LOp.lss rfl rfl rfl) hc2)<|zN ?_
    refine yS<|yF<|RunC.exit ?_
    cases oI h2_
    have hx := ho2 _ rfl
    exact ⟨trivial, trivial, hx⟩
  ·rintro τ4 Γ4 ⟨hw4, hd4, rfl⟩
   refine RunC.wl hw4 hd4 ?_
   replace h : K24_k1 = some q0 := h
   unfold K24_k1 at h
   refine zQ<|ya rfl (b false)<|zN ?_
   refine RunC.ret ?_
   have hq := oI h
   subst q0
   exact bR rfl

def K25 (a0 : Int) (a1 : List Int) (a2 : List Int) (a3 : List F) (a4 : Int) (a5 : Int) : Option (F × Bool) :=
 obind (K09 a0 a1 a2 a3) fun (r1 : Bool) =>
 bsel r1 (
  olet (IntKind.i64.wrap (a0 - 1)) fun (x2 : Int) =>
  obind (K05 a4 0 x2) fun (r3 : Bool) =>
  bsel r3 (
   olet (IntKind.i64.wrap (a0 - 1)) fun (x4 : Int) =>
   obind (K05 a5 0 x4) fun (r5 : Bool) =>
   bsel r5 (
    obind3 (K1j a0 a1 a2 a3) fun (r6 : Int) (r7 : List Bool) (r8 : List F) =>
    olet (IntKind.i64.wrap (a4 * a0)) fun (x9 : Int) =>
    olet (IntKind.i64.wrap (x9 + a5)) fun (x10 : Int) =>
    obind (at? r8 x10) fun (e11 : F) =>
    some (e11, true)) (
    some (some 0, false))) (
   some (some 0, false))) (
  some (some 0, false))
abbrev z03c (a0 : Int) (a1 : List Int) (a2 : List Int) (a3 : List F) : List AV := [i64 a0, sl a1.length (a1.map i64), sl a2.length (a2.map i64), (sFc a3)]
theorem K25_ok (a0 : Int) (a1 : List Int) (a2 : List Int) (a3 : List F) (a4 : Int) (a5 : Int) (q0 : F) (q1 : Bool) (h : K25 a0 a1 a2 a3 a4 a5 = some (q0, q1)) : Ev Try.prog 38 [agg [i64 a0, sl a1.length (a1.map i64), sl a2.length (a2.map i64), (sFc a3)], i64 a4, i64 a5] [] (tup [f32 q0, b q1]) [] := by
 refine yE Try.func38 3 77 0 ([(0, agg (z03c a0 a1 a2 a3)), (1, i64 a4), (2, i64 a5)]) [o0, o0, o0] rfl ?_
 unfold K25 at h
 refine zQ<|yd rfl (ptr (z03c a0 a1 a2 a3)) (TOp.box_s rfl rfl rfl)<|yl rfl (f32 (some 0)) (LOp.le (LOp.assign rfl rfl) (ALe.fl (by kernel_rfl) (by kernel_rfl)))<|ya rfl (b false)<|zN ?_
 refine yS<|yS ?_
 obtain ⟨r1, hf1, h⟩ := oS h
 rcases oB h with ⟨hc2, h⟩ | ⟨hc2, h⟩
 ·obtain ⟨x2, hx3, h⟩ := oL h
  obtain ⟨r3, hf4, h⟩ := oS h
  rcases oB h with ⟨hc5, h⟩ | ⟨hc5, h⟩
  ·obtain ⟨x4, hx6, h⟩ := oL h
   obtain ⟨r5, hf7, h⟩ := oS h
   rcases oB h with ⟨hc8, h⟩ | ⟨hc8, h⟩
   ·refine yW<|yd rfl (b true) (TOp.eqb (TOp.callB (CallAs.func ent111 rfl rfl) (Bors.cons (Bor.ptr (bP (bS (bS (bS bN))))) bN) rfl rfl (K09_ok a0 a1 a2 a3 r1 hf1)) hc2)<|yl rfl (b false) n1<|ym rfl (b false)<|ym rfl (i64 a4)<|yl rfl (ptr (z03c a0 a1 a2 a3)) (LOp.fap und30 rfl siz2 rfl rfl rfl)<|yl rfl (i64 a0) (n2 agg2)<|yl rfl (i64 x2) (LOp.eqr (LOp.sub rfl rfl rfl) (congrArg (ik .i64) hx3))<|yd rfl (b true) (TOp.eqb (yc ent73 rfl rfl (bP (bP bN0)) (K05_ok a4 0 x2 r3 hf4)) hc5)<|yl rfl (b false) n1<|yl rfl (b false) yp<|ym rfl (b false)<|ym rfl (i64 a5)<|yl rfl (ptr (z03c a0 a1 a2 a3)) (LOp.fap und30 rfl siz2 rfl rfl rfl)<|yl rfl (i64 a0) (n2 agg2)<|yl rfl (i64 x4) (LOp.eqr (LOp.sub rfl rfl rfl) (congrArg (ik .i64) hx6))<|yd rfl (b true) (TOp.eqb (yc ent73 rfl rfl (bP (bP bN0)) (K05_ok a5 0 x4 r5 hf7)) hc8)<|yl rfl (b false) n1<|yl rfl (b false) yp<|zN ?_
    refine RunC.wl (τ' := [(1, i64 a4), (2, i64 a5), (3, ptr (z03c a0 a1 a2 a3)), (26, b false)]) (Γ' := [o0, o0, o0]) ⟨aR, aR, aR, aR, trivial⟩ ⟨dR, dR, dR, trivial⟩<|yF<|RunC.skip<|yS ?_
    obtain ⟨r6, r7, r8, hf9, h⟩ := obind3_some h
    refine yW<|ye rfl (agg [i64 r6, oref 0 1 0 r7.length, oref 1 1 0 r8.length]) [⟨1, some (r7.map b)⟩, oF 1 r8, o0] (TOp.callBN (ls := [(r7.map b), (r8.map f32)]) [0, 1] (CallAs.func ent74 rfl rfl) (Bors.cons (Bor.ptr (bP (bS (bS (bS bN))))) bN) rfl (K1j_ok a0 a1 a2 a3 r6 r7 r8 hf9) (and_all (lts0_map (f := b) (fun _ => rfl) _) (and_all (lts0_map (f := f32) (fun _ => rfl) _) rfl)) (and_all (noss_map (f := b) (fun _ => rfl) _) (and_all (noss_map (f := f32) (fun _ => rfl) _) rfl)) rfl (by decide) (ns_of ⟨⟨_, rfl⟩, ⟨_, rfl⟩, trivial⟩))<|ye rfl (optr 2 1 0) ([⟨1, some (r7.map b)⟩, oF 1 r8, ⟨1, some [i64 0, nilsl, nilsl]⟩]) (TOp.alloc_o (g := o0) 2 rfl zer91 zok91 rfl)<|ys (agg [i64 r6, oref 0 1 0 r7.length, oref 1 1 0 r8.length]) [i64 r6, oref 0 1 0 r7.length, oref 1 1 0 r8.length] ([⟨1, some (r7.map b)⟩, oF 1 r8, ⟨1, some [i64 r6, oref 0 1 0 r7.length, oref 1 1 0 r8.length]⟩]) siz91<|zN ?_
    refine yS ?_
    obtain ⟨x9, hx10, h⟩ := oL h
    obtain ⟨x10, hx11, h⟩ := oL h
    obtain ⟨e11, he12, h⟩ := oS h
    refine yW<|yl rfl (optr 2 1 2) (LOp.fao und91 rfl siz23 rfl rfl rfl)<|yd rfl (oref 1 1 0 r8.length) (TOp.load1_o rfl rfl agg23 rfl rfl)<|ym rfl (i64 a4)<|yl rfl (ptr (z03c a0 a1 a2 a3)) (LOp.fap und30 rfl siz2 rfl rfl rfl)<|yl rfl (i64 a0) (n2 agg2)<|yl rfl (i64 x9) (LOp.eqr (LOp.mul rfl rfl rfl) (congrArg (ik .i64) hx10))<|ym rfl (i64 a5)<|yl rfl (i64 x10) (LOp.eqr (LOp.add rfl rfl rfl) (congrArg (ik .i64) hx11))<|yd rfl (optr 1 1 x10.toNat) (TOp.ixo und23 siz26 rfl rfl rfl (at_in he12 rfl) rfl)<|yd rfl (f32 e11) (TOp.load1_o rfl (at_cell he12) agg26 rfl rfl)<|ya rfl (f32 e11)<|ya rfl (b true)<|zN ?_
    refine RunC.ret ?_
    have hq := oI h
    obtain ⟨hq0, hq⟩ := Prod.mk.inj hq
    subst q0
    subst q1
    exact bodyQ.pure (.inr rfl) rfl (Res.two rfl (RV.tmp rfl) (RV.tmp rfl))
   ·refine yW<|yd rfl (b true) (TOp.eqb (TOp.callB (CallAs.func ent111 rfl rfl) (Bors.cons (Bor.ptr (bP (bS (bS (bS bN))))) bN) rfl rfl (K09_ok a0 a1 a2 a3 r1 hf1)) hc2)<|yl rfl (b false) n1<|ym rfl (b false)<|ym rfl (i64 a4)<|yl rfl (ptr (z03c a0 a1 a2 a3)) (LOp.fap und30 rfl siz2 rfl rfl rfl)<|yl rfl (i64 a0) (n2 agg2)<|yl rfl (i64 x2) (LOp.eqr (LOp.sub rfl rfl rfl) (congrArg (ik .i64) hx3))<|yd rfl (b true) (TOp.eqb (yc ent73 rfl rfl (bP (bP bN0)) (K05_ok a4 0 x2 r3 hf4)) hc5)<|yl rfl (b false) n1<|yl rfl (b false) yp<|ym rfl (b false)<|ym rfl (i64 a5)<|yl rfl (ptr (z03c a0 a1 a2 a3)) (LOp.fap und30 rfl siz2 rfl rfl rfl)<|yl rfl (i64 a0) (n2 agg2)<|yl rfl (i64 x4) (LOp.eqr (LOp.sub rfl rfl rfl) (congrArg (ik .i64) hx6))<|yd rfl (b false) (TOp.eqb (yc ent73 rfl rfl (bP (bP bN0)) (K05_ok a5 0 x4 r5 hf7)) hc8)<|yl rfl (b true) n0<|yl rfl (b true) yp<|zN ?_
    refine RunC.wl (τ' := [(1, i64 a4), (2, i64 a5), (3, ptr (z03c a0 a1 a2 a3)), (26, b true)]) (Γ' := [o0, o0, o0]) ⟨aR, aR, aR, aR, trivial⟩ ⟨dR, dR, dR, trivial⟩<|yT<|zQ<|yl rfl (f32 (some 0)) (LOp.le (LOp.assign rfl rfl) (ALe.fl (by kernel_rfl) (by kernel_rfl)))<|ya rfl (b false)<|zN ?_
    refine RunC.ret ?_
    have hq := oI h
    obtain ⟨hq0, hq⟩ := Prod.mk.inj hq
    subst q0
    subst q1
    exact bodyQ.pure (.inr rfl) rfl (Res.two rfl (RV.tmp rfl) (RV.tmp rfl))
  ·refine yW<|yd rfl (b true) (TOp.eqb (TOp.callB (CallAs.func ent111 rfl rfl) (Bors.cons (Bor.ptr (bP (bS (bS (bS bN))))) bN) rfl rfl (K09_ok a0 a1 a2 a3 r1 hf1)) hc2)<|yl rfl (b false) n1<|ym rfl (b false)<|ym rfl (i64 a4)<|yl rfl (ptr (z03c a0 a1 a2 a3)) (LOp.fap und30 rfl siz2 rfl rfl rfl)<|yl rfl (i64 a0) (n2 agg2)<|yl rfl (i64 x2) (LOp.eqr (LOp.sub rfl rfl rfl) (congrArg (ik .i64) hx3))<|yd rfl (b false) (TOp.eqb (yc ent73 rfl rfl (bP (bP bN0)) (K05_ok a4 0 x2 r3 hf4)) hc5)<|yl rfl (b true) n0<|yl rfl (b true) yp<|ym rfl (b true)<|yR rfl<|yR rfl<|yR rfl<|yR rfl<|yR rfl<|yR rfl<|yl rfl (b true) yq<|zN ?_
   refine RunC.wl (τ' := [(1, i64 a4), (2, i64 a5), (3, ptr (z03c a0 a1 a2 a3)), (26, b true)]) (Γ' := [o0, o0, o0]) ⟨aR, aR, aR, aR, trivial⟩ ⟨dR, dR, dR, trivial⟩<|yT<|zQ<|yl rfl (f32 (some 0)) (LOp.le (LOp.assign rfl rfl) (ALe.fl (by kernel_rfl) (by kernel_rfl)))<|ya rfl (b false)<|zN ?_
   refine RunC.ret ?_
   have hq := oI h
   obtain ⟨hq0, hq⟩ := Prod.mk.inj hq
   subst q0
   subst q1
   exact bodyQ.pure (.inr rfl) rfl (Res.two rfl (RV.tmp rfl) (RV.tmp rfl))
 ·refine yW<|yd rfl (b false) (TOp.eqb (TOp.callB (CallAs.func ent111 rfl rfl) (Bors.cons (Bor.ptr (bP (bS (bS (bS bN))))) bN) rfl rfl (K09_ok a0 a1 a2 a3 r1 hf1)) hc2)<|yl rfl (b true) n0<|ym rfl (b true)<|yR rfl<|yR rfl<|yR rfl<|yR rfl<|yR rfl<|yR rfl<|yl rfl (b true) yq<|ym rfl (b true)<|yR rfl<|yR rfl<|yR rfl<|yR rfl<|yR rfl<|yR rfl<|yl rfl (b true) yq<|zN ?_
  refine RunC.wl (τ' := [(1, i64 a4), (2, i64 a5), (3, ptr (z03c a0 a1 a2 a3)), (26, b true)]) (Γ' := [o0, o0, o0]) ⟨aR, aR, aR, aR, trivial⟩ ⟨dR, dR, dR, trivial⟩<|yT<|zQ<|yl rfl (f32 (some 0)) (LOp.le (LOp.assign rfl rfl) (ALe.fl (by kernel_rfl) (by kernel_rfl)))<|ya rfl (b false)<|zN ?_
  refine RunC.ret ?_
  have hq := oI h
  obtain ⟨hq0, hq⟩ := Prod.mk.inj hq
  subst q0
  subst q1
  exact bodyQ.pure (.inr rfl) rfl (Res.two rfl (RV.tmp rfl) (RV.tmp rfl))

def K26_k2  : Option (Bool) :=
 some false
def K26_k6  : Option (Bool) :=
 some false
def K26_b10 (r2 : Int) (r3 : List Int) (r4 : List Int) (r5 : List F) (r27 : Int) (r29 : List Int) (r30 : List Int) (r31 : List F) (v37 : Int) (v38 : Int) : Option (LR (Int) (Unit) (Bool)) :=
 bsel (decide (v38 < r2)) (
  obind2 (K25 r27 r29 r30 r31 v37 v38) fun (r39 : F) (r40 : Bool) =>
  obind2 (K25 r2 r3 r4 r5 v37 v38) fun (r41 : F) (r42 : Bool) =>
  bsel r40 (
   bsel r42 (
    olet (fwiden r39) fun (x43 : F) =>
    olet (fwiden r41) fun (x44 : F) =>
    obind (K23 x43 x44) fun (r45 : F) =>
    bsel (flt .f64 (some 4562254508917369340) r45) (
     some (LR.ret false)) (
     olet (IntKind.i64.wrap (v38 + 1)) fun (x46 : Int) =>
     some (LR.next x46))) (
    some (LR.ret false))) (
   some (LR.ret false))) (
  some (LR.out ()))
def K26_s10 (r2 : Int) (r3 : List Int) (r4 : List Int) (r5 : List F) (r27 : Int) (r29 : List Int) (r30 : List Int) (r31 : List F) (v37 : Int) : (Int) → Option (LR (Int) (Unit) (Bool)) := fun s => K26_b10 r2 r3 r4 r5 r27 r29 r30 r31 v37 s
def K26_k10 (v37 : Int) : Option (LR (Int) (Unit) (Bool)) :=
 olet (IntKind.i64.wrap (v37 + 1)) fun (x47 : Int) =>
 some (LR.next x47)
def K26_b11 (r2 : Int) (r3 : List Int) (r4 : List Int) (r5 : List F) (r27 : Int) (r29 : List Int) (r30 : List Int) (r31 : List F) (v37 : Int) : Option (LR (Int) (Unit) (Bool)) :=
 bsel (decide (v37 < r2)) (
  obind (loopM (K26_s10 r2 r3 r4 r5 r27 r29 r30 r31 v37) 0) fun z => osum z (fun e => K26_k10 v37) (fun r => some (LR.ret r))) (
  some (LR.out ()))
def K26_s11 (r2 : Int) (r3 : List Int) (r4 : List Int) (r5 : List F) (r27 : Int) (r29 : List Int) (r30 : List Int) (r31 : List F) : (Int) → Option (LR (Int) (Unit) (Bool)) := fun s => K26_b11 r2 r3 r4 r5 r27 r29 r30 r31 s
def K26_k13  : Option (Bool) :=
 some false
def K26_k15 (r11 : List F) (r16 : List F) : Option (Bool) :=
 some (decide ((r16.length : Int) ≤ (r11.length : Int)))
def K26_k11 (r2 : Int) (r3 : List Int) (r4 : List Int) (r5 : List F) (r6 : List F) (r11 : List F) (r12 : Int) (r14 : List Int) (r15 : List Int) (r16 : List F) : Option (Bool) :=
 obind2 (K1y r12 r14 r15 r16 r6) fun (r48 : Bool) (r49 : List F) =>
 obind2 (K22 r2 r3 r4 r5 r49) fun (r50 : Bool) (r51 : List F) =>
 bsel r48 (
  bsel r50 (
   bsel (decide ((r51.length : Int) = r2)) (
    K26_k15 r11 r16) (
    K26_k13)) (
   K26_k13)) (
  K26_k13)
def K26_k8 (r2 : Int) (r3 : List Int) (r4 : List Int) (r5 : List F) (r6 : List F) (r11 : List F) (r12 : Int) (r14 : List Int) (r15 : List Int) (r16 : List F) (r27 : Int) (r29 : List Int) (r30 : List Int) (r31 : List F) : Option (Bool) :=
 obind (loopM (K26_s11 r2 r3 r4 r5 r27 r29 r30 r31) 0) fun z => osum z (fun e => K26_k11 r2 r3 r4 r5 r6 r11 r12 r14 r15 r16) (fun r => some r)
def K26_k4 (r2 : Int) (r3 : List Int) (r4 : List Int) (r5 : List F) (r6 : List F) (r7 : Int) (r9 : List Int) (r10 : List Int) (r11 : List F) (r12 : Int) (r14 : List Int) (r15 : List Int) (r16 : List F) : Option (Bool) :=
 obind5 (K1l r7 r9 r10 r11) fun (r22 : Int) (r23 : Bool) (r24 : List Int) (r25 : List Int) (r26 : List F) =>
 obind5 (K1m r7 r9 r10 r11 r22 r24 r25 r26) fun (r27 : Int) (r28 : Bool) (r29 : List Int) (r30 : List Int) (r31 : List F) =>
 obind2 (K1y r7 r9 r10 r11 r6) fun (r32 : Bool) (r33 : List F) =>
 obind2 (K22 r2 r3 r4 r5 r33) fun (r34 : Bool) (r35 : List F) =>
 bsel r23 (
  bsel r28 (
   bsel r32 (
    bsel r34 (
     obind (K24 r35 r6 (some 4562254508917369340)) fun (r36 : Bool) =>
     bsel r36 (
      K26_k6) (
      K26_k8 r2 r3 r4 r5 r6 r11 r12 r14 r15 r16 r27 r29 r30 r31)) (
     K26_k6)) (
    K26_k6)) (
   K26_k6)) (
  K26_k6)
def K26 (a0 : List Int) (a1 : List Int) : Option (Bool) :=
 obind (K00 a0 a1) fun (r1 : Bool) =>
 bsel r1 (
  some true) (
  obind4 (K0c a0) fun (r2 : Int) (r3 : List Int) (r4 : List Int) (r5 : List F) =>
  obind (K0d a1 r2) fun (r6 : List F) =>
  obind5 (K1c r2 r3 r4 r5) fun (r7 : Int) (r8 : Bool) (r9 : List Int) (r10 : List Int) (r11 : List F) =>
  obind5 (K1f r2 r3 r4 r5) fun (r12 : Int) (r13 : Bool) (r14 : List Int) (r15 : List Int) (r16 : List F) =>
  obind3 (K1h r2 r3 r4 r5) fun (r17 : Int) (r18 : Bool) (r19 : List Int) =>
  bsel r8 (
   bsel r13 (
    bsel r18 (
     obind (K1i r7 r9 r10 r11) fun (r20 : Bool) =>
     bsel r20 (
      obind (K1i r12 r14 r15 r16) fun (r21 : Bool) =>
      bsel r21 (
       bsel (!decide (r7 = r2)) (
        K26_k2) (
        bsel (!decide ((r11.length : Int) = r17)) (
         K26_k2) (
         K26_k4 r2 r3 r4 r5 r6 r7 r9 r10 r11 r12 r14 r15 r16))) (
       K26_k2)) (
      K26_k2)) (
     K26_k2)) (
    K26_k2)) (
   K26_k2))
abbrev z03d (r2 : Int) (r3 : List Int) (r4 : List Int) (r5 : List F) (r7 : Int) (r9 : List Int) (r10 : List Int) (r11 : List F) (r12 : Int) (r14 : List Int) (r15 : List Int) (r16 : List F) (r27 : Int) (r29 : List Int) (r30 : List Int) (r31 : List F) : List Ob := [⟨1, some [i64 r2, sl r3.length (r3.map i64), sl r4.length (r4.map i64), (sFc r5)]⟩, ⟨1, some [i64 r7, sl r9.length (r9.map i64), sl r10.length (r10.map i64), (sFc r11)]⟩, ⟨1, some [i64 r12, sl r14.length (r14.map i64), sl r15.length (r15.map i64), (sFc r16)]⟩, ⟨1, none⟩, ⟨1, some [i64 r27, sl r29.length (r29.map i64), sl r30.length (r30.map i64), (sFc r31)]⟩]
abbrev z03e (r7 : Int) (r9 : List Int) (r10 : List Int) (r11 : List F) : List AV := [i64 r7, sl r9.length (r9.map i64), sl r10.length (r10.map i64), (sFc r11)]
abbrev z03f (r2 : Int) (r3 : List Int) (r4 : List Int) (r5 : List F) : List AV := [i64 r2, sl r3.length (r3.map i64), sl r4.length (r4.map i64), (sFc r5)]
abbrev z03g (r12 : Int) (r14 : List Int) (r15 : List Int) (r16 : List F) : List AV := [i64 r12, sl r14.length (r14.map i64), sl r15.length (r15.map i64), (sFc r16)]
abbrev z03h (r22 : Int) (r24 : List Int) (r25 : List Int) (r26 : List F) : List AV := [i64 r22, sl r24.length (r24.map i64), sl r25.length (r25.map i64), (sFc r26)]
abbrev z03i (r27 : Int) (r29 : List Int) (r30 : List Int) (r31 : List F) : List AV := [i64 r27, sl r29.length (r29.map i64), sl r30.length (r30.map i64), (sFc r31)]
abbrev z03j : List Ob := [⟨1, none⟩, ⟨1, none⟩, ⟨1, none⟩, ⟨1, none⟩, ⟨1, none⟩]
abbrev z03k : Ob := ⟨1, some [i64 0, nilsl, nilsl, nilsl]⟩
abbrev z03l (r2 : Int) (r3 : List Int) (r4 : List Int) (r5 : List F) : Ob := ⟨1, some (z03f r2 r3 r4 r5)⟩
abbrev z03m (r7 : Int) (r9 : List Int) (r10 : List Int) (r11 : List F) : Ob := ⟨1, some (z03e r7 r9 r10 r11)⟩
theorem K26_ok (a0 : List Int) (a1 : List Int) (q0 : Bool) (h : K26 a0 a1 = some q0) : Ev Try.prog 5 [sl a0.length (a0.map (ik .u8)), sl a1.length (a1.map (ik .u8))] [] (b q0) [] := by
 refine yE Try.func5 5 411 0 [(0, sl a0.length (a0.map (ik .u8))), (1, sl a1.length (a1.map (ik .u8)))] [o0, o0, o0, o0, o0] rfl ?_
 unfold K26 at h
 refine zQ<|ya rfl (b false)<|zN ?_
 refine yS<|yS ?_
 obtain ⟨r1, hf1, h⟩ := oS h
 rcases oB h with ⟨hc2, h⟩ | ⟨hc2, h⟩
 ·refine yW<|ym rfl (sl a0.length (a0.map (ik .u8)))<|ym rfl (sl a1.length (a1.map (ik .u8)))<|yd rfl (b true) (TOp.eqb (yc ent18 rfl rfl (bS (bS bN)) (K00_ok a0 a1 r1 hf1)) hc2)<|zN ?_
  refine yT<|zQ<|ya rfl (b true)<|zN ?_
  refine RunC.ret ?_
  have hq := oI h
  subst q0
  exact bR rfl
 ·refine yW<|ym rfl (sl a0.length (a0.map (ik .u8)))<|ym rfl (sl a1.length (a1.map (ik .u8)))<|yd rfl (b false) (TOp.eqb (yc ent18 rfl rfl (bS (bS bN)) (K00_ok a0 a1 r1 hf1)) hc2)<|zN ?_
  refine yF<|RunC.skip<|yS ?_
  obtain ⟨r2, r3, r4, r5, hf3, h⟩ := obind4_some h
  refine yW<|ym rfl (sl a0.length (a0.map (ik .u8)))<|yd rfl (agg (z03f r2 r3 r4 r5)) (TOp.callS (CallAs.func ent19 rfl rfl) (ALes.cons aR ALes.nil) (lts_cons (lt_sl (fun _ => rfl)) lts_nil) (lt_agg (lts_cons rfl (lts_cons (lt_sl (fun _ => rfl)) (lts_cons (lt_sl (fun _ => rfl)) (lts_cons (lt_sl (fun _ => rfl)) lts_nil))))) (K0c_ok a0 r2 r3 r4 r5 hf3) (Bor.agg (bP (Bors.cons (Bor.own (f := i64) (fun _ => rfl) rfl rfl) (Bors.cons (Bor.own (f := i64) (fun _ => rfl) rfl rfl) (Bors.cons (Bor.own (f := f32) (fun _ => rfl) rfl rfl) bN))))))<|ye rfl (optr 0 1 0) ([z03k, o0, o0, o0, o0]) (TOp.alloc_o (g := o0) 0 rfl zer30 zok30 rfl)<|ys (agg (z03f r2 r3 r4 r5)) (z03f r2 r3 r4 r5) ([(z03l r2 r3 r4 r5), o0, o0, o0, o0]) siz30<|zN ?_
  refine yS ?_
  obtain ⟨r6, hf4, h⟩ := oS h
  refine yW<|ym rfl (sl a1.length (a1.map (ik .u8)))<|yl rfl (optr 0 1 0) (LOp.fao und30 rfl siz2 rfl rfl rfl)<|yd rfl (i64 r2) (TOp.load1_o rfl rfl agg2 rfl rfl)<|yd rfl (sFc r6) (TOp.callS (CallAs.func ent25 rfl rfl) (ALes.cons aR (ALes.cons aR ALes.nil)) (lts_cons (lt_sl (fun _ => rfl)) (lts_cons rfl lts_nil)) (lt_sl (fun _ => rfl)) (K0d_ok a1 r2 r6 hf4) (Bor.own (f := f32) (fun _ => rfl) rfl rfl))<|ya rfl (sFc r6)<|zN ?_
  refine yS ?_
  obtain ⟨r7, r8, r9, r10, r11, hf5, h⟩ := obind5_some h
  refine yW<|yd rfl (agg (z03f r2 r3 r4 r5)) (yA agg30 siz30)<|yd rfl (tup [agg (z03e r7 r9 r10 r11), b r8]) (TOp.callS (CallAs.func ent41 rfl rfl) (ALes.cons aR ALes.nil) (lts_cons (lt_agg (lts_cons rfl (lts_cons (lt_sl (fun _ => rfl)) (lts_cons (lt_sl (fun _ => rfl)) (lts_cons (lt_sl (fun _ => rfl)) lts_nil))))) lts_nil) (lt_tup (lts_cons (lt_agg (lts_cons rfl (lts_cons (lt_sl (fun _ => rfl)) (lts_cons (lt_sl (fun _ => rfl)) (lts_cons (lt_sl (fun _ => rfl)) lts_nil))))) (lts_cons rfl lts_nil))) (K1c_ok r2 r3 r4 r5 r7 r8 r9 r10 r11 hf5) (Bor.tup (Bors.cons (Bor.agg (bP (Bors.cons (Bor.own (f := i64) (fun _ => rfl) rfl rfl) (Bors.cons (Bor.own (f := i64) (fun _ => rfl) rfl rfl) (Bors.cons (Bor.own (f := f32) (fun _ => rfl) rfl rfl) bN))))) bN0)))<|ym rfl (tup [agg (z03e r7 r9 r10 r11), b r8])<|yl rfl (agg (z03e r7 r9 r10 r11)) n3<|yl rfl (b r8) n3<|ye rfl (optr 1 1 0) ([(z03l r2 r3 r4 r5), z03k, o0, o0, o0]) (TOp.alloc_o (g := o0) 1 rfl zer30 zok30 rfl)<|ys (agg (z03e r7 r9 r10 r11)) (z03e r7 r9 r10 r11) ([(z03l r2 r3 r4 r5), (z03m r7 r9 r10 r11), o0, o0, o0]) siz30<|ya rfl (b r8)<|zN ?_
  refine yS ?_
  obtain ⟨r12, r13, r14, r15, r16, hf6, h⟩ := obind5_some h
  refine yW<|yd rfl (agg (z03f r2 r3 r4 r5)) (yA agg30 siz30)<|yd rfl (tup [agg (z03g r12 r14 r15 r16), b r13]) (TOp.callS (CallAs.func ent42 rfl rfl) (ALes.cons aR ALes.nil) (lts_cons (lt_agg (lts_cons rfl (lts_cons (lt_sl (fun _ => rfl)) (lts_cons (lt_sl (fun _ => rfl)) (lts_cons (lt_sl (fun _ => rfl)) lts_nil))))) lts_nil) (lt_tup (lts_cons (lt_agg (lts_cons rfl (lts_cons (lt_sl (fun _ => rfl)) (lts_cons (lt_sl (fun _ => rfl)) (lts_cons (lt_sl (fun _ => rfl)) lts_nil))))) (lts_cons rfl lts_nil))) (K1f_ok r2 r3 r4 r5 r12 r13 r14 r15 r16 hf6) (Bor.tup (Bors.cons (Bor.agg (bP (Bors.cons (Bor.own (f := i64) (fun _ => rfl) rfl rfl) (Bors.cons (Bor.own (f := i64) (fun _ => rfl) rfl rfl) (Bors.cons (Bor.own (f := f32) (fun _ => rfl) rfl rfl) bN))))) bN0)))<|ym rfl (tup [agg (z03g r12 r14 r15 r16), b r13])<|yl rfl (agg (z03g r12 r14 r15 r16)) n3<|yl rfl (b r13) n3<|ye rfl (optr 2 1 0) ([(z03l r2 r3 r4 r5), (z03m r7 r9 r10 r11), z03k, o0, o0]) (TOp.alloc_o (g := o0) 2 rfl zer30 zok30 rfl)<|ys (agg (z03g r12 r14 r15 r16)) (z03g r12 r14 r15 r16) ([(z03l r2 r3 r4 r5), (z03m r7 r9 r10 r11), ⟨1, some (z03g r12 r14 r15 r16)⟩, o0, o0]) siz30<|ya rfl (b r13)<|zN ?_
  refine yS ?_
  obtain ⟨r17, r18, r19, hf7, h⟩ := obind3_some h
  refine yW<|yd rfl (agg (z03f r2 r3 r4 r5)) (yA agg30 siz30)<|yd rfl (tup [sl r19.length (r19.map i64), i64 r17, b r18]) (TOp.callS (CallAs.func ent43 rfl rfl) (ALes.cons aR ALes.nil) (lts_cons (lt_agg (lts_cons rfl (lts_cons (lt_sl (fun _ => rfl)) (lts_cons (lt_sl (fun _ => rfl)) (lts_cons (lt_sl (fun _ => rfl)) lts_nil))))) lts_nil) (lt_tup (lts_cons (lt_sl (fun _ => rfl)) (lts_cons rfl (lts_cons rfl lts_nil)))) (K1h_ok r2 r3 r4 r5 r17 r18 r19 hf7) (Bor.tup (Bors.cons (Bor.own (f := i64) (fun _ => rfl) rfl rfl) (bP bN0))))<|ym rfl (tup [sl r19.length (r19.map i64), i64 r17, b r18])<|yl rfl (sl r19.length (r19.map i64)) n3<|yl rfl (i64 r17) n3<|yl rfl (b r18) n3<|ya rfl (sl r19.length (r19.map i64))<|ya rfl (i64 r17)<|ya rfl (b r18)<|zN ?_
  refine yS<|yS<|RunC.cutN (fun τ Γ => ( Le 411 τ Γ [(5, optr 0 1 0), (6, (sFc r6)), (7, optr 1 1 0), (9, optr 2 1 0), (90, b true)] [(z03l r2 r3 r4 r5), (z03m r7 r9 r10 r11), ⟨1, some (z03g r12 r14 r15 r16)⟩, o0, o0] ∧ K26_k2 = some q0) ∨ ( Le 411 τ Γ [(5, optr 0 1 0), (6, (sFc r6)), (7, optr 1 1 0), (9, optr 2 1 0), (90, b false)] [(z03l r2 r3 r4 r5), (z03m r7 r9 r10 r11), ⟨1, some (z03g r12 r14 r15 r16)⟩, o0, o0] ∧ K26_k4 r2 r3 r4 r5 r6 r7 r9 r10 r11 r12 r14 r15 r16 = some q0)) ?_ ?_
  ·rcases oB h with ⟨hc8, h⟩ | ⟨hc8, h⟩
   ·rcases oB h with ⟨hc9, h⟩ | ⟨hc9, h⟩
    ·rcases oB h with ⟨hc10, h⟩ | ⟨hc10, h⟩
     ·obtain ⟨r20, hf11, h⟩ := oS h
      rcases oB h with ⟨hc12, h⟩ | ⟨hc12, h⟩
      ·obtain ⟨r21, hf13, h⟩ := oS h
       rcases oB h with ⟨hc14, h⟩ | ⟨hc14, h⟩
       ·rcases oB h with ⟨hc15, h⟩ | ⟨hc15, h⟩
        ·refine yW<|yl rfl (b true) (yv hc8)<|yl rfl (b false) n1<|ym rfl (b false)<|yl rfl (b true) (yv hc9)<|yl rfl (b false) n1<|yl rfl (b false) yp<|ym rfl (b false)<|yl rfl (b true) (yv hc10)<|yl rfl (b false) n1<|yl rfl (b false) yp<|ym rfl (b false)<|yd rfl (agg (z03e r7 r9 r10 r11)) (yA agg30 siz30)<|yd rfl (b true) (TOp.eqb (TOp.callB (CallAs.func ent44 rfl rfl) (Bors.cons (Bor.agg (bP (bS (bS (bS bN))))) bN) rfl rfl (K1i_ok r7 r9 r10 r11 r20 hf11)) hc12)<|yl rfl (b false) n1<|yl rfl (b false) yp<|ym rfl (b false)<|yd rfl (agg (z03g r12 r14 r15 r16)) (yA agg30 siz30)<|yd rfl (b true) (TOp.eqb (TOp.callB (CallAs.func ent44 rfl rfl) (Bors.cons (Bor.agg (bP (bS (bS (bS bN))))) bN) rfl rfl (K1i_ok r12 r14 r15 r16 r21 hf13)) hc14)<|yl rfl (b false) n1<|yl rfl (b false) yp<|ym rfl (b false)<|yl rfl (optr 1 1 0) (LOp.fao und30 rfl siz2 rfl rfl rfl)<|yd rfl (i64 r7) (TOp.load1_o rfl rfl agg2 rfl rfl)<|yl rfl (optr 0 1 0) (LOp.fao und30 rfl siz2 rfl rfl rfl)<|yd rfl (i64 r2) (TOp.load1_o rfl rfl agg2 rfl rfl)<|yl rfl (b true) (LOp.eqb (LOp.neq rfl rfl rfl) hc15)<|yl rfl (b true) yp<|ym rfl (b true)<|yR rfl<|yR rfl<|yR rfl<|yR rfl<|yR rfl<|yl rfl (b true) yq<|zN ?_
         exact .inl ⟨(Le.of ⟨aR, aR, aR, aR, aR, trivial⟩ ⟨dR, dR, dR, dR, dR, trivial⟩), h⟩
        ·rcases oB h with ⟨hc16, h⟩ | ⟨hc16, h⟩
         ·refine yW<|yl rfl (b true) (yv hc8)<|yl rfl (b false) n1<|ym rfl (b false)<|yl rfl (b true) (yv hc9)<|yl rfl (b false) n1<|yl rfl (b false) yp<|ym rfl (b false)<|yl rfl (b true) (yv hc10)<|yl rfl (b false) n1<|yl rfl (b false) yp<|ym rfl (b false)<|yd rfl (agg (z03e r7 r9 r10 r11)) (yA agg30 siz30)<|yd rfl (b true) (TOp.eqb (TOp.callB (CallAs.func ent44 rfl rfl) (Bors.cons (Bor.agg (bP (bS (bS (bS bN))))) bN) rfl rfl (K1i_ok r7 r9 r10 r11 r20 hf11)) hc12)<|yl rfl (b false) n1<|yl rfl (b false) yp<|ym rfl (b false)<|yd rfl (agg (z03g r12 r14 r15 r16)) (yA agg30 siz30)<|yd rfl (b true) (TOp.eqb (TOp.callB (CallAs.func ent44 rfl rfl) (Bors.cons (Bor.agg (bP (bS (bS (bS bN))))) bN) rfl rfl (K1i_ok r12 r14 r15 r16 r21 hf13)) hc14)<|yl rfl (b false) n1<|yl rfl (b false) yp<|ym rfl (b false)<|yl rfl (optr 1 1 0) (LOp.fao und30 rfl siz2 rfl rfl rfl)<|yd rfl (i64 r7) (TOp.load1_o rfl rfl agg2 rfl rfl)<|yl rfl (optr 0 1 0) (LOp.fao und30 rfl siz2 rfl rfl rfl)<|yd rfl (i64 r2) (TOp.load1_o rfl rfl agg2 rfl rfl)<|yl rfl (b false) (LOp.eqb (LOp.neq rfl rfl rfl) hc15)<|yl rfl (b false) yp<|ym rfl (b false)<|yl rfl (optr 1 1 3) (LOp.fao und30 rfl siz23 rfl rfl rfl)<|yd rfl (sFc r11) (TOp.load1_o rfl rfl agg23 rfl rfl)<|yl rfl (i64 (r11.length : Int)) (LOp.len_sl und23 rfl rfl)<|ym rfl (i64 r17)<|yl rfl (b true) (LOp.eqb (LOp.neq rfl rfl rfl) hc16)<|yl rfl (b true) yp<|zN ?_
          exact .inl ⟨(Le.of ⟨aR, aR, aR, aR, aR, trivial⟩ ⟨dR, dR, dR, dR, dR, trivial⟩), h⟩
         ·refine yW<|yl rfl (b true) (yv hc8)<|yl rfl (b false) n1<|ym rfl (b false)<|yl rfl (b true) (yv hc9)<|yl rfl (b false) n1<|yl rfl (b false) yp<|ym rfl (b false)<|yl rfl (b true) (yv hc10)<|yl rfl (b false) n1<|yl rfl (b false) yp<|ym rfl (b false)<|yd rfl (agg (z03e r7 r9 r10 r11)) (yA agg30 siz30)<|yd rfl (b true) (TOp.eqb (TOp.callB (CallAs.func ent44 rfl rfl) (Bors.cons (Bor.agg (bP (bS (bS (bS bN))))) bN) rfl rfl (K1i_ok r7 r9 r10 r11 r20 hf11)) hc12)<|yl rfl (b false) n1<|yl rfl (b false) yp<|ym rfl (b false)<|yd rfl (agg (z03g r12 r14 r15 r16)) (yA agg30 siz30)<|yd rfl (b true) (TOp.eqb (TOp.callB (CallAs.func ent44 rfl rfl) (Bors.cons (Bor.agg (bP (bS (bS (bS bN))))) bN) rfl rfl (K1i_ok r12 r14 r15 r16 r21 hf13)) hc14)<|yl rfl (b false) n1<|yl rfl (b false) yp<|ym rfl (b false)<|yl rfl (optr 1 1 0) (LOp.fao und30 rfl siz2 rfl rfl rfl)<|yd rfl (i64 r7) (TOp.load1_o rfl rfl agg2 rfl rfl)<|yl rfl (optr 0 1 0) (LOp.fao und30 rfl siz2 rfl rfl rfl)<|yd rfl (i64 r2) (TOp.load1_o rfl rfl agg2 rfl rfl)<|yl rfl (b false) (LOp.eqb (LOp.neq rfl rfl rfl) hc15)<|yl rfl (b false) yp<|ym rfl (b false)<|yl rfl (optr 1 1 3) (LOp.fao und30 rfl siz23 rfl rfl rfl)<|yd rfl (sFc r11) (TOp.load1_o rfl rfl agg23 rfl rfl)<|yl rfl (i64 (r11.length : Int)) (LOp.len_sl und23 rfl rfl)<|ym rfl (i64 r17)<|yl rfl (b false) (LOp.eqb (LOp.neq rfl rfl rfl) hc16)<|yl rfl (b false) yp<|zN ?_
          exact .inr (⟨(Le.of ⟨aR, aR, aR, aR, aR, trivial⟩ ⟨dR, dR, dR, dR, dR, trivial⟩), h⟩)
       ·refine yW<|yl rfl (b true) (yv hc8)<|yl rfl (b false) n1<|ym rfl (b false)<|yl rfl (b true) (yv hc9)<|yl rfl (b false) n1<|yl rfl (b false) yp<|ym rfl (b false)<|yl rfl (b true) (yv hc10)<|yl rfl (b false) n1<|yl rfl (b false) yp<|ym rfl (b false)<|yd rfl (agg (z03e r7 r9 r10 r11)) (yA agg30 siz30)<|yd rfl (b true) (TOp.eqb (TOp.callB (CallAs.func ent44 rfl rfl) (Bors.cons (Bor.agg (bP (bS (bS (bS bN))))) bN) rfl rfl (K1i_ok r7 r9 r10 r11 r20 hf11)) hc12)<|yl rfl (b false) n1<|yl rfl (b false) yp<|ym rfl (b false)<|yd rfl (agg (z03g r12 r14 r15 r16)) (yA agg30 siz30)<|yd rfl (b false) (TOp.eqb (TOp.callB (CallAs.func ent44 rfl rfl) (Bors.cons (Bor.agg (bP (bS (bS (bS bN))))) bN) rfl rfl (K1i_ok r12 r14 r15 r16 r21 hf13)) hc14)<|yl rfl (b true) n0<|yl rfl (b true) yp<|ym rfl (b true)<|yR rfl<|yR rfl<|yR rfl<|yR rfl<|yR rfl<|yl rfl (b true) yq<|ym rfl (b true)<|yR rfl<|yR rfl<|yR rfl<|yR rfl<|yR rfl<|yl rfl (b true) yq<|zN ?_
        exact .inl ⟨(Le.of ⟨aR, aR, aR, aR, aR, trivial⟩ ⟨dR, dR, dR, dR, dR, trivial⟩), h⟩
      ·refine yW<|yl rfl (b true) (yv hc8)<|yl rfl (b false) n1<|ym rfl (b false)<|yl rfl (b true) (yv hc9)<|yl rfl (b false) n1<|yl rfl (b false) yp<|ym rfl (b false)<|yl rfl (b true) (yv hc10)<|yl rfl (b false) n1<|yl rfl (b false) yp<|ym rfl (b false)<|yd rfl (agg (z03e r7 r9 r10 r11)) (yA agg30 siz30)<|yd rfl (b false) (TOp.eqb (TOp.callB (CallAs.func ent44 rfl rfl) (Bors.cons (Bor.agg (bP (bS (bS (bS bN))))) bN) rfl rfl (K1i_ok r7 r9 r10 r11 r20 hf11)) hc12)<|yl rfl (b true) n0<|yl rfl (b true) yp<|ym rfl (b true)<|yR rfl<|yR rfl<|yR rfl<|yl rfl (b true) yq<|ym rfl (b true)<|yR rfl<|yR rfl<|yR rfl<|yR rfl<|yR rfl<|yl rfl (b true) yq<|ym rfl (b true)<|yR rfl<|yR rfl<|yR rfl<|yR rfl<|yR rfl<|yl rfl (b true) yq<|zN ?_
       exact .inl ⟨(Le.of ⟨aR, aR, aR, aR, aR, trivial⟩ ⟨dR, dR, dR, dR, dR, trivial⟩), h⟩
     ·refine yW<|yl rfl (b true) (yv hc8)<|yl rfl (b false) n1<|ym rfl (b false)<|yl rfl (b true) (yv hc9)<|yl rfl (b false) n1<|yl rfl (b false) yp<|ym rfl (b false)<|yl rfl (b false) (yv hc10)<|yl rfl (b true) n0<|yl rfl (b true) yp<|ym rfl (b true)<|yR rfl<|yR rfl<|yR rfl<|yl rfl (b true) yq<|ym rfl (b true)<|yR rfl<|yR rfl<|yR rfl<|yl rfl (b true) yq<|ym rfl (b true)<|yR rfl<|yR rfl<|yR rfl<|yR rfl<|yR rfl<|yl rfl (b true) yq<|ym rfl (b true)<|yR rfl<|yR rfl<|yR rfl<|yR rfl<|yR rfl<|yl rfl (b true) yq<|zN ?_
      exact .inl ⟨(Le.of ⟨aR, aR, aR, aR, aR, trivial⟩ ⟨dR, dR, dR, dR, dR, trivial⟩), h⟩
    ·refine yW<|yl rfl (b true) (yv hc8)<|yl rfl (b false) n1<|ym rfl (b false)<|yl rfl (b false) (yv hc9)<|yl rfl (b true) n0<|yl rfl (b true) yp<|ym rfl (b true)<|yR rfl<|yR rfl<|yl rfl (b true) yq<|ym rfl (b true)<|yR rfl<|yR rfl<|yR rfl<|yl rfl (b true) yq<|ym rfl (b true)<|yR rfl<|yR rfl<|yR rfl<|yl rfl (b true) yq<|ym rfl (b true)<|yR rfl<|yR rfl<|yR rfl<|yR rfl<|yR rfl<|yl rfl (b true) yq<|ym rfl (b true)<|yR rfl<|yR rfl<|yR rfl<|yR rfl<|yR rfl<|yl rfl (b true) yq<|zN ?_
     exact .inl ⟨(Le.of ⟨aR, aR, aR, aR, aR, trivial⟩ ⟨dR, dR, dR, dR, dR, trivial⟩), h⟩
   ·refine yW<|yl rfl (b false) (yv hc8)<|yl rfl (b true) n0<|ym rfl (b true)<|yR rfl<|yR rfl<|yl rfl (b true) yq<|ym rfl (b true)<|yR rfl<|yR rfl<|yl rfl (b true) yq<|ym rfl (b true)<|yR rfl<|yR rfl<|yR rfl<|yl rfl (b true) yq<|ym rfl (b true)<|yR rfl<|yR rfl<|yR rfl<|yl rfl (b true) yq<|ym rfl (b true)<|yR rfl<|yR rfl<|yR rfl<|yR rfl<|yR rfl<|yl rfl (b true) yq<|ym rfl (b true)<|yR rfl<|yR rfl<|yR rfl<|yR rfl<|yR rfl<|yl rfl (b true) yq<|zN ?_
    exact .inl ⟨(Le.of ⟨aR, aR, aR, aR, aR, trivial⟩ ⟨dR, dR, dR, dR, dR, trivial⟩), h⟩
  ·rintro τ16 Γ16 (⟨hw16, h⟩ | ⟨hw16, h⟩)
   ·refine RunC.le (τ' := [(5, optr 0 1 0), (6, (sFc r6)), (7, optr 1 1 0), (9, optr 2 1 0), (90, b true)]) (Γ' := [(z03l r2 r3 r4 r5), (z03m r7 r9 r10 r11), ⟨1, some (z03g r12 r14 r15 r16)⟩, o0, o0]) hw16 ?_
    unfold K26_k2 at h
    refine yT<|zQ<|ya rfl (b false)<|zN ?_
    refine RunC.ret ?_
    have hq := oI h
    subst q0
    exact bR rfl
   ·refine RunC.le (τ' := [(5, optr 0 1 0), (6, (sFc r6)), (7, optr 1 1 0), (9, optr 2 1 0), (90, b false)]) (Γ' := [(z03l r2 r3 r4 r5), (z03m r7 r9 r10 r11), ⟨1, some (z03g r12 r14 r15 r16)⟩, o0, o0]) hw16 ?_
    unfold K26_k4 at h
    refine yF<|RunC.skip<|yS ?_
    obtain ⟨r22, r23, r24, r25, r26, hf17, h⟩ := obind5_some h
    refine yW<|yd rfl (agg (z03e r7 r9 r10 r11)) (yA agg30 siz30)<|yd rfl (tup [agg (z03h r22 r24 r25 r26), b r23]) (TOp.callS (CallAs.func ent45 rfl rfl) (ALes.cons aR ALes.nil) (lts_cons (lt_agg (lts_cons rfl (lts_cons (lt_sl (fun _ => rfl)) (lts_cons (lt_sl (fun _ => rfl)) (lts_cons (lt_sl (fun _ => rfl)) lts_nil))))) lts_nil) (lt_tup (lts_cons (lt_agg (lts_cons rfl (lts_cons (lt_sl (fun _ => rfl)) (lts_cons (lt_sl (fun _ => rfl)) (lts_cons (lt_sl (fun _ => rfl)) lts_nil))))) (lts_cons rfl lts_nil))) (K1l_ok r7 r9 r10 r11 r22 r23 r24 r25 r26 hf17) (Bor.tup (Bors.cons (Bor.agg (bP (Bors.cons (Bor.own (f := i64) (fun _ => rfl) rfl rfl) (Bors.cons (Bor.own (f := i64) (fun _ => rfl) rfl rfl) (Bors.cons (Bor.own (f := f32) (fun _ => rfl) rfl rfl) bN))))) bN0)))<|ym rfl (tup [agg (z03h r22 r24 r25 r26), b r23])<|yl rfl (agg (z03h r22 r24 r25 r26)) n3<|yl rfl (b r23) n3<|ye rfl (optr 3 1 0) ([(z03l r2 r3 r4 r5), (z03m r7 r9 r10 r11), ⟨1, some (z03g r12 r14 r15 r16)⟩, z03k, o0]) (TOp.alloc_o (g := o0) 3 rfl zer30 zok30 rfl)<|ys (agg (z03h r22 r24 r25 r26)) (z03h r22 r24 r25 r26) ([(z03l r2 r3 r4 r5), (z03m r7 r9 r10 r11), ⟨1, some (z03g r12 r14 r15 r16)⟩, ⟨1, some (z03h r22 r24 r25 r26)⟩, o0]) siz30<|ya rfl (b r23)<|zN ?_
    refine yS ?_
    obtain ⟨r27, r28, r29, r30, r31, hf18, h⟩ := obind5_some h
    refine yW<|yd rfl (agg (z03e r7 r9 r10 r11)) (yA agg30 siz30)<|yd rfl (agg (z03h r22 r24 r25 r26)) (yA agg30 siz30)<|yd rfl (tup [agg (z03i r27 r29 r30 r31), b r28]) (TOp.callS (CallAs.func ent46 rfl rfl) (ALes.cons aR (ALes.cons aR ALes.nil)) (lts_cons (lt_agg (lts_cons rfl (lts_cons (lt_sl (fun _ => rfl)) (lts_cons (lt_sl (fun _ => rfl)) (lts_cons (lt_sl (fun _ => rfl)) lts_nil))))) (lts_cons (lt_agg (lts_cons rfl (lts_cons (lt_sl (fun _ => rfl)) (lts_cons (lt_sl (fun _ => rfl)) (lts_cons (lt_sl (fun _ => rfl)) lts_nil))))) lts_nil)) (lt_tup (lts_cons (lt_agg (lts_cons rfl (lts_cons (lt_sl (fun _ => rfl)) (lts_cons (lt_sl (fun _ => rfl)) (lts_cons (lt_sl (fun _ => rfl)) lts_nil))))) (lts_cons rfl lts_nil))) (K1m_ok r7 r9 r10 r11 r22 r24 r25 r26 r27 r28 r29 r30 r31 hf18) (Bor.tup (Bors.cons (Bor.agg (bP (Bors.cons (Bor.own (f := i64) (fun _ => rfl) rfl rfl) (Bors.cons (Bor.own (f := i64) (fun _ => rfl) rfl rfl) (Bors.cons (Bor.own (f := f32) (fun _ => rfl) rfl rfl) bN))))) bN0)))<|ym rfl (tup [agg (z03i r27 r29 r30 r31), b r28])<|yl rfl (agg (z03i r27 r29 r30 r31)) n3<|yl rfl (b r28) n3<|ye rfl (optr 4 1 0) ([(z03l r2 r3 r4 r5), (z03m r7 r9 r10 r11), ⟨1, some (z03g r12 r14 r15 r16)⟩, ⟨1, some (z03h r22 r24 r25 r26)⟩, z03k]) (TOp.alloc_o (g := o0) 4 rfl zer30 zok30 rfl)<|ys (agg (z03i r27 r29 r30 r31)) (z03i r27 r29 r30 r31) ([(z03l r2 r3 r4 r5), (z03m r7 r9 r10 r11), ⟨1, some (z03g r12 r14 r15 r16)⟩, ⟨1, some (z03h r22 r24 r25 r26)⟩, ⟨1, some (z03i r27 r29 r30 r31)⟩]) siz30<|ya rfl (b r28)<|zN ?_
    refine RunC.wl (τ' := [(5, optr 0 1 0), (6, (sFc r6)), (7, optr 1 1 0), (9, optr 2 1 0), (15, b r23), (16, optr 4 1 0), (17, b r28)]) (Γ' := (z03d r2 r3 r4 r5 r7 r9 r10 r11 r12 r14 r15 r16 r27 r29 r30 r31)) ⟨aR, aR, aR, aR, aR, aR, aR, trivial⟩ ⟨dR, dR, dR, dL, dR, trivial⟩<|yS ?_
    obtain ⟨r32, r33, hf19, h⟩ := obind2_some h
    refine yW<|yd rfl (agg (z03e r7 r9 r10 r11)) (yA agg30 siz30)<|ym rfl (sFc r6)<|yd rfl (tup [(sFc r33), b r32]) (TOp.callS (CallAs.func ent47 rfl rfl) (ALes.cons aR (ALes.cons aR ALes.nil)) (lts_cons (lt_agg (lts_cons rfl (lts_cons (lt_sl (fun _ => rfl)) (lts_cons (lt_sl (fun _ => rfl)) (lts_cons (lt_sl (fun _ => rfl)) lts_nil))))) (lts_cons (lt_sl (fun _ => rfl)) lts_nil)) (lt_tup (lts_cons (lt_sl (fun _ => rfl)) (lts_cons rfl lts_nil))) (K1y_ok r7 r9 r10 r11 r6 r32 r33 hf19) (Bor.tup (Bors.cons (Bor.own (f := f32) (fun _ => rfl) rfl rfl) bN0)))<|ym rfl (tup [(sFc r33), b r32])<|yl rfl (sFc r33) n3<|yl rfl (b r32) n3<|ya rfl (sFc r33)<|ya rfl (b r32)<|zN ?_
    refine yS ?_
    obtain ⟨r34, r35, hf20, h⟩ := obind2_some h
    refine yW<|yd rfl (agg (z03f r2 r3 r4 r5)) (yA agg30 siz30)<|ym rfl (sFc r33)<|yd rfl (tup [(sFc r35), b r34]) (TOp.callS (CallAs.func ent48 rfl rfl) (ALes.cons aR (ALes.cons aR ALes.nil)) (lts_cons (lt_agg (lts_cons rfl (lts_cons (lt_sl (fun _ => rfl)) (lts_cons (lt_sl (fun _ => rfl)) (lts_cons (lt_sl (fun _ => rfl)) lts_nil))))) (lts_cons (lt_sl (fun _ => rfl)) lts_nil)) (lt_tup (lts_cons (lt_sl (fun _ => rfl)) (lts_cons rfl lts_nil))) (K22_ok r2 r3 r4 r5 r33 r34 r35 hf20) (Bor.tup (Bors.cons (Bor.own (f := f32) (fun _ => rfl) rfl rfl) bN0)))<|ym rfl (tup [(sFc r35), b r34])<|yl rfl (sFc r35) n3<|yl rfl (b r34) n3<|ya rfl (sFc r35)<|ya rfl (b r34)<|zN ?_
    refine yS<|yS<|RunC.cutN (fun τ Γ => ( Le 411 τ Γ [(5, optr 0 1 0), (6, (sFc r6)), (7, optr 1 1 0), (9, optr 2 1 0), (16, optr 4 1 0), (132, b true)] (z03d r2 r3 r4 r5 r7 r9 r10 r11 r12 r14 r15 r16 r27 r29 r30 r31) ∧ K26_k6 = some q0) ∨ ( Le 411 τ Γ [(5, optr 0 1 0), (6, (sFc r6)), (7, optr 1 1 0), (9, optr 2 1 0), (16, optr 4 1 0), (132, b false)] (z03d r2 r3 r4 r5 r7 r9 r10 r11 r12 r14 r15 r16 r27 r29 r30 r31) ∧ K26_k8 r2 r3 r4 r5 r6 r11 r12 r14 r15 r16 r27 r29 r30 r31 = some q0)) ?_ ?_
    ·rcases oB h with ⟨hc21, h⟩ | ⟨hc21, h⟩
     ·rcases oB h with ⟨hc22, h⟩ | ⟨hc22, h⟩
      ·rcases oB h with ⟨hc23, h⟩ | ⟨hc23, h⟩
       ·rcases oB h with ⟨hc24, h⟩ | ⟨hc24, h⟩
        ·obtain ⟨r36, hf25, h⟩ := oS h
         rcases oB h with ⟨hc26, h⟩ | ⟨hc26, h⟩
         ·refine yW<|yl rfl (b true) (yv hc21)<|yl rfl (b false) n1<|ym rfl (b false)<|yl rfl (b true) (yv hc22)<|yl rfl (b false) n1<|yl rfl (b false) yp<|ym rfl (b false)<|yl rfl (b true) (yv hc23)<|yl rfl (b false) n1<|yl rfl (b false) yp<|ym rfl (b false)<|yl rfl (b true) (yv hc24)<|yl rfl (b false) n1<|yl rfl (b false) yp<|ym rfl (b false)<|ym rfl (sFc r35)<|ym rfl (sFc r6)<|yd rfl (b true) (TOp.eqb (yc ent34 rfl rfl (bS (bS (Bors.cons (Bor.le (ALe.fl (by kernel_rfl) (by kernel_rfl)) (Bor.pure rfl)) bN))) (K24_ok r35 r6 (some 4562254508917369340) r36 hf25)) hc26)<|yl rfl (b true) yp<|zN ?_
          exact .inl ⟨(Le.of ⟨aR, aR, aR, aR, aR, aR, trivial⟩ ⟨dR, dR, dR, dL, dR, trivial⟩), h⟩
         ·refine yW<|yl rfl (b true) (yv hc21)<|yl rfl (b false) n1<|ym rfl (b false)<|yl rfl (b true) (yv hc22)<|yl rfl (b false) n1<|yl rfl (b false) yp<|ym rfl (b false)<|yl rfl (b true) (yv hc23)<|yl rfl (b false) n1<|yl rfl (b false) yp<|ym rfl (b false)<|yl rfl (b true) (yv hc24)<|yl rfl (b false) n1<|yl rfl (b false) yp<|ym rfl (b false)<|ym rfl (sFc r35)<|ym rfl (sFc r6)<|yd rfl (b false) (TOp.eqb (yc ent34 rfl rfl (bS (bS (Bors.cons (Bor.le (ALe.fl (by kernel_rfl) (by kernel_rfl)) (Bor.pure rfl)) bN))) (K24_ok r35 r6 (some 4562254508917369340) r36 hf25)) hc26)<|yl rfl (b false) yp<|zN ?_
          exact .inr (⟨(Le.of ⟨aR, aR, aR, aR, aR, aR, trivial⟩ ⟨dR, dR, dR, dL, dR, trivial⟩), h⟩)
        ·refine yW<|yl rfl (b true) (yv hc21)<|yl rfl (b false) n1<|ym rfl (b false)<|yl rfl (b true) (yv hc22)<|yl rfl (b false) n1<|yl rfl (b false) yp<|ym rfl (b false)<|yl rfl (b true) (yv hc23)<|yl rfl (b false) n1<|yl rfl (b false) yp<|ym rfl (b false)<|yl rfl (b false) (yv hc24)<|yl rfl (b true) n0<|yl rfl (b true) yp<|ym rfl (b true)<|yR rfl<|yR rfl<|yR rfl<|yl rfl (b true) yq<|zN ?_
         exact .inl ⟨(Le.of ⟨aR, aR, aR, aR, aR, aR, trivial⟩ ⟨dR, dR, dR, dL, dR, trivial⟩), h⟩
       ·refine yW<|yl rfl (b true) (yv hc21)<|yl rfl (b false) n1<|ym rfl (b false)<|yl rfl (b true) (yv hc22)<|yl rfl (b false) n1<|yl rfl (b false) yp<|ym rfl (b false)<|yl rfl (b false) (yv hc23)<|yl rfl (b true) n0<|yl rfl (b true) yp<|ym rfl (b true)<|yR rfl<|yR rfl<|yl rfl (b true) yq<|ym rfl (b true)<|yR rfl<|yR rfl<|yR rfl<|yl rfl (b true) yq<|zN ?_
        exact .inl ⟨(Le.of ⟨aR, aR, aR, aR, aR, aR, trivial⟩ ⟨dR, dR, dR, dL, dR, trivial⟩), h⟩
      ·refine yW<|yl rfl (b true) (yv hc21)<|yl rfl (b false) n1<|ym rfl (b false)<|yl rfl (b false) (yv hc22)<|yl rfl (b true) n0<|yl rfl (b true) yp<|ym rfl (b true)<|yR rfl<|yR rfl<|yl rfl (b true) yq<|ym rfl (b true)<|yR rfl<|yR rfl<|yl rfl (b true) yq<|ym rfl (b true)<|yR rfl<|yR rfl<|yR rfl<|yl rfl (b true) yq<|zN ?_
       exact .inl ⟨(Le.of ⟨aR, aR, aR, aR, aR, aR, trivial⟩ ⟨dR, dR, dR, dL, dR, trivial⟩), h⟩
     ·refine yW<|yl rfl (b false) (yv hc21)<|yl rfl (b true) n0<|ym rfl (b true)<|yR rfl<|yR rfl<|yl rfl (b true) yq<|ym rfl (b true)<|yR rfl<|yR rfl<|yl rfl (b true) yq<|ym rfl (b true)<|yR rfl<|yR rfl<|yl rfl (b true) yq<|ym rfl (b true)<|yR rfl<|yR rfl<|yR rfl<|yl rfl (b true) yq<|zN ?_
      exact .inl ⟨(Le.of ⟨aR, aR, aR, aR, aR, aR, trivial⟩ ⟨dR, dR, dR, dL, dR, trivial⟩), h⟩
    ·rintro τ17 Γ17 (⟨hw17, h⟩ | ⟨hw17, h⟩)
     ·refine RunC.le (τ' := [(5, optr 0 1 0), (6, (sFc r6)), (7, optr 1 1 0), (9, optr 2 1 0), (16, optr 4 1 0), (132, b true)]) (Γ' := (z03d r2 r3 r4 r5 r7 r9 r10 r11 r12 r14 r15 r16 r27 r29 r30 r31)) hw17 ?_
      unfold K26_k6 at h
      refine yT<|zQ<|ya rfl (b false)<|zN ?_
      refine RunC.ret ?_
      have hq := oI h
      subst q0
      exact bR rfl
     ·refine RunC.le (τ' := [(5, optr 0 1 0), (6, (sFc r6)), (7, optr 1 1 0), (9, optr 2 1 0), (16, optr 4 1 0), (132, b false)]) (Γ' := (z03d r2 r3 r4 r5 r7 r9 r10 r11 r12 r14 r15 r16 r27 r29 r30 r31)) hw17 ?_
      unfold K26_k8 at h
      refine yF<|RunC.skip<|yS<|zQ<|ya rfl (i64 0)<|zN ?_
      obtain ⟨z18, hz_18, h⟩ := oS h
      refine RunC.cutN (fun τ Γ => Le 411 τ Γ [(5, optr 0 1 0), (6, (sFc r6)), (7, optr 1 1 0), (9, optr 2 1 0)] [(z03l r2 r3 r4 r5), (z03m r7 r9 r10 r11), ⟨1, some (z03g r12 r14 r15 r16)⟩, ⟨1, none⟩, ⟨1, none⟩] ∧ z18 = .inl ()) ?_ ?_
      ·refine RunC.block (RunC.loop (RunL.loopM (x := z18) (K26_s11 r2 r3 r4 r5 r27 r29 r30 r31) (fun (s : Int) τ Γ => Le 411 τ Γ [(5, optr 0 1 0), (6, (sFc r6)), (7, optr 1 1 0), (9, optr 2 1 0), (16, optr 4 1 0), (22, i64 s)] (z03d r2 r3 r4 r5 r7 r9 r10 r11 r12 r14 r15 r16 r27 r29 r30 r31)) ?_ _ _ _ hz_18 (Le.of ⟨aR, aR, aR, aR, aR, aR, trivial⟩ ⟨dR, dR, dR, dL, dR, trivial⟩)))
       rintro v37 τ18 Γ18 y18_ hw18 h18_ ho18 hr18
       refine RunC.le (τ' := [(5, optr 0 1 0), (6, (sFc r6)), (7, optr 1 1 0), (9, optr 2 1 0), (16, optr 4 1 0), (22, i64 v37)]) (Γ' := (z03d r2 r3 r4 r5 r7 r9 r10 r11 r12 r14 r15 r16 r27 r29 r30 r31)) hw18 ?_
       replace h18_ : K26_b11 r2 r3 r4 r5 r27 r29 r30 r31 v37 = some y18_ := h18_
       unfold K26_b11 at h18_
       refine yS<|yS ?_
       rcases oB h18_ with ⟨hc27, h18_⟩ | ⟨hc27, h18_⟩
       ·refine yW<|ym rfl (i64 v37)<|yl rfl (optr 0 1 0) (LOp.fao und30 rfl siz2 rfl rfl rfl)<|yd rfl (i64 r2) (TOp.load1_o rfl rfl agg2 rfl rfl)<|yl rfl (b true) (LOp.eqb (LOp.lss rfl rfl rfl) hc27)<|zN ?_
        refine yT<|RunC.skip<|yS<|RunC.block<|zQ<|ya rfl (i64 0)<|zN ?_
        obtain ⟨z19, hz_19, h18_⟩ := oS h18_
        refine RunC.cutN (fun τ Γ => Le 411 τ Γ [(5, optr 0 1 0), (6, (sFc r6)), (7, optr 1 1 0), (9, optr 2 1 0), (16, optr 4 1 0), (22, i64 v37)] (z03d r2 r3 r4 r5 r7 r9 r10 r11 r12 r14 r15 r16 r27 r29 r30 r31) ∧ z19 = .inl ()) ?_ ?_
        ·refine RunC.block (RunC.loop (RunL.loopM (x := z19) (K26_s10 r2 r3 r4 r5 r27 r29 r30 r31 v37) (fun (s : Int) τ Γ => Le 411 τ Γ [(5, optr 0 1 0), (6, (sFc r6)), (7, optr 1 1 0), (9, optr 2 1 0), (16, optr 4 1 0), (22, i64 v37), (23, i64 s)] (z03d r2 r3 r4 r5 r7 r9 r10 r11 r12 r14 r15 r16 r27 r29 r30 r31)) ?_ _ _ _ hz_19 (Le.of ⟨aR, aR, aR, aR, aR, aR, aR, trivial⟩ ⟨dR, dR, dR, dL, dR, trivial⟩)))
         rintro v38 τ19 Γ19 y19_ hw19 h19_ ho19 hr19
         refine RunC.le (τ' := [(5, optr 0 1 0), (6, (sFc r6)), (7, optr 1 1 0), (9, optr 2 1 0), (16, optr 4 1 0), (22, i64 v37), (23, i64 v38)]) (Γ' := (z03d r2 r3 r4 r5 r7 r9 r10 r11 r12 r14 r15 r16 r27 r29 r30 r31)) hw19 ?_
         replace h19_ : K26_b10 r2 r3 r4 r5 r27 r29 r30 r31 v37 v38 = some y19_ := h19_
         unfold K26_b10 at h19_
         refine yS<|yS ?_
         rcases oB h19_ with ⟨hc28, h19_⟩ | ⟨hc28, h19_⟩
         ·refine yW<|ym rfl (i64 v38)<|yl rfl (optr 0 1 0) (LOp.fao und30 rfl siz2 rfl rfl rfl)<|yd rfl (i64 r2) (TOp.load1_o rfl rfl agg2 rfl rfl)<|yl rfl (b true) (LOp.eqb (LOp.lss rfl rfl rfl) hc28)<|zN ?_
          refine yT<|RunC.skip<|yS<|RunC.block<|yS ?_
          obtain ⟨r39, r40, hf29, h19_⟩ := obind2_some h19_
          refine yW<|yd rfl (agg (z03i r27 r29 r30 r31)) (yA agg30 siz30)<|ym rfl (i64 v37)<|ym rfl (i64 v38)<|yd rfl (tup [f32 r39, b r40]) (TOp.callB (CallAs.func ent38 rfl rfl) (Bors.cons (Bor.agg (bP (bS (bS (bS bN))))) (bP bN0)) rfl rfl (K25_ok r27 r29 r30 r31 v37 v38 r39 r40 hf29))<|ym rfl (tup [f32 r39, b r40])<|yl rfl (f32 r39) n3<|yl rfl (b r40) n3<|ya rfl (f32 r39)<|ya rfl (b r40)<|zN ?_
          refine yS ?_
          obtain ⟨r41, r42, hf30, h19_⟩ := obind2_some h19_
          refine yW<|yd rfl (agg (z03f r2 r3 r4 r5)) (yA agg30 siz30)<|ym rfl (i64 v37)<|ym rfl (i64 v38)<|yd rfl (tup [f32 r41, b r42]) (TOp.callB (CallAs.func ent38 rfl rfl) (Bors.cons (Bor.agg (bP (bS (bS (bS bN))))) (bP bN0)) rfl rfl (K25_ok r2 r3 r4 r5 v37 v38 r41 r42 hf30))<|ym rfl (tup [f32 r41, b r42])<|yl rfl (f32 r41) n3<|yl rfl (b r42) n3<|ya rfl (f32 r41)<|ya rfl (b r42)<|zN ?_
          refine yS ?_
          rcases oB h19_ with ⟨hc31, h19_⟩ | ⟨hc31, h19_⟩
          ·rcases oB h19_ with ⟨hc32, h19_⟩ | ⟨hc32, h19_⟩
           ·obtain ⟨x43, hx33, h19_⟩ := oL h19_
            obtain ⟨x44, hx34, h19_⟩ := oL h19_
            obtain ⟨r45, hf35, h19_⟩ := oS h19_
            rcases oB h19_ with ⟨hc36, h19_⟩ | ⟨hc36, h19_⟩
            ·refine yW<|yl rfl (b true) (yv hc31)<|yl rfl (b false) n1<|ym rfl (b false)<|yl rfl (b true) (yv hc32)<|yl rfl (b false) n1<|yl rfl (b false) yp<|ym rfl (b false)<|ym rfl (f32 r39)<|yd rfl (f64 x43) (TOp.eqr (TOp.widen (src := 26) (dst := 56) ⟨_, pun26⟩ pun56 rfl (OpF.tmp rfl)) (congrArg (f .f64) hx33))<|ym rfl (f32 r41)<|yd rfl (f64 x44) (TOp.eqr (TOp.widen (src := 26) (dst := 56) ⟨_, pun26⟩ pun56 rfl (OpF.tmp rfl)) (congrArg (f .f64) hx34))<|yd rfl (f64 r45) (yc ent40 rfl rfl (bP bN0) (K23_ok x43 x44 r45 hf35))<|yl rfl (b true) (LOp.eqb (LOp.fgt rfl (OpF.tmp rfl) (OpF.const rfl (by kernel_rfl) (by kernel_rfl))) hc36)<|yl rfl (b true) yp<|zN ?_
             refine RunC.wl (τ' := [(5, optr 0 1 0), (6, (sFc r6)), (7, optr 1 1 0), (9, optr 2 1 0), (16, optr 4 1 0), (22, i64 v37), (23, i64 v38), (162, b true), (163, b false), (166, f32 r39), (167, f64 x43), (168, f32 r41), (169, f64 x44), (170, f64 r45), (171, b true), (172, b true)]) (Γ' := (z03d r2 r3 r4 r5 r7 r9 r10 r11 r12 r14 r15 r16 r27 r29 r30 r31)) ⟨aR, aR, aR, aR, aR, aR, aR, aR, aR, aR, aR, aR, aR, aR, aR, aR, trivial⟩ ⟨dR, dR, dR, dL, dR, trivial⟩<|yT<|zQ<|ya rfl (b false)<|zN ?_
             refine RunC.ret ?_
             cases oI h19_
             have hx20_ := hr19 _ rfl
             subst hx20_
             cases oI h18_
             have hx21_ := hr18 _ rfl
             subst hx21_
             have hq := oI h
             subst q0
             exact bR rfl
            ·refine yW<|yl rfl (b true) (yv hc31)<|yl rfl (b false) n1<|ym rfl (b false)<|yl rfl (b true) (yv hc32)<|yl rfl (b false) n1<|yl rfl (b false) yp<|ym rfl (b false)<|ym rfl (f32 r39)<|yd rfl (f64 x43) (TOp.eqr (TOp.widen (src := 26) (dst := 56) ⟨_, pun26⟩ pun56 rfl (OpF.tmp rfl)) (congrArg (f .f64) hx33))<|ym rfl (f32 r41)<|yd rfl (f64 x44) (TOp.eqr (TOp.widen (src := 26) (dst := 56) ⟨_, pun26⟩ pun56 rfl (OpF.tmp rfl)) (congrArg (f .f64) hx34))<|yd rfl (f64 r45) (yc ent40 rfl rfl (bP bN0) (K23_ok x43 x44 r45 hf35))<|yl rfl (b false) (LOp.eqb (LOp.fgt rfl (OpF.tmp rfl) (OpF.const rfl (by kernel_rfl) (by kernel_rfl))) hc36)<|yl rfl (b false) yp<|zN ?_
             refine RunC.wl (τ' := [(5, optr 0 1 0), (6, (sFc r6)), (7, optr 1 1 0), (9, optr 2 1 0), (16, optr 4 1 0), (22, i64 v37), (23, i64 v38), (162, b true), (163, b false), (166, f32 r39), (167, f64 x43), (168, f32 r41), (169, f64 x44), (170, f64 r45), (171, b false), (172, b false)]) (Γ' := (z03d r2 r3 r4 r5 r7 r9 r10 r11 r12 r14 r15 r16 r27 r29 r30 r31)) ⟨aR, aR, aR, aR, aR, aR, aR, aR, aR, aR, aR, aR, aR, aR, aR, aR, trivial⟩ ⟨dR, dR, dR, dL, dR, trivial⟩<|yF<|RunC.skip ?_
             obtain ⟨x46, hx37, h19_⟩ := oL h19_
             refine yW<|ym rfl (i64 v38)<|yl rfl (i64 x46) (LOp.eqr (LOp.add rfl rfl rfl) (congrArg (ik .i64) hx37))<|ya rfl (i64 x46)<|zN ?_
             cases oI h19_
             exact ⟨_, rfl, (Le.of ⟨aR, aR, aR, aR, aR, aR, aR, trivial⟩ ⟨dR, dR, dR, dL, dR, trivial⟩)⟩
           ·refine yW<|yl rfl (b true) (yv hc31)<|yl rfl (b false) n1<|ym rfl (b false)<|yl rfl (b false) (yv hc32)<|yl rfl (b true) n0<|yl rfl (b true) yp<|ym rfl (b true)<|yR rfl<|yR rfl<|yR rfl<|yR rfl<|yR rfl<|yR rfl<|yl rfl (b true) yq<|zN ?_
            refine RunC.wl (τ' := [(5, optr 0 1 0), (6, (sFc r6)), (7, optr 1 1 0), (9, optr 2 1 0), (16, optr 4 1 0), (22, i64 v37), (23, i64 v38), (162, b false), (163, b true), (172, b true)]) (Γ' := (z03d r2 r3 r4 r5 r7 r9 r10 r11 r12 r14 r15 r16 r27 r29 r30 r31)) ⟨aR, aR, aR, aR, aR, aR, aR, aR, aR, aR, trivial⟩ ⟨dR, dR, dR, dL, dR, trivial⟩<|yT<|zQ<|ya rfl (b false)<|zN ?_
            refine RunC.ret ?_
            cases oI h19_
            have hx22_ := hr19 _ rfl
            subst hx22_
            cases oI h18_
            have hx23_ := hr18 _ rfl
            subst hx23_
            have hq := oI h
            subst q0
            exact bR rfl
          ·refine yW<|yl rfl (b false) (yv hc31)<|yl rfl (b true) n0<|ym rfl (b true)<|yR rfl<|yR rfl<|yl rfl (b true) yq<|ym rfl (b true)<|yR rfl<|yR rfl<|yR rfl<|yR rfl<|yR rfl<|yR rfl<|yl rfl (b true) yq<|zN ?_
           refine RunC.wl (τ' := [(5, optr 0 1 0), (6, (sFc r6)), (7, optr 1 1 0), (9, optr 2 1 0), (16, optr 4 1 0), (22, i64 v37), (23, i64 v38), (172, b true)]) (Γ' := (z03d r2 r3 r4 r5 r7 r9 r10 r11 r12 r14 r15 r16 r27 r29 r30 r31)) ⟨aR, aR, aR, aR, aR, aR, aR, aR, trivial⟩ ⟨dR, dR, dR, dL, dR, trivial⟩<|yT<|zQ<|ya rfl (b false)<|zN ?_
           refine RunC.ret ?_
           cases oI h19_
           have hx24_ := hr19 _ rfl
           subst hx24_
           cases oI h18_
           have hx25_ := hr18 _ rfl
           subst hx25_
           have hq := oI h
           subst q0
           exact bR rfl
         ·refine yW<|ym rfl (i64 v38)<|yl rfl (optr 0 1 0) (LOp.fao und30 rfl siz2 rfl rfl rfl)<|yd rfl (i64 r2) (TOp.load1_o rfl rfl agg2 rfl rfl)<|yl rfl (b false) (LOp.eqb (LOp.lss rfl rfl rfl) hc28)<|zN ?_
          refine yF<|RunC.exit ?_
          cases oI h19_
          have hx := ho19 _ rfl
          exact ⟨(Le.of ⟨aR, aR, aR, aR, aR, aR, trivial⟩ ⟨dR, dR, dR, dL, dR, trivial⟩), hx⟩
        ·rintro τ26 Γ26 ⟨hw26, rfl⟩
         refine RunC.le hw26 ?_
         replace h18_ : K26_k10 v37 = some y18_ := h18_
         unfold K26_k10 at h18_
         obtain ⟨x47, hx38, h18_⟩ := oL h18_
         refine yW<|ym rfl (i64 v37)<|yl rfl (i64 x47) (LOp.eqr (LOp.add rfl rfl rfl) (congrArg (ik .i64) hx38))<|ya rfl (i64 x47)<|zN ?_
         cases oI h18_
         exact ⟨_, rfl, (Le.of ⟨aR, aR, aR, aR, aR, aR, trivial⟩ ⟨dR, dR, dR, dL, dR, trivial⟩)⟩
       ·refine yW<|ym rfl (i64 v37)<|yl rfl (optr 0 1 0) (LOp.fao und30 rfl siz2 rfl rfl rfl)<|yd rfl (i64 r2) (TOp.load1_o rfl rfl agg2 rfl rfl)<|yl rfl (b false) (LOp.eqb (LOp.lss rfl rfl rfl) hc27)<|zN ?_
        refine yF<|RunC.exit ?_
        cases oI h18_
        have hx := ho18 _ rfl
        exact ⟨(Le.of ⟨aR, aR, aR, aR, trivial⟩ ⟨dR, dR, dR, dL, dL, trivial⟩), hx⟩
      ·rintro τ27 Γ27 ⟨hw27, rfl⟩
       refine RunC.le hw27 ?_
       replace h : K26_k11 r2 r3 r4 r5 r6 r11 r12 r14 r15 r16 = some q0 := h
       unfold K26_k11 at h
       refine yS ?_
       obtain ⟨r48, r49, hf39, h⟩ := obind2_some h
       refine yW<|yd rfl (agg (z03g r12 r14 r15 r16)) (yA agg30 siz30)<|ym rfl (sFc r6)<|yd rfl (tup [(sFc r49), b r48]) (TOp.callS (CallAs.func ent47 rfl rfl) (ALes.cons aR (ALes.cons aR ALes.nil)) (lts_cons (lt_agg (lts_cons rfl (lts_cons (lt_sl (fun _ => rfl)) (lts_cons (lt_sl (fun _ => rfl)) (lts_cons (lt_sl (fun _ => rfl)) lts_nil))))) (lts_cons (lt_sl (fun _ => rfl)) lts_nil)) (lt_tup (lts_cons (lt_sl (fun _ => rfl)) (lts_cons rfl lts_nil))) (K1y_ok r12 r14 r15 r16 r6 r48 r49 hf39) (Bor.tup (Bors.cons (Bor.own (f := f32) (fun _ => rfl) rfl rfl) bN0)))<|ym rfl (tup [(sFc r49), b r48])<|yl rfl (sFc r49) n3<|yl rfl (b r48) n3<|ya rfl (sFc r49)<|ya rfl (b r48)<|zN ?_
       refine yS ?_
       obtain ⟨r50, r51, hf40, h⟩ := obind2_some h
       refine yW<|yd rfl (agg (z03f r2 r3 r4 r5)) (yA agg30 siz30)<|ym rfl (sFc r49)<|yd rfl (tup [(sFc r51), b r50]) (TOp.callS (CallAs.func ent48 rfl rfl) (ALes.cons aR (ALes.cons aR ALes.nil)) (lts_cons (lt_agg (lts_cons rfl (lts_cons (lt_sl (fun _ => rfl)) (lts_cons (lt_sl (fun _ => rfl)) (lts_cons (lt_sl (fun _ => rfl)) lts_nil))))) (lts_cons (lt_sl (fun _ => rfl)) lts_nil)) (lt_tup (lts_cons (lt_sl (fun _ => rfl)) (lts_cons rfl lts_nil))) (K22_ok r2 r3 r4 r5 r49 r50 r51 hf40) (Bor.tup (Bors.cons (Bor.own (f := f32) (fun _ => rfl) rfl rfl) bN0)))<|ym rfl (tup [(sFc r51), b r50])<|yl rfl (sFc r51) n3<|yl rfl (b r50) n3<|ya rfl (sFc r51)<|ya rfl (b r50)<|zN ?_
       refine yS<|RunC.cutN (fun τ Γ => ( Le 411 τ Γ [(4, b false)] z03j ∧ K26_k13 = some q0) ∨ ( Le 411 τ Γ [(4, b (decide ((r16.length : Int) ≤ (r11.length : Int))))] z03j ∧ K26_k15 r11 r16 = some q0)) ?_ ?_
       ·rcases oB h with ⟨hc41, h⟩ | ⟨hc41, h⟩
        ·rcases oB h with ⟨hc42, h⟩ | ⟨hc42, h⟩
         ·rcases oB h with ⟨hc43, h⟩ | ⟨hc43, h⟩
          ·refine yW<|yl rfl (b true) (yv hc41)<|ym rfl (b true)<|yl rfl (b true) (yv hc42)<|yl rfl (b true) yq<|ym rfl (b true)<|ym rfl (sFc r51)<|yl rfl (i64 (r51.length : Int)) (LOp.len_sl und23 rfl rfl)<|yl rfl (optr 0 1 0) (LOp.fao und30 rfl siz2 rfl rfl rfl)<|yd rfl (i64 r2) (TOp.load1_o rfl rfl agg2 rfl rfl)<|yl rfl (b true) (LOp.eqb (LOp.eql rfl rfl rfl) hc43)<|yl rfl (b true) yq<|ym rfl (b true)<|yl rfl (optr 2 1 3) (LOp.fao und30 rfl siz23 rfl rfl rfl)<|yd rfl (sFc r16) (TOp.load1_o rfl rfl agg23 rfl rfl)<|yl rfl (i64 (r16.length : Int)) (LOp.len_sl und23 rfl rfl)<|yl rfl (optr 1 1 3) (LOp.fao und30 rfl siz23 rfl rfl rfl)<|yd rfl (sFc r11) (TOp.load1_o rfl rfl agg23 rfl rfl)<|yl rfl (i64 (r11.length : Int)) (LOp.len_sl und23 rfl rfl)<|yl rfl (b (decide ((r16.length : Int) ≤ (r11.length : Int)))) (LOp.leq rfl rfl rfl)<|yl rfl (b (decide ((r16.length : Int) ≤ (r11.length : Int)))) yq<|ya rfl (b (decide ((r16.length : Int) ≤ (r11.length : Int))))<|zN ?_
           exact .inr (⟨(Le.of ⟨aR, trivial⟩ ⟨dL, dL, dL, dL, dL, trivial⟩), h⟩)
          ·refine yW<|yl rfl (b true) (yv hc41)<|ym rfl (b true)<|yl rfl (b true) (yv hc42)<|yl rfl (b true) yq<|ym rfl (b true)<|ym rfl (sFc r51)<|yl rfl (i64 (r51.length : Int)) (LOp.len_sl und23 rfl rfl)<|yl rfl (optr 0 1 0) (LOp.fao und30 rfl siz2 rfl rfl rfl)<|yd rfl (i64 r2) (TOp.load1_o rfl rfl agg2 rfl rfl)<|yl rfl (b false) (LOp.eqb (LOp.eql rfl rfl rfl) hc43)<|yl rfl (b false) yq<|ym rfl (b false)<|yR rfl<|yR rfl<|yR rfl<|yR rfl<|yR rfl<|yR rfl<|yR rfl<|yl rfl (b false) yp<|ya rfl (b false)<|zN ?_
           exact .inl ⟨(Le.of ⟨aR, trivial⟩ ⟨dL, dL, dL, dL, dL, trivial⟩), h⟩
         ·refine yW<|yl rfl (b true) (yv hc41)<|ym rfl (b true)<|yl rfl (b false) (yv hc42)<|yl rfl (b false) yq<|ym rfl (b false)<|yR rfl<|yR rfl<|yR rfl<|yR rfl<|yR rfl<|yl rfl (b false) yp<|ym rfl (b false)<|yR rfl<|yR rfl<|yR rfl<|yR rfl<|yR rfl<|yR rfl<|yR rfl<|yl rfl (b false) yp<|ya rfl (b false)<|zN ?_
          exact .inl ⟨(Le.of ⟨aR, trivial⟩ ⟨dL, dL, dL, dL, dL, trivial⟩), h⟩
        ·refine yW<|yl rfl (b false) (yv hc41)<|ym rfl (b false)<|yR rfl<|yl rfl (b false) yp<|ym rfl (b false)<|yR rfl<|yR rfl<|yR rfl<|yR rfl<|yR rfl<|yl rfl (b false) yp<|ym rfl (b false)<|yR rfl<|yR rfl<|yR rfl<|yR rfl<|yR rfl<|yR rfl<|yR rfl<|yl rfl (b false) yp<|ya rfl (b false)<|zN ?_
         exact .inl ⟨(Le.of ⟨aR, trivial⟩ ⟨dL, dL, dL, dL, dL, trivial⟩), h⟩
       ·rintro τ28 Γ28 (⟨hw28, h⟩ | ⟨hw28, h⟩)
        ·refine RunC.le (τ' := [(4, b false)]) (Γ' := z03j) hw28 ?_
         unfold K26_k13 at h
         refine RunC.ret ?_
         have hq := oI h
         subst q0
         exact bR rfl
        ·refine RunC.le (τ' := [(4, b (decide ((r16.length : Int) ≤ (r11.length : Int))))]) (Γ' := z03j) hw28 ?_
         unfold K26_k15 at h
         refine RunC.ret ?_
         have hq := oI h
         subst q0
         exact bR rfl
end
end Go.Proofs.Ytfhbfpdeafpelaa
