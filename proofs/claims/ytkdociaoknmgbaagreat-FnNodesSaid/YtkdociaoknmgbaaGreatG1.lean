/- Generated. -/
import Derived.Test.YtkdociaoknmgbaaGreatG0
namespace Go.Proofs.YtkdociaoknmgbaaGreat
open Go Go.AM Go.AM.AV
set_option maxRecDepth 20000
set_option maxHeartbeats 4000000
set_option linter.unusedVariables false
set_option linter.unusedSimpArgs false
noncomputable section
def x_slices_insertionSortOrdered_int64_0o_b2 (a0 : Int) (L5 : List Int) (v7 : Int) : Option (LR ((List Int) × Int) ((List Int)) ((List Int))) :=
 bsel (decide (a0 < v7)) (
  obind (at? L5 v7) fun (e8 : Int) =>
  olet (IntKind.i64.wrap (v7 - 1)) fun (x9 : Int) =>
  obind (at? L5 x9) fun (e10 : Int) =>
  obind (x_cmp_Less_int64 e8 e10) fun (r11 : Bool) =>
  bsel r11 (
   olet (IntKind.i64.wrap (v7 - 1)) fun (x12 : Int) =>
   olet (IntKind.i64.wrap (v7 - 1)) fun (x13 : Int) =>
   obind (at? L5 x13) fun (e14 : Int) =>
   obind (at? L5 v7) fun (e15 : Int) =>
   obind (setAt? L5 v7 e14) fun (L16 : List Int) =>
   obind (setAt? L16 x12 e15) fun (L17 : List Int) =>
   olet (IntKind.i64.wrap (v7 - 1)) fun (x18 : Int) =>
   some (LR.next (L17, x18))) (
   some (LR.out L5))) (
  some (LR.out L5))
def x_slices_insertionSortOrdered_int64_0o_s2 (a0 : Int) : ((List Int) × Int) → Option (LR ((List Int) × Int) ((List Int)) ((List Int))) := fun s => x_slices_insertionSortOrdered_int64_0o_b2 a0 s.1 s.2
def x_slices_insertionSortOrdered_int64_0o_k2 (v4 : Int) (L19 : List Int) : Option (LR ((List Int) × Int) ((List Int)) ((List Int))) :=
 olet (IntKind.i64.wrap (v4 + 1)) fun (x21 : Int) =>
 some (LR.next (L19, x21))
def x_slices_insertionSortOrdered_int64_0o_b3 (a0 : Int) (a1 : Int) (L2 : List Int) (v4 : Int) : Option (LR ((List Int) × Int) ((List Int)) ((List Int))) :=
 bsel (decide (v4 < a1)) (
  obind (loopM (x_slices_insertionSortOrdered_int64_0o_s2 a0) (L2, v4)) fun z => osum z (fun e => x_slices_insertionSortOrdered_int64_0o_k2 v4 e) (fun r => some (LR.ret r))) (
  some (LR.out L2))
def x_slices_insertionSortOrdered_int64_0o_s3 (a0 : Int) (a1 : Int) : ((List Int) × Int) → Option (LR ((List Int) × Int) ((List Int)) ((List Int))) := fun s => x_slices_insertionSortOrdered_int64_0o_b3 a0 a1 s.1 s.2
def x_slices_insertionSortOrdered_int64_0o_k3 (L22 : List Int) : Option ((List Int)) :=
 some L22
def x_slices_insertionSortOrdered_int64_0o (a0 : Int) (a1 : Int) (a2 : List Int) : Option ((List Int)) :=
 olet (IntKind.i64.wrap (a0 + 1)) fun (x1 : Int) =>
 obind (loopM (x_slices_insertionSortOrdered_int64_0o_s3 a0 a1) (a2, x1)) fun z => osum z (fun e => x_slices_insertionSortOrdered_int64_0o_k3 e) (fun r => some r)
theorem x_slices_insertionSortOrdered_int64_0o_ok (a0 : Int) (a1 : Int) (a2 : List Int) (q0 : List Int) (h : x_slices_insertionSortOrdered_int64_0o a0 a1 a2 = some q0) : Ev Tryz.prog 136 [oref 0 0 0 a2.length, i64 a0, i64 a1] [⟨0, some (a2.map i64)⟩] (tup []) [⟨0, some (q0.map i64)⟩] := by
 refine Ev.start Tryz.func136 rfl rfl 0 (τ := [(0, oref 0 0 0 a2.length), (1, i64 a0), (2, i64 a1)]) rfl (Γ' := [⟨0, some (a2.map i64)⟩]) rfl (n := 98) rfl (g := 1) rfl (by decide) ?_
 unfold x_slices_insertionSortOrdered_int64_0o at h
 refine yS ?_
 obtain ⟨x1, hx1, h⟩ := oL h
 refine yW<|ym rfl (i64 a0)<|yl rfl (i64 x1) (LOp.eqr (LOp.add rfl rfl rfl) (congrArg (ik .i64) hx1))<|ya rfl (i64 x1)<|zN ?_
 obtain ⟨z4, hz_4, h⟩ := oS h
 refine RunC.cutN (fun τ Γ => ∃ (L22 : List Int), L22.length = a2.length ∧ WeakLe τ [] ∧ DeadLe Γ [⟨0, some (L22.map i64)⟩] ∧ z4 = .inl L22) ?_ ?_
 ·refine RunC.block (RunC.loop (RunL.loopM (x := z4) (x_slices_insertionSortOrdered_int64_0o_s3 a0 a1) (fun (s : (List Int) × Int) τ Γ => s.1.length = a2.length ∧ WeakLe τ [(0, oref 0 0 0 a2.length), (1, i64 a0), (2, i64 a1), (6, i64 s.2)] ∧ DeadLe Γ [⟨0, some (s.1.map i64)⟩]) ?_ _ _ _ hz_4 ⟨rfl, ⟨aR, aR, aR, aR, trivial⟩, ⟨⟨rfl, .inr rfl⟩, trivial⟩⟩))
  rintro ⟨L2, v4⟩ τ4 Γ4 y4_ ⟨hl3, hw4, hd4⟩ h4_ ho4 hr4
  refine RunC.wl (τ' := [(0, oref 0 0 0 a2.length), (1, i64 a0), (2, i64 a1), (6, i64 v4)]) (Γ' := [⟨0, some (L2.map i64)⟩]) hw4 hd4 ?_
  replace hl3 : L2.length = a2.length := hl3
  replace h4_ : x_slices_insertionSortOrdered_int64_0o_b3 a0 a1 L2 v4 = some y4_ := h4_
  unfold x_slices_insertionSortOrdered_int64_0o_b3 at h4_
  refine yS<|yS ?_
  rcases oB h4_ with ⟨hc2, h4_⟩ | ⟨hc2, h4_⟩
  ·refine yW<|ym rfl (i64 v4)<|ym rfl (i64 a1)<|yl rfl (b true) (LOp.eqb (LOp.lss rfl rfl rfl) hc2)<|zN ?_
   refine yT<|RunC.skip<|yS<|RunC.block<|zQ<|ym rfl (i64 v4)<|ya rfl (i64 v4)<|zN ?_
   obtain ⟨z5, hz_5, h4_⟩ := oS h4_
   refine RunC.cutN (fun τ Γ => ∃ (L19 : List Int), L19.length = a2.length ∧ WeakLe τ [(0, oref 0 0 0 a2.length), (1, i64 a0), (2, i64 a1), (6, i64 v4)] ∧ DeadLe Γ [⟨0, some (L19.map i64)⟩] ∧ z5 = .inl L19) ?_ ?_
   ·refine RunC.block (RunC.loop (RunL.loopM (x := z5) (x_slices_insertionSortOrdered_int64_0o_s2 a0) (fun (s : (List Int) × Int) τ Γ => s.1.length = a2.length ∧ WeakLe τ [(0, oref 0 0 0 a2.length), (1, i64 a0), (2, i64 a1), (6, i64 v4), (7, i64 s.2)] ∧ DeadLe Γ [⟨0, some (s.1.map i64)⟩]) ?_ _ _ _ hz_5 ⟨hl3, ⟨aR, aR, aR, aR, aR, trivial⟩, ⟨⟨rfl, .inr rfl⟩, trivial⟩⟩))
    rintro ⟨L5, v7⟩ τ5 Γ5 y5_ ⟨hl6, hw5, hd5⟩ h5_ ho5 hr5
    refine RunC.wl (τ' := [(0, oref 0 0 0 a2.length), (1, i64 a0), (2, i64 a1), (6, i64 v4), (7, i64 v7)]) (Γ' := [⟨0, some (L5.map i64)⟩]) hw5 hd5 ?_
    replace hl6 : L5.length = a2.length := hl6
    replace h5_ : x_slices_insertionSortOrdered_int64_0o_b2 a0 L5 v7 = some y5_ := h5_
    unfold x_slices_insertionSortOrdered_int64_0o_b2 at h5_
    refine yS<|yS ?_
    rcases oB h5_ with ⟨hc3, h5_⟩ | ⟨hc3, h5_⟩
    ·obtain ⟨e8, he4, h5_⟩ := oS h5_
     obtain ⟨x9, hx5, h5_⟩ := oL h5_
     obtain ⟨e10, he6, h5_⟩ := oS h5_
     obtain ⟨r11, hf7, h5_⟩ := oS h5_
     rcases oB h5_ with ⟨hc8, h5_⟩ | ⟨hc8, h5_⟩
     ·refine RunC.region_draw (Γ' := [⟨0, some (L5.map i64)⟩]) 15 mixed 
       (tm rfl (i64 v7) <|
       (tm rfl (i64 a0) <|
       (tl rfl (b true) (LOp.eqb (LOp.gtr rfl rfl rfl) hc3) <|
       (tm rfl (b true) <|
       (tm rfl (oref 0 0 0 a2.length) <|
       (tm rfl (i64 v7) <|
       (TR.d (r := optr 0 0 v7.toNat) (fs := []) rfl rfl (TOp.ixo und30 siz2 rfl rfl rfl (at_in he4 hl6) rfl) <|
       (TR.d (r := i64 e8) (fs := []) rfl rfl (TOp.load1_o rfl (at_cell he4) agg2 rfl rfl) <|
       (tm rfl (oref 0 0 0 a2.length) <|
       (tm rfl (i64 v7) <|
       (tl rfl (i64 x9) (LOp.eqr (LOp.sub rfl rfl rfl) (congrArg (ik .i64) hx5)) <|
       (TR.d (r := optr 0 0 x9.toNat) (fs := []) rfl rfl (TOp.ixo und30 siz2 rfl rfl rfl (at_in he6 hl6) rfl) <|
       (TR.d (r := i64 e10) (fs := []) rfl rfl (TOp.load1_o rfl (at_cell he6) agg2 rfl rfl) <|
       (TR.d (r := b true) (fs := []) rfl rfl (TOp.eqb (yc ent142 rfl rfl (bP bN0) (x_cmp_Less_int64_ok e8 e10 r11 hf7)) hc8) <|
       (tl rfl (b true) yq <|
       TR.nil))))))))))))))) rfl (by kernel_rfl) rfl fills_nil rfl ?_
      iterate 15 refine ROps.dropS ?_
      refine ROps.drop0<|zN ?_
      refine yT<|RunC.skip<|yS<|RunC.block ?_
      obtain ⟨x12, hx9, h5_⟩ := oL h5_
      obtain ⟨x13, hx10, h5_⟩ := oL h5_
      obtain ⟨e14, he11, h5_⟩ := oS h5_
      obtain ⟨e15, he12, h5_⟩ := oS h5_
      obtain ⟨L16, he13, h5_⟩ := oS h5_
      obtain ⟨L17, he14, h5_⟩ := oS h5_
      refine RunC.region_draw (Γ' := [⟨0, some (L5.map i64)⟩]) 15 mixed 
       (tm rfl (oref 0 0 0 a2.length) <|
       (tm rfl (i64 v7) <|
       (TR.loose (r := oref 0 0 0 a2.length) rfl rfl (LOp.move rfl rfl) <|
       (TR.loose (r := i64 v7) rfl rfl (LOp.move rfl rfl) <|
       (TR.loose (r := i64 x12) rfl rfl (LOp.eqr (LOp.sub rfl rfl rfl) (congrArg (ik .i64) hx9)) <|
       (tm rfl (oref 0 0 0 a2.length) <|
       (tm rfl (i64 v7) <|
       (tl rfl (i64 x13) (LOp.eqr (LOp.sub rfl rfl rfl) (congrArg (ik .i64) hx10)) <|
       (TR.d (r := optr 0 0 x13.toNat) (fs := []) rfl rfl (TOp.ixo und30 siz2 rfl rfl rfl (at_in he11 hl6) rfl) <|
       (TR.d (r := i64 e14) (fs := []) rfl rfl (TOp.load1_o rfl (at_cell he11) agg2 rfl rfl) <|
       (tm rfl (oref 0 0 0 a2.length) <|
       (tm rfl (i64 v7) <|
       (TR.d (r := optr 0 0 v7.toNat) (fs := []) rfl rfl (TOp.ixo und30 siz2 rfl rfl rfl (at_in he12 hl6) rfl) <|
       (TR.d (r := i64 e15) (fs := []) rfl rfl (TOp.load1_o rfl (at_cell he12) agg2 rfl rfl) <|
       (TR.d (r := optr 0 0 v7.toNat) (fs := []) rfl rfl (TOp.ixo und30 siz2 rfl rfl rfl (set_in he13 hl6) rfl) <|
       TR.nil))))))))))))))) rfl (by kernel_rfl) rfl fills_nil rfl ?_
      iterate 15 refine ROps.dropS ?_
      refine ROps.drop0<|ROps.st (f := i64) (i := v7) (Γ' := [⟨0, some (L16.map i64)⟩]) rfl siz2 rfl rfl rfl aR rfl rfl rfl he13 rfl<|yd rfl (optr 0 0 x12.toNat) (TOp.ixo und30 siz2 rfl rfl rfl (set_in he14 ((setAt?_len he13).trans hl6)) rfl)<|ROps.st (f := i64) (i := x12) (Γ' := [⟨0, some (L17.map i64)⟩]) rfl siz2 rfl rfl rfl aR rfl rfl rfl he14 rfl<|zN ?_
      refine RunC.wl (τ' := [(0, oref 0 0 0 a2.length), (1, i64 a0), (2, i64 a1), (6, i64 v4), (7, i64 v7), (20, oref 0 0 0 a2.length), (21, i64 v7), (22, optr 0 0 v7.toNat), (23, i64 e8), (24, oref 0 0 0 a2.length), (25, i64 v7), (26, i64 x9), (27, optr 0 0 x9.toNat), (28, i64 e10), (29, b true)]) (Γ' := [⟨0, some (L17.map i64)⟩]) ⟨aR, aR, aR, aR, aR, aR, aR, aR, aR, aR, aR, aR, aR, aR, aR, trivial⟩ ⟨⟨rfl, .inr rfl⟩, trivial⟩ ?_
      obtain ⟨x18, hx15, h5_⟩ := oL h5_
      refine yW<|ym rfl (i64 v7)<|yl rfl (i64 x18) (LOp.eqr (LOp.sub rfl rfl rfl) (congrArg (ik .i64) hx15))<|ya rfl (i64 x18)<|zN ?_
      cases oI h5_
      exact ⟨_, rfl, ((setAt?_len he14).trans ((setAt?_len he13).trans hl6)), ⟨aR, aR, aR, aR, aR, trivial⟩, ⟨⟨rfl, .inr rfl⟩, trivial⟩⟩
     ·refine RunC.region_draw (Γ' := [⟨0, some (L5.map i64)⟩]) 15 mixed 
       (tm rfl (i64 v7) <|
       (tm rfl (i64 a0) <|
       (tl rfl (b true) (LOp.eqb (LOp.gtr rfl rfl rfl) hc3) <|
       (tm rfl (b true) <|
       (tm rfl (oref 0 0 0 a2.length) <|
       (tm rfl (i64 v7) <|
       (TR.d (r := optr 0 0 v7.toNat) (fs := []) rfl rfl (TOp.ixo und30 siz2 rfl rfl rfl (at_in he4 hl6) rfl) <|
       (TR.d (r := i64 e8) (fs := []) rfl rfl (TOp.load1_o rfl (at_cell he4) agg2 rfl rfl) <|
       (tm rfl (oref 0 0 0 a2.length) <|
       (tm rfl (i64 v7) <|
       (tl rfl (i64 x9) (LOp.eqr (LOp.sub rfl rfl rfl) (congrArg (ik .i64) hx5)) <|
       (TR.d (r := optr 0 0 x9.toNat) (fs := []) rfl rfl (TOp.ixo und30 siz2 rfl rfl rfl (at_in he6 hl6) rfl) <|
       (TR.d (r := i64 e10) (fs := []) rfl rfl (TOp.load1_o rfl (at_cell he6) agg2 rfl rfl) <|
       (TR.d (r := b false) (fs := []) rfl rfl (TOp.eqb (yc ent142 rfl rfl (bP bN0) (x_cmp_Less_int64_ok e8 e10 r11 hf7)) hc8) <|
       (tl rfl (b false) yq <|
       TR.nil))))))))))))))) rfl (by kernel_rfl) rfl fills_nil rfl ?_
      iterate 15 refine ROps.dropS ?_
      refine ROps.drop0<|zN ?_
      refine yF<|RunC.exit ?_
      cases oI h5_
      have hx := ho5 _ rfl
      exact ⟨L5, hl6, ⟨aR, aR, aR, aR, trivial⟩, ⟨⟨rfl, .inr rfl⟩, trivial⟩, hx⟩
    ·refine RunC.region_draw (Γ' := [⟨0, some (L5.map i64)⟩]) 15 mixed 
      (tm rfl (i64 v7) <|
      (tm rfl (i64 a0) <|
      (tl rfl (b false) (LOp.eqb (LOp.gtr rfl rfl rfl) hc3) <|
      (tm rfl (b false) <|
      (ts rfl <|
      (ts rfl <|
      (ts rfl <|
      (ts rfl <|
      (ts rfl <|
      (ts rfl <|
      (ts rfl <|
      (ts rfl <|
      (ts rfl <|
      (ts rfl <|
      (tl rfl (b false) yp <|
      TR.nil))))))))))))))) rfl (by kernel_rfl) rfl fills_nil rfl ?_
     iterate 15 refine ROps.dropS ?_
     refine ROps.drop0<|zN ?_
     refine yF<|RunC.exit ?_
     cases oI h5_
     have hx := ho5 _ rfl
     exact ⟨L5, hl6, ⟨aR, aR, aR, aR, trivial⟩, ⟨⟨rfl, .inr rfl⟩, trivial⟩, hx⟩
   ·rintro τ6 Γ6 ⟨L19, hl20, hw6, hd6, rfl⟩
    refine RunC.wl hw6 hd6 ?_
    replace h4_ : x_slices_insertionSortOrdered_int64_0o_k2 v4 L19 = some y4_ := h4_
    unfold x_slices_insertionSortOrdered_int64_0o_k2 at h4_
    obtain ⟨x21, hx16, h4_⟩ := oL h4_
    refine yW<|ym rfl (i64 v4)<|yl rfl (i64 x21) (LOp.eqr (LOp.add rfl rfl rfl) (congrArg (ik .i64) hx16))<|ya rfl (i64 x21)<|zN ?_
    cases oI h4_
    exact ⟨_, rfl, hl20, ⟨aR, aR, aR, aR, trivial⟩, ⟨⟨rfl, .inr rfl⟩, trivial⟩⟩
  ·refine yW<|ym rfl (i64 v4)<|ym rfl (i64 a1)<|yl rfl (b false) (LOp.eqb (LOp.lss rfl rfl rfl) hc2)<|zN ?_
   refine yF<|RunC.exit ?_
   cases oI h4_
   have hx := ho4 _ rfl
   exact ⟨L2, hl3, trivial, ⟨⟨rfl, .inr rfl⟩, trivial⟩, hx⟩
 ·rintro τ7 Γ7 ⟨L22, hl23, hw7, hd7, rfl⟩
  replace h : x_slices_insertionSortOrdered_int64_0o_k3 L22 = some q0 := h
  unfold x_slices_insertionSortOrdered_int64_0o_k3 at h
  refine bodyQ.wl hw7 hd7 ?_
  have hq := oI h
  subst q0
  exact yB (tup []) [(0, 0)] (Res.zero rfl) (SelL.arr (f := i64) (fun _ => rfl) rfl trivial)
def x_slices_pdqsortOrdered_int64_0o_b1 (a0 : Int) (a1 : Int) (a2 : Int) (a3 : List Int) : Option (LR (Unit) (Unit) ((List Int))) :=
 olet (IntKind.i64.wrap (a1 - a0)) fun (x1 : Int) =>
 bsel (decide (x1 ≤ 12)) (
  obind (x_slices_insertionSortOrdered_int64_0o a0 a1 a3) fun (r2 : List Int) =>
  need (decide (r2.length = a3.length)) <|
  some (LR.ret r2)) (
  bsel (decide (a2 = 0)) (
   none) (
   none))
def x_slices_pdqsortOrdered_int64_0o_s1 (a0 : Int) (a1 : Int) (a2 : Int) (a3 : List Int) : (Unit) → Option (LR (Unit) (Unit) ((List Int))) := fun s => x_slices_pdqsortOrdered_int64_0o_b1 a0 a1 a2 a3
def x_slices_pdqsortOrdered_int64_0o (a0 : Int) (a1 : Int) (a2 : Int) (a3 : List Int) : Option ((List Int)) :=
 obind (loopM (x_slices_pdqsortOrdered_int64_0o_s1 a0 a1 a2 a3) ()) fun z => osum z (fun _ => none) (fun r => some r)
theorem x_slices_pdqsortOrdered_int64_0o_ok (a0 : Int) (a1 : Int) (a2 : Int) (a3 : List Int) (q0 : List Int) (h : x_slices_pdqsortOrdered_int64_0o a0 a1 a2 a3 = some q0) : Ev Tryz.prog 134 [oref 0 0 0 a3.length, i64 a0, i64 a1, i64 a2] [⟨0, some (a3.map i64)⟩] (tup []) [⟨0, some (q0.map i64)⟩] := by
 refine Ev.start Tryz.func134 rfl rfl 0 (τ := [(0, oref 0 0 0 a3.length), (1, i64 a0), (2, i64 a1), (3, i64 a2)]) rfl (Γ' := [⟨0, some (a3.map i64)⟩]) rfl (n := 268) rfl (g := 1) rfl (by decide) ?_
 unfold x_slices_pdqsortOrdered_int64_0o at h
 refine zQ<|ya rfl (b true)<|zN ?_
 refine zQ<|ya rfl (b true)<|zN ?_
 obtain ⟨z2, hz_2, h⟩ := oS h
 refine RunC.block (RunC.loop (RunL.loopM (x := z2) (x_slices_pdqsortOrdered_int64_0o_s1 a0 a1 a2 a3) (fun (s : Unit) τ Γ => WeakLe τ [(0, oref 0 0 0 a3.length), (1, i64 a0), (2, i64 a1), (3, i64 a2), (8, b true), (9, b true)] ∧ DeadLe Γ [⟨0, some (a3.map i64)⟩]) ?_ _ _ _ hz_2 ⟨⟨aR, aR, aR, aR, aR, aR, trivial⟩, ⟨⟨rfl, .inr rfl⟩, trivial⟩⟩))
 rintro ⟨⟩ τ2 Γ2 y2_ ⟨hw2, hd2⟩ h2_ ho2 hr2
 refine RunC.wl (τ' := [(0, oref 0 0 0 a3.length), (1, i64 a0), (2, i64 a1), (3, i64 a2), (8, b true), (9, b true)]) (Γ' := [⟨0, some (a3.map i64)⟩]) hw2 hd2 ?_
 replace h2_ : x_slices_pdqsortOrdered_int64_0o_b1 a0 a1 a2 a3 = some y2_ := h2_
 unfold x_slices_pdqsortOrdered_int64_0o_b1 at h2_
 refine RunC.block<|yS ?_
 obtain ⟨x1, hx1, h2_⟩ := oL h2_
 refine yW<|ym rfl (i64 a1)<|ym rfl (i64 a0)<|yl rfl (i64 x1) (LOp.eqr (LOp.sub rfl rfl rfl) (congrArg (ik .i64) hx1))<|ya rfl (i64 x1)<|zN ?_
 refine yS<|yS ?_
 rcases oB h2_ with ⟨hc2, h2_⟩ | ⟨hc2, h2_⟩
 ·refine yW<|ym rfl (i64 x1)<|yl rfl (b true) (LOp.eqb (LOp.leq rfl rfl rfl) hc2)<|zN ?_
  refine yT<|yS ?_
  obtain ⟨r2, hf3, h2_⟩ := oS h2_
  obtain ⟨hn4, h2_⟩ := need_some h2_
  refine yW<|ym rfl (oref 0 0 0 a3.length)<|ym rfl (i64 a0)<|ym rfl (i64 a1)<|ROps.callO (A := [oref 0 0 0 a3.length, i64 a0, i64 a1]) (args := [oref 0 0 0 a3.length, i64 a0, i64 a1]) (Γc := [⟨0, some (a3.map i64)⟩]) (Γc' := [⟨0, some (r2.map i64)⟩]) (r' := tup []) (Γ' := [⟨0, some (r2.map i64)⟩]) [(0, 0)] [] rfl (CallAs.func ent136 rfl rfl) rfl rfl (SelOk.of (ndB_ok rfl) (SelL.arr0 (f := i64) (fun _ => rfl) rfl trivial)) (live_of ⟨⟨_, _, rfl⟩, trivial⟩) (by simp [ren, rens, sigma, rens_f32, rens_f64, rens_i64, rens_ik, rens_str, rens_cp]) rfl (x_slices_insertionSortOrdered_int64_0o_ok a0 a1 a3 r2 hf3) rfl (news_of trivial) (ndB_ok rfl) (by simp [ren, rens, sigma, of_decide_eq_true hn4]) (by simp [backOb, sigma, ren, rens, rens_f32, rens_f64, rens_i64, rens_ik, rens_str, rens_cp])<|zN ?_
  refine RunC.ret ?_
  cases oI h2_
  have hx3_ := hr2 _ rfl
  subst hx3_
  have hq := oI h
  subst q0
  exact yB (tup []) [(0, 0)] (Res.zero rfl) (SelL.arr (f := i64) (fun _ => rfl) rfl trivial)
 ·refine yW<|ym rfl (i64 x1)<|yl rfl (b false) (LOp.eqb (LOp.leq rfl rfl rfl) hc2)<|zN ?_
  refine yF<|RunC.skip<|yS<|yS ?_
  rcases oB h2_ with ⟨hc5, h2_⟩ | ⟨hc5, h2_⟩
  ·refine yW<|ym rfl (i64 a2)<|yl rfl (b true) (LOp.eqb (LOp.eql rfl rfl rfl) hc5)<|zN ?_
   refine yT<|yS ?_
   cases h2_
  ·refine yW<|ym rfl (i64 a2)<|yl rfl (b false) (LOp.eqb (LOp.eql rfl rfl rfl) hc5)<|zN ?_
   refine yF<|RunC.skip<|yS<|zQ<|ym rfl (b true)<|yl rfl (b false) y1<|zN ?_
   refine yF<|RunC.skip<|yS ?_
   cases h2_
def x_slices_Sort_int64_int64_0o (a0 : List Int) : Option ((List Int)) :=
 olet (IntKind.u64.wrap ((a0.length : Nat) : Int)) fun (x1 : Int) =>
 obind (x_math_bits_Len x1) fun (r2 : Int) =>
 obind (x_slices_pdqsortOrdered_int64_0o 0 ((a0.length : Nat) : Int) r2 a0) fun (r3 : List Int) =>
 need (decide (r3.length = a0.length)) <|
 some r3
theorem x_slices_Sort_int64_int64_0o_ok (a0 : List Int) (q0 : List Int) (h : x_slices_Sort_int64_int64_0o a0 = some q0) : Ev Tryz.prog 130 [oref 0 0 0 a0.length] [⟨0, some (a0.map i64)⟩] (tup []) [⟨0, some (q0.map i64)⟩] := by
 refine Ev.start Tryz.func130 rfl rfl 0 (τ := [(0, oref 0 0 0 a0.length)]) rfl (Γ' := [⟨0, some (a0.map i64)⟩]) rfl (n := 22) rfl (g := 1) rfl (by decide) ?_
 unfold x_slices_Sort_int64_int64_0o at h
 refine zQ<|ym rfl (oref 0 0 0 a0.length)<|yl rfl (i64 ((a0.length : Nat) : Int)) (LOp.len_oref und30 rfl rfl)<|ya rfl (i64 ((a0.length : Nat) : Int))<|zN ?_
 obtain ⟨x1, hx1, h⟩ := oL h
 obtain ⟨r2, hf2, h⟩ := oS h
 obtain ⟨r3, hf3, h⟩ := oS h
 obtain ⟨hn4, h⟩ := need_some h
 refine yW<|ym rfl (oref 0 0 0 a0.length)<|ym rfl (i64 ((a0.length : Nat) : Int))<|ym rfl (i64 ((a0.length : Nat) : Int))<|yl rfl (ik .u64 x1) (LOp.eqr (LOp.i2i (src := 3) (dst := 121) ⟨_, pun3⟩ pun121 rfl rfl) (congrArg (ik .u64) hx1))<|yd rfl (i64 r2) (yc ent135 rfl rfl bN0 (x_math_bits_Len_ok x1 r2 hf2))<|ROps.callO (A := [oref 0 0 0 a0.length, i64 0, i64 ((a0.length : Nat) : Int), i64 r2]) (args := [oref 0 0 0 a0.length, i64 0, i64 ((a0.length : Nat) : Int), i64 r2]) (Γc := [⟨0, some (a0.map i64)⟩]) (Γc' := [⟨0, some (r3.map i64)⟩]) (r' := tup []) (Γ' := [⟨0, some (r3.map i64)⟩]) [(0, 0)] [] rfl (CallAs.func ent134 rfl rfl) rfl rfl (SelOk.of (ndB_ok rfl) (SelL.arr0 (f := i64) (fun _ => rfl) rfl trivial)) (live_of ⟨⟨_, _, rfl⟩, trivial⟩) (by simp [ren, rens, sigma, rens_f32, rens_f64, rens_i64, rens_ik, rens_str, rens_cp]) rfl (x_slices_pdqsortOrdered_int64_0o_ok 0 ((a0.length : Nat) : Int) r2 a0 r3 hf3) rfl (news_of trivial) (ndB_ok rfl) (by simp [ren, rens, sigma, of_decide_eq_true hn4]) (by simp [backOb, sigma, ren, rens, rens_f32, rens_f64, rens_i64, rens_ik, rens_str, rens_cp])<|zN ?_
 have hq := oI h
 subst q0
 exact yB (tup []) [(0, 0)] (Res.zero rfl) (SelL.arr (f := i64) (fun _ => rfl) rfl trivial)
def x_slices_Sorted_int64_0Fx_slices_Values_int64_int64_1 (a0 : List Int) : Option ((List Int)) :=
 obind (x_slices_Collect_int64_0Fx_slices_Values_int64_int64_1 a0) fun (r1 : List Int) =>
 obind (x_slices_Sort_int64_int64_0o r1) fun (r2 : List Int) =>
 need (decide (r2.length = r1.length)) <|
 some r2
theorem x_slices_Sorted_int64_0Fx_slices_Values_int64_int64_1_ok (a0 : List Int) (q0 : List Int) (h : x_slices_Sorted_int64_0Fx_slices_Values_int64_int64_1 a0 = some q0) : Ev Tryz.prog 122 [fn (.func 131) [] [ptr [sl a0.length (a0.map i64)]]] [] (oref 0 0 0 q0.length) [⟨0, some (q0.map i64)⟩] := by
 refine yE Tryz.func122 1 19 0 ([(0, fn (.func 131) [] [ptr [sl a0.length (a0.map i64)]])]) [⟨0, none⟩] rfl ?_
 unfold x_slices_Sorted_int64_0Fx_slices_Values_int64_int64_1 at h
 refine zQ<|ya rfl nilsl<|zN ?_
 refine yS ?_
 obtain ⟨r1, hf1, h⟩ := oS h
 refine yW<|ym rfl (fn (.func 131) [] [ptr [sl a0.length (a0.map i64)]])<|ye rfl (oref 0 1 0 r1.length) [⟨1, some (r1.map i64)⟩] (TOp.callBN (ls := [(r1.map i64)]) [0] (CallAs.func ent129 rfl rfl) (Bors.cons (Bor.fn bN (Bors.cons (Bor.ptr (bS bN)) bN)) bN) rfl (x_slices_Collect_int64_0Fx_slices_Values_int64_int64_1_ok a0 r1 hf1) (and_all (lts0_map (f := i64) (fun _ => rfl) _) rfl) (and_all (noss_map (f := i64) (fun _ => rfl) _) rfl) rfl (by decide) (ns_of ⟨⟨_, rfl⟩, trivial⟩))<|ya rfl (oref 0 1 0 r1.length)<|zN ?_
 refine yS ?_
 obtain ⟨r2, hf2, h⟩ := oS h
 obtain ⟨hn3, h⟩ := need_some h
 refine yW<|ym rfl (oref 0 1 0 r1.length)<|ROps.callO (A := [oref 0 1 0 r1.length]) (args := [oref 0 0 0 r1.length]) (Γc := [⟨0, some (r1.map i64)⟩]) (Γc' := [⟨0, some (r2.map i64)⟩]) (r' := tup []) (Γ' := [⟨1, some (r2.map i64)⟩]) [(0, 1)] [] rfl (CallAs.func ent130 rfl rfl) rfl rfl (SelOk.of (ndB_ok rfl) (SelL.arr0 (f := i64) (fun _ => rfl) rfl trivial)) (live_of ⟨⟨_, _, rfl⟩, trivial⟩) (by simp [ren, rens, sigma, rens_f32, rens_f64, rens_i64, rens_ik, rens_str, rens_cp]) rfl (x_slices_Sort_int64_int64_0o_ok r1 r2 hf2) rfl (news_of trivial) (ndB_ok rfl) (by simp [ren, rens, sigma, of_decide_eq_true hn3]) (by simp [backOb, sigma, ren, rens, rens_f32, rens_f64, rens_i64, rens_ik, rens_str, rens_cp])<|zN ?_
 refine zQ<|ym rfl (oref 0 1 0 r1.length)<|ya rfl (oref 0 1 0 r1.length)<|zN ?_
 refine RunC.ret ?_
 have hq := oI h
 subst q0
 exact yB (oref 0 1 0 r2.length) [(0, 1)] (Res.eq (Res.one rfl (RV.tmp rfl)) (by rw [(show r2.length = r1.length from (of_decide_eq_true hn3))] <;> rfl)) (SelL.arr0 (f := i64) (fun _ => rfl) rfl trivial)
def i_isPermutation_b1 (r2 : List Int) (v3 : Int) : Option (LR (Int) (Unit) (Bool)) :=
 bsel (decide (v3 < ((r2.length : Nat) : Int))) (
  obind (at? r2 v3) fun (e4 : Int) =>
  bsel (!decide (e4 = v3)) (
   some (LR.ret false)) (
   olet (IntKind.i64.wrap (v3 + 1)) fun (x5 : Int) =>
   some (LR.next x5))) (
  some (LR.out ()))
def i_isPermutation_s1 (r2 : List Int) : (Int) → Option (LR (Int) (Unit) (Bool)) := fun s => i_isPermutation_b1 r2 s
def i_isPermutation_k1  : Option (Bool) :=
 some true
def i_isPermutation (a0 : List Int) : Option (Bool) :=
 obind (x_slices_Values_int64_int64 a0) fun (r1 : List Int) =>
 obind (x_slices_Sorted_int64_0Fx_slices_Values_int64_int64_1 r1) fun (r2 : List Int) =>
 obind (loopM (i_isPermutation_s1 r2) 0) fun z => osum z (fun _ => i_isPermutation_k1) (fun r => some r)
theorem i_isPermutation_ok (a0 : List Int) (q0 : Bool) (h : i_isPermutation a0 = some q0) : Ev Tryz.prog 101 [sl a0.length (a0.map i64)] [] (b q0) [] := by
 refine yE Tryz.func101 1 37 0 [(0, sl a0.length (a0.map i64))] [⟨0, none⟩] rfl ?_
 unfold i_isPermutation at h
 refine zQ<|ya rfl (b false)<|zN ?_
 refine yS<|yS ?_
 obtain ⟨r1, hf1, h⟩ := oS h
 obtain ⟨r2, hf2, h⟩ := oS h
 refine yW<|ym rfl (sl a0.length (a0.map i64))<|yd rfl (fn (.func 131) [] [ptr [sl r1.length (r1.map i64)]]) (TOp.call (CallAs.func ent123 rfl rfl) (lts_cons (lt_sl (fun _ => rfl)) lts_nil) (lt_fn lts_nil (lts_cons (lt_ptr (lts_cons (lt_sl (fun _ => rfl)) lts_nil)) lts_nil)) (x_slices_Values_int64_int64_ok a0 r1 hf1))<|ye rfl (oref 0 1 0 r2.length) [⟨1, some (r2.map i64)⟩] (TOp.callBN (ls := [(r2.map i64)]) [0] (CallAs.func ent122 rfl rfl) (Bors.cons (Bor.fn bN (Bors.cons (Bor.ptr (bS bN)) bN)) bN) rfl (x_slices_Sorted_int64_0Fx_slices_Values_int64_int64_1_ok r1 r2 hf2) (and_all (lts0_map (f := i64) (fun _ => rfl) _) rfl) (and_all (noss_map (f := i64) (fun _ => rfl) _) rfl) rfl (by decide) (ns_of ⟨⟨_, rfl⟩, trivial⟩))<|yl rfl (i64 ((r2.length : Nat) : Int)) (LOp.len_oref und30 rfl rfl)<|ym rfl (i64 0)<|zN ?_
 obtain ⟨z2, hz_2, h⟩ := oS h
 refine RunC.cutN (fun τ Γ => WeakLe τ [] ∧ DeadLe Γ [⟨1, none⟩] ∧ z2 = .inl ()) ?_ ?_
 ·refine RunC.block (RunC.loop (RunL.loopM (x := z2) (i_isPermutation_s1 r2) (fun (s : Int) τ Γ => WeakLe τ [(7, oref 0 1 0 r2.length), (8, i64 ((r2.length : Nat) : Int)), (9, i64 s)] ∧ DeadLe Γ [⟨1, some (r2.map i64)⟩]) ?_ _ _ _ hz_2 ⟨⟨aR, aR, aR, trivial⟩, ⟨⟨rfl, .inr rfl⟩, trivial⟩⟩))
  rintro v3 τ2 Γ2 y2_ ⟨hw2, hd2⟩ h2_ ho2 hr2
  refine RunC.wl (τ' := [(7, oref 0 1 0 r2.length), (8, i64 ((r2.length : Nat) : Int)), (9, i64 v3)]) (Γ' := [⟨1, some (r2.map i64)⟩]) hw2 hd2 ?_
  replace h2_ : i_isPermutation_b1 r2 v3 = some y2_ := h2_
  unfold i_isPermutation_b1 at h2_
  refine yS ?_
  rcases oB h2_ with ⟨hc3, h2_⟩ | ⟨hc3, h2_⟩
  ·refine yW<|yl rfl (b true) (LOp.eqb (LOp.lss rfl rfl rfl) hc3)<|zN ?_
   refine yS<|yT<|RunC.skip<|yS<|RunC.block<|yS ?_
   obtain ⟨e4, he4, h2_⟩ := oS h2_
   refine yW<|ym rfl (i64 v3)<|yd rfl (optr 0 1 v3.toNat) (TOp.ixo und30 siz2 rfl rfl rfl (at_in he4 rfl) rfl)<|yd rfl (i64 e4) (TOp.load1_o rfl (at_cell he4) agg2 rfl rfl)<|ya rfl (i64 v3)<|ya rfl (i64 e4)<|zN ?_
   refine yS ?_
   rcases oB h2_ with ⟨hc5, h2_⟩ | ⟨hc5, h2_⟩
   ·refine yW<|ym rfl (i64 e4)<|ym rfl (i64 v3)<|yl rfl (b true) (LOp.eqb (LOp.neq rfl rfl rfl) hc5)<|zN ?_
    refine yT<|zQ<|ya rfl (b false)<|zN ?_
    refine RunC.ret ?_
    cases oI h2_
    have hx3_ := hr2 _ rfl
    subst hx3_
    have hq := oI h
    subst q0
    exact bodyQ.pure (.inr rfl) rfl (Res.one rfl (RV.tmp rfl))
   ·refine yW<|ym rfl (i64 e4)<|ym rfl (i64 v3)<|yl rfl (b false) (LOp.eqb (LOp.neq rfl rfl rfl) hc5)<|zN ?_
    refine yF<|RunC.skip ?_
    obtain ⟨x5, hx6, h2_⟩ := oL h2_
    refine yW<|yl rfl (i64 x5) (LOp.eqr (LOp.add rfl rfl rfl) (congrArg (ik .i64) hx6))<|ym rfl (i64 x5)<|zN ?_
    cases oI h2_
    exact ⟨_, rfl, ⟨aR, aR, aR, trivial⟩, ⟨⟨rfl, .inr rfl⟩, trivial⟩⟩
  ·refine yW<|yl rfl (b false) (LOp.eqb (LOp.lss rfl rfl rfl) hc3)<|zN ?_
   refine yS<|yF<|RunC.exit ?_
   cases oI h2_
   have hx := ho2 _ rfl
   exact ⟨trivial, ⟨⟨rfl, .inl rfl⟩, trivial⟩, hx⟩
 ·rintro τ4 Γ4 ⟨hw4, hd4, rfl⟩
  refine RunC.wl hw4 hd4 ?_
  replace h : i_isPermutation_k1 = some q0 := h
  unfold i_isPermutation_k1 at h
  refine zQ<|ya rfl (b true)<|zN ?_
  refine RunC.ret ?_
  have hq := oI h
  subst q0
  exact bodyQ.pure (.inr rfl) rfl (Res.one rfl (RV.tmp rfl))
def i_IsOrder (a0 : List Int) : Option (Bool) :=
 obind (i_length_int64 a0) fun (r1 : Int) =>
 obind (i_isSide r1) fun (r2 : Bool) =>
 bsel r2 (
  obind (i_isPermutation a0) fun (r3 : Bool) =>
  some r3) (
  some false)
theorem i_IsOrder_ok (a0 : List Int) (q0 : Bool) (h : i_IsOrder a0 = some q0) : Ev Tryz.prog 48 [sl a0.length (a0.map i64)] [] (b q0) [] := by
 refine yE Tryz.func48 0 21 0 [(0, sl a0.length (a0.map i64))] [] rfl ?_
 unfold i_IsOrder at h
 refine zQ<|ya rfl (b false)<|zN ?_
 refine yS ?_
 obtain ⟨r1, hf1, h⟩ := oS h
 obtain ⟨r2, hf2, h⟩ := oS h
 rcases oB h with ⟨hc3, h⟩ | ⟨hc3, h⟩
 ·obtain ⟨r3, hf4, h⟩ := oS h
  refine yW<|ym rfl (sl a0.length (a0.map i64))<|yd rfl (i64 r1) (yc ent49 rfl rfl (bS bN) (i_length_int64_ok a0 r1 hf1))<|yd rfl (b true) (TOp.eqb (yc ent93 rfl rfl bN0 (i_isSide_ok r1 r2 hf2)) hc3)<|ym rfl (b true)<|ym rfl (sl a0.length (a0.map i64))<|yd rfl (b r3) (yc ent101 rfl rfl (bS bN) (i_isPermutation_ok a0 r3 hf4))<|yl rfl (b r3) yq<|ya rfl (b r3)<|zN ?_
  refine RunC.ret ?_
  have hq := oI h
  subst q0
  exact bodyQ.pure (.inr rfl) rfl (Res.one rfl (RV.tmp rfl))
 ·refine yW<|ym rfl (sl a0.length (a0.map i64))<|yd rfl (i64 r1) (yc ent49 rfl rfl (bS bN) (i_length_int64_ok a0 r1 hf1))<|yd rfl (b false) (TOp.eqb (yc ent93 rfl rfl bN0 (i_isSide_ok r1 r2 hf2)) hc3)<|ym rfl (b false)<|ROps.s rfl rfl rfl<|ROps.s rfl rfl rfl<|yl rfl (b false) yp<|ya rfl (b false)<|zN ?_
  refine RunC.ret ?_
  have hq := oI h
  subst q0
  exact bodyQ.pure (.inr rfl) rfl (Res.one rfl (RV.tmp rfl))
def i_ValidFactor (a0 : Int) (a1 : Int) (a2 : List F) (a3 : List Int) : Option (Bool) :=
 obind (i_isSquare a0 a1 a2) fun (r1 : Bool) =>
 bsel r1 (
  obind (i_Matrix_middle a0 a1 a2) fun (r2 : List F) =>
  obind (x_slices_Contains_float32_float32 r2 (some 0)) fun (r3 : Bool) =>
  bsel r3 (
   some false) (
   obind (i_IsOrder a3) fun (r4 : Bool) =>
   bsel r4 (
    obind (i_length_int64 a3) fun (r5 : Int) =>
    some (decide (r5 = a0))) (
    some false))) (
  some false)
theorem i_ValidFactor_ok (a0 : Int) (a1 : Int) (a2 : List F) (a3 : List Int) (q0 : Bool) (h : i_ValidFactor a0 a1 a2 a3 = some q0) : Ev Tryz.prog 10 [agg [i64 a0, i64 a1, (sFc a2), sl a3.length (a3.map i64)]] [] (b q0) [] := by
 refine yE Tryz.func10 0 55 0 ([(0, agg [i64 a0, i64 a1, (sFc a2), sl a3.length (a3.map i64)])]) [] rfl ?_
 unfold i_ValidFactor at h
 refine zQ<|yd rfl (ptr [i64 a0, i64 a1, (sFc a2), sl a3.length (a3.map i64)]) (TOp.box_s rfl rfl rfl)<|ya rfl (b false)<|zN ?_
 refine yS ?_
 obtain ⟨r1, hf1, h⟩ := oS h
 rcases oB h with ⟨hc2, h⟩ | ⟨hc2, h⟩
 ·obtain ⟨r2, hf3, h⟩ := oS h
  obtain ⟨r3, hf4, h⟩ := oS h
  rcases oB h with ⟨hc5, h⟩ | ⟨hc5, h⟩
  ·refine RunC.region_draw (Γ' := []) 25 mixed 
    (tl rfl (ptr [i64 a0, i64 a1, (sFc a2), sl a3.length (a3.map i64)]) (LOp.fap und32 rfl siz27 rfl rfl rfl) <|
    (tl rfl (agg (mXc a0 a1 a2)) (yL agg27 siz27) <|
    (TR.d (r := b true) (fs := []) rfl rfl (TOp.eqb (TOp.callB (CallAs.func ent37 rfl rfl) (Bors.cons (Bor.agg (bP (bP (bS bN)))) bN) rfl rfl (i_isSquare_ok a0 a1 a2 r1 hf1)) hc2) <|
    (tm rfl (b true) <|
    (tl rfl (ptr [i64 a0, i64 a1, (sFc a2), sl a3.length (a3.map i64)]) (LOp.fap und32 rfl siz27 rfl rfl rfl) <|
    (tl rfl (agg (mXc a0 a1 a2)) (yL agg27 siz27) <|
    (TR.d (r := (sFc r2)) (fs := []) rfl rfl (TOp.callS (CallAs.func ent47 rfl rfl) (ALes.cons aR ALes.nil) (lts_cons (lt_agg (lts_cons rfl (lts_cons rfl (lts_cons (lt_sl (fun _ => rfl)) lts_nil)))) lts_nil) (lt_sl (fun _ => rfl)) (i_Matrix_middle_ok a0 a1 a2 r2 hf3) (Bor.own (f := f32) (fun _ => rfl) rfl rfl)) <|
    (TR.d (r := b true) (fs := []) rfl rfl (TOp.eqb (yc ent46 rfl rfl (bS (Bors.cons (Bor.le (ALe.fl (by kernel_rfl) (by kernel_rfl)) (Bor.pure rfl)) bN)) (x_slices_Contains_float32_float32_ok r2 (some 0) r3 hf4)) hc5) <|
    (tl rfl (b false) (LOp.eqb (LOp.not rfl rfl) rfl) <|
    (tl rfl (b false) yq <|
    (tm rfl (b false) <|
    (ts rfl <|
    (ts rfl <|
    (ts rfl <|
    (tl rfl (b false) yp <|
    (tm rfl (b false) <|
    (ts rfl <|
    (ts rfl <|
    (ts rfl <|
    (ts rfl <|
    (ts rfl <|
    (ts rfl <|
    (ts rfl <|
    (tl rfl (b false) yp <|
    (tl rfl (b false) (LOp.assign rfl rfl) <|
    TR.nil))))))))))))))))))))))))) rfl (by kernel_rfl) rfl fills_nil rfl ?_
   iterate 25 refine ROps.dropS ?_
   refine ROps.drop0<|zN ?_
   refine RunC.ret ?_
   have hq := oI h
   subst q0
   exact bodyQ.pure (.inr rfl) rfl (Res.one rfl (RV.tmp rfl))
  ·obtain ⟨r4, hf6, h⟩ := oS h
   rcases oB h with ⟨hc7, h⟩ | ⟨hc7, h⟩
   ·obtain ⟨r5, hf8, h⟩ := oS h
    refine RunC.region_draw (Γ' := []) 25 mixed 
     (tl rfl (ptr [i64 a0, i64 a1, (sFc a2), sl a3.length (a3.map i64)]) (LOp.fap und32 rfl siz27 rfl rfl rfl) <|
     (tl rfl (agg (mXc a0 a1 a2)) (yL agg27 siz27) <|
     (TR.d (r := b true) (fs := []) rfl rfl (TOp.eqb (TOp.callB (CallAs.func ent37 rfl rfl) (Bors.cons (Bor.agg (bP (bP (bS bN)))) bN) rfl rfl (i_isSquare_ok a0 a1 a2 r1 hf1)) hc2) <|
     (tm rfl (b true) <|
     (tl rfl (ptr [i64 a0, i64 a1, (sFc a2), sl a3.length (a3.map i64)]) (LOp.fap und32 rfl siz27 rfl rfl rfl) <|
     (tl rfl (agg (mXc a0 a1 a2)) (yL agg27 siz27) <|
     (TR.d (r := (sFc r2)) (fs := []) rfl rfl (TOp.callS (CallAs.func ent47 rfl rfl) (ALes.cons aR ALes.nil) (lts_cons (lt_agg (lts_cons rfl (lts_cons rfl (lts_cons (lt_sl (fun _ => rfl)) lts_nil)))) lts_nil) (lt_sl (fun _ => rfl)) (i_Matrix_middle_ok a0 a1 a2 r2 hf3) (Bor.own (f := f32) (fun _ => rfl) rfl rfl)) <|
     (TR.d (r := b false) (fs := []) rfl rfl (TOp.eqb (yc ent46 rfl rfl (bS (Bors.cons (Bor.le (ALe.fl (by kernel_rfl) (by kernel_rfl)) (Bor.pure rfl)) bN)) (x_slices_Contains_float32_float32_ok r2 (some 0) r3 hf4)) hc5) <|
     (tl rfl (b true) (LOp.eqb (LOp.not rfl rfl) rfl) <|
     (tl rfl (b true) yq <|
     (tm rfl (b true) <|
     (tl rfl (ptr [sl a3.length (a3.map i64)]) (LOp.fap und32 rfl siz30 rfl rfl rfl) <|
     (tl rfl (sl a3.length (a3.map i64)) (y2 agg30) <|
     (TR.d (r := b true) (fs := []) rfl rfl (TOp.eqb (yc ent48 rfl rfl (bS bN) (i_IsOrder_ok a3 r4 hf6)) hc7) <|
     (tl rfl (b true) yq <|
     (tm rfl (b true) <|
     (tl rfl (ptr [sl a3.length (a3.map i64)]) (LOp.fap und32 rfl siz30 rfl rfl rfl) <|
     (tl rfl (sl a3.length (a3.map i64)) (y2 agg30) <|
     (TR.d (r := i64 r5) (fs := []) rfl rfl (yc ent49 rfl rfl (bS bN) (i_length_int64_ok a3 r5 hf8)) <|
     (tl rfl (ptr [i64 a0, i64 a1, (sFc a2), sl a3.length (a3.map i64)]) (LOp.fap und32 rfl siz27 rfl rfl rfl) <|
     (tl rfl (ptr [i64 a0, i64 a1, (sFc a2), sl a3.length (a3.map i64)]) (LOp.fap und27 rfl siz2 rfl rfl rfl) <|
     (tl rfl (i64 a0) (y2 agg2) <|
     (tl rfl (b (decide (r5 = a0))) (LOp.eql rfl rfl rfl) <|
     (tl rfl (b (decide (r5 = a0))) yq <|
     (tl rfl (b (decide (r5 = a0))) (LOp.assign rfl rfl) <|
     TR.nil))))))))))))))))))))))))) rfl (by kernel_rfl) rfl fills_nil rfl ?_
    iterate 25 refine ROps.dropS ?_
    refine ROps.drop0<|zN ?_
    refine RunC.ret ?_
    have hq := oI h
    subst q0
    exact bodyQ.pure (.inr rfl) rfl (Res.one rfl (RV.tmp rfl))
   ·refine RunC.region_draw (Γ' := []) 25 mixed 
     (tl rfl (ptr [i64 a0, i64 a1, (sFc a2), sl a3.length (a3.map i64)]) (LOp.fap und32 rfl siz27 rfl rfl rfl) <|
     (tl rfl (agg (mXc a0 a1 a2)) (yL agg27 siz27) <|
     (TR.d (r := b true) (fs := []) rfl rfl (TOp.eqb (TOp.callB (CallAs.func ent37 rfl rfl) (Bors.cons (Bor.agg (bP (bP (bS bN)))) bN) rfl rfl (i_isSquare_ok a0 a1 a2 r1 hf1)) hc2) <|
     (tm rfl (b true) <|
     (tl rfl (ptr [i64 a0, i64 a1, (sFc a2), sl a3.length (a3.map i64)]) (LOp.fap und32 rfl siz27 rfl rfl rfl) <|
     (tl rfl (agg (mXc a0 a1 a2)) (yL agg27 siz27) <|
     (TR.d (r := (sFc r2)) (fs := []) rfl rfl (TOp.callS (CallAs.func ent47 rfl rfl) (ALes.cons aR ALes.nil) (lts_cons (lt_agg (lts_cons rfl (lts_cons rfl (lts_cons (lt_sl (fun _ => rfl)) lts_nil)))) lts_nil) (lt_sl (fun _ => rfl)) (i_Matrix_middle_ok a0 a1 a2 r2 hf3) (Bor.own (f := f32) (fun _ => rfl) rfl rfl)) <|
     (TR.d (r := b false) (fs := []) rfl rfl (TOp.eqb (yc ent46 rfl rfl (bS (Bors.cons (Bor.le (ALe.fl (by kernel_rfl) (by kernel_rfl)) (Bor.pure rfl)) bN)) (x_slices_Contains_float32_float32_ok r2 (some 0) r3 hf4)) hc5) <|
     (tl rfl (b true) (LOp.eqb (LOp.not rfl rfl) rfl) <|
     (tl rfl (b true) yq <|
     (tm rfl (b true) <|
     (tl rfl (ptr [sl a3.length (a3.map i64)]) (LOp.fap und32 rfl siz30 rfl rfl rfl) <|
     (tl rfl (sl a3.length (a3.map i64)) (y2 agg30) <|
     (TR.d (r := b false) (fs := []) rfl rfl (TOp.eqb (yc ent48 rfl rfl (bS bN) (i_IsOrder_ok a3 r4 hf6)) hc7) <|
     (tl rfl (b false) yq <|
     (tm rfl (b false) <|
     (ts rfl <|
     (ts rfl <|
     (ts rfl <|
     (ts rfl <|
     (ts rfl <|
     (ts rfl <|
     (ts rfl <|
     (tl rfl (b false) yp <|
     (tl rfl (b false) (LOp.assign rfl rfl) <|
     TR.nil))))))))))))))))))))))))) rfl (by kernel_rfl) rfl fills_nil rfl ?_
    iterate 25 refine ROps.dropS ?_
    refine ROps.drop0<|zN ?_
    refine RunC.ret ?_
    have hq := oI h
    subst q0
    exact bodyQ.pure (.inr rfl) rfl (Res.one rfl (RV.tmp rfl))
 ·refine RunC.region_draw (Γ' := []) 25 mixed 
   (tl rfl (ptr [i64 a0, i64 a1, (sFc a2), sl a3.length (a3.map i64)]) (LOp.fap und32 rfl siz27 rfl rfl rfl) <|
   (tl rfl (agg (mXc a0 a1 a2)) (yL agg27 siz27) <|
   (TR.d (r := b false) (fs := []) rfl rfl (TOp.eqb (TOp.callB (CallAs.func ent37 rfl rfl) (Bors.cons (Bor.agg (bP (bP (bS bN)))) bN) rfl rfl (i_isSquare_ok a0 a1 a2 r1 hf1)) hc2) <|
   (tm rfl (b false) <|
   (ts rfl <|
   (ts rfl <|
   (ts rfl <|
   (ts rfl <|
   (ts rfl <|
   (tl rfl (b false) yp <|
   (tm rfl (b false) <|
   (ts rfl <|
   (ts rfl <|
   (ts rfl <|
   (tl rfl (b false) yp <|
   (tm rfl (b false) <|
   (ts rfl <|
   (ts rfl <|
   (ts rfl <|
   (ts rfl <|
   (ts rfl <|
   (ts rfl <|
   (ts rfl <|
   (tl rfl (b false) yp <|
   (tl rfl (b false) (LOp.assign rfl rfl) <|
   TR.nil))))))))))))))))))))))))) rfl (by kernel_rfl) rfl fills_nil rfl ?_
  iterate 25 refine ROps.dropS ?_
  refine ROps.drop0<|zN ?_
  refine RunC.ret ?_
  have hq := oI h
  subst q0
  exact bodyQ.pure (.inr rfl) rfl (Res.one rfl (RV.tmp rfl))
def i_IsVector (a0 : List F) : Option (Bool) :=
 obind (i_length_float32 a0) fun (r1 : Int) =>
 obind (i_inRange r1 1 256) fun (r2 : Bool) =>
 bsel r2 (
  obind (i_areFinite a0) fun (r3 : Bool) =>
  some r3) (
  some false)
theorem i_IsVector_ok (a0 : List F) (q0 : Bool) (h : i_IsVector a0 = some q0) : Ev Tryz.prog 106 [(sFc a0)] [] (b q0) [] := by
 refine yE Tryz.func106 0 21 0 [(0, (sFc a0))] [] rfl ?_
 unfold i_IsVector at h
 refine zQ<|ya rfl (b false)<|zN ?_
 refine yS ?_
 obtain ⟨r1, hf1, h⟩ := oS h
 obtain ⟨r2, hf2, h⟩ := oS h
 rcases oB h with ⟨hc3, h⟩ | ⟨hc3, h⟩
 ·obtain ⟨r3, hf4, h⟩ := oS h
  refine yW<|ym rfl (sFc a0)<|yd rfl (i64 r1) (yc ent98 rfl rfl (bS bN) (i_length_float32_ok a0 r1 hf1))<|yd rfl (b true) (TOp.eqb (yc ent112 rfl rfl (bP (bP bN0)) (i_inRange_ok r1 1 256 r2 hf2)) hc3)<|ym rfl (b true)<|ym rfl (sFc a0)<|yd rfl (b r3) (yc ent99 rfl rfl (bS bN) (i_areFinite_ok a0 r3 hf4))<|yl rfl (b r3) yq<|ya rfl (b r3)<|zN ?_
  refine RunC.ret ?_
  have hq := oI h
  subst q0
  exact bodyQ.pure (.inr rfl) rfl (Res.one rfl (RV.tmp rfl))
 ·refine yW<|ym rfl (sFc a0)<|yd rfl (i64 r1) (yc ent98 rfl rfl (bS bN) (i_length_float32_ok a0 r1 hf1))<|yd rfl (b false) (TOp.eqb (yc ent112 rfl rfl (bP (bP bN0)) (i_inRange_ok r1 1 256 r2 hf2)) hc3)<|ym rfl (b false)<|ROps.s rfl rfl rfl<|ROps.s rfl rfl rfl<|yl rfl (b false) yp<|ya rfl (b false)<|zN ?_
  refine RunC.ret ?_
  have hq := oI h
  subst q0
  exact bodyQ.pure (.inr rfl) rfl (Res.one rfl (RV.tmp rfl))
def i_Factor_takes (a0 : Int) (a1 : Int) (a2 : List F) (a3 : List Int) (a4 : List F) : Option (Bool) :=
 obind (i_ValidFactor a0 a1 a2 a3) fun (r1 : Bool) =>
 bsel r1 (
  obind (i_IsVector a4) fun (r2 : Bool) =>
  bsel r2 (
   obind (i_length_float32 a4) fun (r3 : Int) =>
   some (decide (r3 = a0))) (
   some false)) (
  some false)
theorem i_Factor_takes_ok (a0 : Int) (a1 : Int) (a2 : List F) (a3 : List Int) (a4 : List F) (q0 : Bool) (h : i_Factor_takes a0 a1 a2 a3 a4 = some q0) : Ev Tryz.prog 63 [agg [i64 a0, i64 a1, (sFc a2), sl a3.length (a3.map i64)], (sFc a4)] [] (b q0) [] := by
 refine yE Tryz.func63 0 39 0 ([(0, agg [i64 a0, i64 a1, (sFc a2), sl a3.length (a3.map i64)]), (1, (sFc a4))]) [] rfl ?_
 unfold i_Factor_takes at h
 refine zQ<|yd rfl (ptr [i64 a0, i64 a1, (sFc a2), sl a3.length (a3.map i64)]) (TOp.box_s rfl rfl rfl)<|ya rfl (b false)<|zN ?_
 refine yS ?_
 obtain ⟨r1, hf1, h⟩ := oS h
 rcases oB h with ⟨hc2, h⟩ | ⟨hc2, h⟩
 ·obtain ⟨r2, hf3, h⟩ := oS h
  rcases oB h with ⟨hc4, h⟩ | ⟨hc4, h⟩
  ·obtain ⟨r3, hf5, h⟩ := oS h
   refine RunC.region_draw (Γ' := []) 15 mixed 
    (tl rfl (agg [i64 a0, i64 a1, (sFc a2), sl a3.length (a3.map i64)]) (yL agg32 siz32) <|
    (TR.d (r := b true) (fs := []) rfl rfl (TOp.eqb (TOp.callB (CallAs.func ent10 rfl rfl) (Bors.cons (Bor.agg (bP (bP (bS (bS bN))))) bN) rfl rfl (i_ValidFactor_ok a0 a1 a2 a3 r1 hf1)) hc2) <|
    (tm rfl (b true) <|
    (tm rfl (sFc a4) <|
    (TR.d (r := b true) (fs := []) rfl rfl (TOp.eqb (yc ent106 rfl rfl (bS bN) (i_IsVector_ok a4 r2 hf3)) hc4) <|
    (tl rfl (b true) yq <|
    (tm rfl (b true) <|
    (tm rfl (sFc a4) <|
    (TR.d (r := i64 r3) (fs := []) rfl rfl (yc ent98 rfl rfl (bS bN) (i_length_float32_ok a4 r3 hf5)) <|
    (tl rfl (ptr [i64 a0, i64 a1, (sFc a2), sl a3.length (a3.map i64)]) (LOp.fap und32 rfl siz27 rfl rfl rfl) <|
    (tl rfl (ptr [i64 a0, i64 a1, (sFc a2), sl a3.length (a3.map i64)]) (LOp.fap und27 rfl siz2 rfl rfl rfl) <|
    (tl rfl (i64 a0) (y2 agg2) <|
    (tl rfl (b (decide (r3 = a0))) (LOp.eql rfl rfl rfl) <|
    (tl rfl (b (decide (r3 = a0))) yq <|
    (tl rfl (b (decide (r3 = a0))) (LOp.assign rfl rfl) <|
    TR.nil))))))))))))))) rfl (by kernel_rfl) rfl fills_nil rfl ?_
   iterate 15 refine ROps.dropS ?_
   refine ROps.drop0<|zN ?_
   refine RunC.ret ?_
   have hq := oI h
   subst q0
   exact bodyQ.pure (.inr rfl) rfl (Res.one rfl (RV.tmp rfl))
  ·refine RunC.region_draw (Γ' := []) 15 mixed 
    (tl rfl (agg [i64 a0, i64 a1, (sFc a2), sl a3.length (a3.map i64)]) (yL agg32 siz32) <|
    (TR.d (r := b true) (fs := []) rfl rfl (TOp.eqb (TOp.callB (CallAs.func ent10 rfl rfl) (Bors.cons (Bor.agg (bP (bP (bS (bS bN))))) bN) rfl rfl (i_ValidFactor_ok a0 a1 a2 a3 r1 hf1)) hc2) <|
    (tm rfl (b true) <|
    (tm rfl (sFc a4) <|
    (TR.d (r := b false) (fs := []) rfl rfl (TOp.eqb (yc ent106 rfl rfl (bS bN) (i_IsVector_ok a4 r2 hf3)) hc4) <|
    (tl rfl (b false) yq <|
    (tm rfl (b false) <|
    (ts rfl <|
    (ts rfl <|
    (ts rfl <|
    (ts rfl <|
    (ts rfl <|
    (ts rfl <|
    (tl rfl (b false) yp <|
    (tl rfl (b false) (LOp.assign rfl rfl) <|
    TR.nil))))))))))))))) rfl (by kernel_rfl) rfl fills_nil rfl ?_
   iterate 15 refine ROps.dropS ?_
   refine ROps.drop0<|zN ?_
   refine RunC.ret ?_
   have hq := oI h
   subst q0
   exact bodyQ.pure (.inr rfl) rfl (Res.one rfl (RV.tmp rfl))
 ·refine RunC.region_draw (Γ' := []) 15 mixed 
   (tl rfl (agg [i64 a0, i64 a1, (sFc a2), sl a3.length (a3.map i64)]) (yL agg32 siz32) <|
   (TR.d (r := b false) (fs := []) rfl rfl (TOp.eqb (TOp.callB (CallAs.func ent10 rfl rfl) (Bors.cons (Bor.agg (bP (bP (bS (bS bN))))) bN) rfl rfl (i_ValidFactor_ok a0 a1 a2 a3 r1 hf1)) hc2) <|
   (tm rfl (b false) <|
   (ts rfl <|
   (ts rfl <|
   (tl rfl (b false) yp <|
   (tm rfl (b false) <|
   (ts rfl <|
   (ts rfl <|
   (ts rfl <|
   (ts rfl <|
   (ts rfl <|
   (ts rfl <|
   (tl rfl (b false) yp <|
   (tl rfl (b false) (LOp.assign rfl rfl) <|
   TR.nil))))))))))))))) rfl (by kernel_rfl) rfl fills_nil rfl ?_
  iterate 15 refine ROps.dropS ?_
  refine ROps.drop0<|zN ?_
  refine RunC.ret ?_
  have hq := oI h
  subst q0
  exact bodyQ.pure (.inr rfl) rfl (Res.one rfl (RV.tmp rfl))
def i_Matrix_lessRow_b1 (a0 : Int) (a1 : Int) (a2 : List F) (a4 : Int) (a6 : Int) (a7 : List F) (y1 : F) (v2 : Int) : Option (LR (F × Int) (F) (F)) :=
 bsel (decide (v2 < a6)) (
  obind (i_Matrix_at a0 a1 a2 a4 v2) fun (r3 : F) =>
  obind (at? a7 v2) fun (e4 : F) =>
  obind (i_mul r3 e4) fun (r5 : F) =>
  olet (fop .sub .f32 y1 r5) fun (x6 : F) =>
  olet (IntKind.i64.wrap (v2 + 1)) fun (x7 : Int) =>
  some (LR.next (x6, x7))) (
  some (LR.out y1))
def i_Matrix_lessRow_s1 (a0 : Int) (a1 : Int) (a2 : List F) (a4 : Int) (a6 : Int) (a7 : List F) : (F × Int) → Option (LR (F × Int) (F) (F)) := fun s => i_Matrix_lessRow_b1 a0 a1 a2 a4 a6 a7 s.1 s.2
def i_Matrix_lessRow_k1 (y8 : F) : Option (F) :=
 some y8
def i_Matrix_lessRow (a0 : Int) (a1 : Int) (a2 : List F) (a3 : F) (a4 : Int) (a5 : Int) (a6 : Int) (a7 : List F) : Option (F) :=
 obind (loopM (i_Matrix_lessRow_s1 a0 a1 a2 a4 a6 a7) (a3, a5)) fun z => osum z (fun e => i_Matrix_lessRow_k1 e) (fun r => some r)
theorem i_Matrix_lessRow_ok (a0 : Int) (a1 : Int) (a2 : List F) (a3 : F) (a4 : Int) (a5 : Int) (a6 : Int) (a7 : List F) (q0 : F) (h : i_Matrix_lessRow a0 a1 a2 a3 a4 a5 a6 a7 = some q0) : Ev Tryz.prog 107 [agg (mXc a0 a1 a2), f32 a3, i64 a4, i64 a5, i64 a6, (sFc a7)] [] (f32 q0) [] := by
 refine yE Tryz.func107 0 65 0 [(0, agg (mXc a0 a1 a2)), (1, f32 a3), (2, i64 a4), (3, i64 a5), (4, i64 a6), (5, (sFc a7))] [] rfl ?_
 unfold i_Matrix_lessRow at h
 refine zQ<|yd rfl (ptr (mXc a0 a1 a2)) (TOp.box_s rfl rfl rfl)<|yl rfl (f32 (some 0)) (LOp.le (LOp.assign rfl rfl) (ALe.fl (by kernel_rfl) (by kernel_rfl)))<|zN ?_
 refine yS<|zQ<|ym rfl (i64 a5)<|ya rfl (i64 a5)<|zN ?_
 obtain ⟨z2, hz_2, h⟩ := oS h
 refine RunC.cutN (fun τ Γ => ∃ (y8 : F), WeakLe τ [(1, f32 y8)] ∧ DeadLe Γ [] ∧ z2 = .inl y8) ?_ ?_
 ·refine RunC.block (RunC.loop (RunL.loopM (x := z2) (i_Matrix_lessRow_s1 a0 a1 a2 a4 a6 a7) (fun (s : F × Int) τ Γ => WeakLe τ [(1, f32 s.1), (2, i64 a4), (4, i64 a6), (5, (sFc a7)), (6, ptr (mXc a0 a1 a2)), (13, i64 s.2)] ∧ DeadLe Γ []) ?_ _ _ _ hz_2 ⟨⟨aR, aR, aR, aR, aR, aR, trivial⟩, trivial⟩))
  rintro ⟨y1, v2⟩ τ2 Γ2 y2_ ⟨hw2, hd2⟩ h2_ ho2 hr2
  refine RunC.wl (τ' := [(1, f32 y1), (2, i64 a4), (4, i64 a6), (5, (sFc a7)), (6, ptr (mXc a0 a1 a2)), (13, i64 v2)]) (Γ' := []) hw2 hd2 ?_
  replace h2_ : i_Matrix_lessRow_b1 a0 a1 a2 a4 a6 a7 y1 v2 = some y2_ := h2_
  unfold i_Matrix_lessRow_b1 at h2_
  refine yS<|yS ?_
  rcases oB h2_ with ⟨hc1, h2_⟩ | ⟨hc1, h2_⟩
  ·refine yW<|ym rfl (i64 v2)<|ym rfl (i64 a6)<|yl rfl (b true) (LOp.eqb (LOp.lss rfl rfl rfl) hc1)<|zN ?_
   refine yT<|RunC.skip<|yS<|RunC.block ?_
   obtain ⟨r3, hf2, h2_⟩ := oS h2_
   obtain ⟨e4, he3, h2_⟩ := oS h2_
   obtain ⟨r5, hf4, h2_⟩ := oS h2_
   obtain ⟨x6, hx5, h2_⟩ := oL h2_
   refine RunC.region_draw (Γ' := []) 12 mixed 
    (tm rfl (f32 y1) <|
    (tl rfl (agg (mXc a0 a1 a2)) (yL agg27 siz27) <|
    (tm rfl (i64 a4) <|
    (tm rfl (i64 v2) <|
    (TR.d (r := f32 r3) (fs := []) rfl rfl (TOp.callB (CallAs.func ent41 rfl rfl) (Bors.cons (Bor.agg (bP (bP (bS bN)))) (bP bN0)) rfl rfl (i_Matrix_at_ok a0 a1 a2 a4 v2 r3 hf2)) <|
    (tm rfl (sFc a7) <|
    (tm rfl (i64 v2) <|
    (tl rfl (ptr [f32 e4]) (LOp.le (LOp.ix (f := f32) und25 siz41 rfl rfl rfl rfl he3) ALe.ptr) <|
    (tl rfl (f32 e4) (y2 agg41) <|
    (TR.d (r := f32 r5) (fs := []) rfl rfl (yc ent80 rfl rfl (bP bN0) (i_mul_ok r3 e4 r5 hf4)) <|
    (TR.d (r := f32 x6) (fs := []) rfl rfl (TOp.eqr (TOp.fop (.inr (.inl rfl)) rfl (OpF.tmp rfl) (OpF.tmp rfl)) (congrArg (f .f32) hx5)) <|
    (tl rfl (f32 x6) (LOp.assign rfl rfl) <|
    TR.nil)))))))))))) rfl (by kernel_rfl) rfl fills_nil rfl ?_
   iterate 12 refine ROps.dropS ?_
   refine ROps.drop0<|zN ?_
   refine RunC.wl (τ' := [(1, f32 x6), (2, i64 a4), (4, i64 a6), (5, (sFc a7)), (6, ptr (mXc a0 a1 a2)), (13, i64 v2)]) (Γ' := []) ⟨aR, aR, aR, aR, aR, aR, trivial⟩ trivial ?_
   obtain ⟨x7, hx6, h2_⟩ := oL h2_
   refine yW<|ym rfl (i64 v2)<|yl rfl (i64 x7) (LOp.eqr (LOp.add rfl rfl rfl) (congrArg (ik .i64) hx6))<|ya rfl (i64 x7)<|zN ?_
   cases oI h2_
   exact ⟨_, rfl, ⟨aR, aR, aR, aR, aR, aR, trivial⟩, trivial⟩
  ·refine yW<|ym rfl (i64 v2)<|ym rfl (i64 a6)<|yl rfl (b false) (LOp.eqb (LOp.lss rfl rfl rfl) hc1)<|zN ?_
   refine yF<|RunC.exit ?_
   cases oI h2_
   have hx := ho2 _ rfl
   exact ⟨y1, ⟨aR, trivial⟩, trivial, hx⟩
 ·rintro τ3 Γ3 ⟨y8, hw3, hd3, rfl⟩
  refine RunC.wl hw3 hd3 ?_
  replace h : i_Matrix_lessRow_k1 y8 = some q0 := h
  unfold i_Matrix_lessRow_k1 at h
  refine zQ<|ym rfl (f32 y8)<|ya rfl (f32 y8)<|zN ?_
  refine RunC.ret ?_
  have hq := oI h
  subst q0
  exact bodyQ.pure (.inr rfl) rfl (Res.one rfl (RV.tmp rfl))
def i_Matrix_upperSolve_b1 (a0 : Int) (a1 : Int) (a2 : List F) (L3 : List F) (v5 : Int) : Option (LR ((List F) × Int) ((List F)) ((List F))) :=
 bsel (decide (0 ≤ v5)) (
  obind (at? L3 v5) fun (e6 : F) =>
  olet (IntKind.i64.wrap (v5 + 1)) fun (x7 : Int) =>
  obind (i_Matrix_lessRow a0 a1 a2 e6 v5 x7 a1 L3) fun (r8 : F) =>
  obind (i_Matrix_at a0 a1 a2 v5 v5) fun (r9 : F) =>
  olet (fop .quo .f32 r8 r9) fun (x10 : F) =>
  obind (setAt? L3 v5 x10) fun (L11 : List F) =>
  olet (IntKind.i64.wrap (v5 - 1)) fun (x12 : Int) =>
  some (LR.next (L11, x12))) (
  some (LR.out L3))
def i_Matrix_upperSolve_s1 (a0 : Int) (a1 : Int) (a2 : List F) : ((List F) × Int) → Option (LR ((List F) × Int) ((List F)) ((List F))) := fun s => i_Matrix_upperSolve_b1 a0 a1 a2 s.1 s.2
def i_Matrix_upperSolve_k1 (L13 : List F) : Option ((List F)) :=
 some L13
def i_Matrix_upperSolve (a0 : Int) (a1 : Int) (a2 : List F) (a3 : List F) : Option ((List F)) :=
 obind (x_slices_Clone_float32_float32 a3) fun (r1 : List F) =>
 olet (IntKind.i64.wrap (a0 - 1)) fun (x2 : Int) =>
 obind (loopM (i_Matrix_upperSolve_s1 a0 a1 a2) (r1, x2)) fun z => osum z (fun e => i_Matrix_upperSolve_k1 e) (fun r => some r)
theorem i_Matrix_upperSolve_ok (a0 : Int) (a1 : Int) (a2 : List F) (a3 : List F) (q0 : List F) (h : i_Matrix_upperSolve a0 a1 a2 a3 = some q0) : Ev Tryz.prog 108 [agg (mXc a0 a1 a2), (sFc a3)] [] (oref 0 0 0 q0.length) [⟨0, some (q0.map f32)⟩] := by
 refine yE Tryz.func108 1 75 0 [(0, agg (mXc a0 a1 a2)), (1, (sFc a3))] [⟨0, none⟩] rfl ?_
 unfold i_Matrix_upperSolve at h
 refine zQ<|yd rfl (ptr (mXc a0 a1 a2)) (TOp.box_s rfl rfl rfl)<|ya rfl nilsl<|zN ?_
 refine yS ?_
 obtain ⟨r1, hf1, h⟩ := oS h
 refine yW<|ym rfl (sFc a3)<|ye rfl (oref 0 1 0 r1.length) [⟨1, some (r1.map f32)⟩] (TOp.callBN (ls := [(r1.map f32)]) [0] (CallAs.func ent66 rfl rfl) (bS bN) rfl (x_slices_Clone_float32_float32_ok a3 r1 hf1) (and_all (lts0_map (f := f32) (fun _ => rfl) _) rfl) (and_all (noss_map (f := f32) (fun _ => rfl) _) rfl) rfl (by decide) (ns_of ⟨⟨_, rfl⟩, trivial⟩))<|ya rfl (oref 0 1 0 r1.length)<|zN ?_
 refine yS<|yS ?_
 obtain ⟨x2, hx2, h⟩ := oL h
 refine yW<|yl rfl (ptr (mXc a0 a1 a2)) (LOp.fap und27 rfl siz2 rfl rfl rfl)<|yl rfl (i64 a0) (y2 agg2)<|yl rfl (i64 x2) (LOp.eqr (LOp.sub rfl rfl rfl) (congrArg (ik .i64) hx2))<|ya rfl (i64 x2)<|zN ?_
 obtain ⟨z2, hz_2, h⟩ := oS h
 refine RunC.cutN (fun τ Γ => ∃ (L13 : List F), L13.length = r1.length ∧ WeakLe τ [(5, oref 0 1 0 r1.length)] ∧ DeadLe Γ [⟨1, some (L13.map f32)⟩] ∧ z2 = .inl L13) ?_ ?_
 ·refine RunC.block (RunC.loop (RunL.loopM (x := z2) (i_Matrix_upperSolve_s1 a0 a1 a2) (fun (s : (List F) × Int) τ Γ => s.1.length = r1.length ∧ WeakLe τ [(2, ptr (mXc a0 a1 a2)), (5, oref 0 1 0 r1.length), (6, i64 s.2)] ∧ DeadLe Γ [⟨1, some (s.1.map f32)⟩]) ?_ _ _ _ hz_2 ⟨rfl, ⟨aR, aR, aR, trivial⟩, ⟨⟨rfl, .inr rfl⟩, trivial⟩⟩))
  rintro ⟨L3, v5⟩ τ2 Γ2 y2_ ⟨hl4, hw2, hd2⟩ h2_ ho2 hr2
  refine RunC.wl (τ' := [(2, ptr (mXc a0 a1 a2)), (5, oref 0 1 0 r1.length), (6, i64 v5)]) (Γ' := [⟨1, some (L3.map f32)⟩]) hw2 hd2 ?_
  replace hl4 : L3.length = r1.length := hl4
  replace h2_ : i_Matrix_upperSolve_b1 a0 a1 a2 L3 v5 = some y2_ := h2_
  unfold i_Matrix_upperSolve_b1 at h2_
  refine yS<|yS ?_
  rcases oB h2_ with ⟨hc3, h2_⟩ | ⟨hc3, h2_⟩
  ·refine yW<|ym rfl (i64 v5)<|yl rfl (b true) (LOp.eqb (LOp.geq rfl rfl rfl) hc3)<|zN ?_
   refine yT<|RunC.skip<|yS<|RunC.block ?_
   obtain ⟨e6, he4, h2_⟩ := oS h2_
   obtain ⟨x7, hx5, h2_⟩ := oL h2_
   obtain ⟨r8, hf6, h2_⟩ := oS h2_
   obtain ⟨r9, hf7, h2_⟩ := oS h2_
   obtain ⟨x10, hx8, h2_⟩ := oL h2_
   obtain ⟨L11, he9, h2_⟩ := oS h2_
   refine RunC.region_draw (Γ' := [⟨1, some (L3.map f32)⟩]) 20 mixed 
    (tm rfl (oref 0 1 0 r1.length) <|
    (tm rfl (i64 v5) <|
    (tl rfl (agg (mXc a0 a1 a2)) (yL agg27 siz27) <|
    (tm rfl (oref 0 1 0 r1.length) <|
    (tm rfl (i64 v5) <|
    (TR.d (r := optr 0 1 v5.toNat) (fs := []) rfl rfl (TOp.ixo und25 siz41 rfl rfl rfl (at_in he4 hl4) rfl) <|
    (TR.d (r := f32 e6) (fs := []) rfl rfl (TOp.load1_o rfl (at_cell he4) agg41 rfl rfl) <|
    (tm rfl (i64 v5) <|
    (tm rfl (i64 v5) <|
    (tl rfl (i64 x7) (LOp.eqr (LOp.add rfl rfl rfl) (congrArg (ik .i64) hx5)) <|
    (tl rfl (ptr [i64 a1, (sFc a2)]) (LOp.fap und27 rfl siz2 rfl rfl rfl) <|
    (tl rfl (i64 a1) (y2 agg2) <|
    (tm rfl (oref 0 1 0 r1.length) <|
    (TR.d (r := f32 r8) (fs := []) rfl rfl (TOp.callB (CallAs.func ent107 rfl rfl) (Bors.cons (Bor.agg (bP (bP (bS bN)))) (bP (bP (bP (bP (Bors.cons (Bor.own (f := f32) (fun _ => rfl) rfl hl4) bN)))))) rfl rfl (i_Matrix_lessRow_ok a0 a1 a2 e6 v5 x7 a1 L3 r8 hf6)) <|
    (tl rfl (agg (mXc a0 a1 a2)) (yL agg27 siz27) <|
    (tm rfl (i64 v5) <|
    (tm rfl (i64 v5) <|
    (TR.d (r := f32 r9) (fs := []) rfl rfl (TOp.callB (CallAs.func ent41 rfl rfl) (Bors.cons (Bor.agg (bP (bP (bS bN)))) (bP bN0)) rfl rfl (i_Matrix_at_ok a0 a1 a2 v5 v5 r9 hf7)) <|
    (TR.d (r := f32 x10) (fs := []) rfl rfl (TOp.eqr (TOp.fop (.inr (.inr (.inr rfl))) rfl (OpF.tmp rfl) (OpF.tmp rfl)) (congrArg (f .f32) hx8)) <|
    (TR.d (r := optr 0 1 v5.toNat) (fs := []) rfl rfl (TOp.ixo und25 siz41 rfl rfl rfl (set_in he9 hl4) rfl) <|
    TR.nil)))))))))))))))))))) rfl (by kernel_rfl) rfl fills_nil rfl ?_
   iterate 20 refine ROps.dropS ?_
   refine ROps.drop0<|ROps.st (f := f32) (i := v5) (Γ' := [⟨1, some (L11.map f32)⟩]) rfl siz41 rfl rfl rfl aR rfl rfl rfl he9 rfl<|zN ?_
   refine RunC.wl (τ' := [(2, ptr (mXc a0 a1 a2)), (5, oref 0 1 0 r1.length), (6, i64 v5)]) (Γ' := [⟨1, some (L11.map f32)⟩]) ⟨aR, aR, aR, trivial⟩ ⟨⟨rfl, .inr rfl⟩, trivial⟩ ?_
   obtain ⟨x12, hx10, h2_⟩ := oL h2_
   refine yW<|ym rfl (i64 v5)<|yl rfl (i64 x12) (LOp.eqr (LOp.sub rfl rfl rfl) (congrArg (ik .i64) hx10))<|ya rfl (i64 x12)<|zN ?_
   cases oI h2_
   exact ⟨_, rfl, ((setAt?_len he9).trans hl4), ⟨aR, aR, aR, trivial⟩, ⟨⟨rfl, .inr rfl⟩, trivial⟩⟩
  ·refine yW<|ym rfl (i64 v5)<|yl rfl (b false) (LOp.eqb (LOp.geq rfl rfl rfl) hc3)<|zN ?_
   refine yF<|RunC.exit ?_
   cases oI h2_
   have hx := ho2 _ rfl
   exact ⟨L3, hl4, ⟨aR, trivial⟩, ⟨⟨rfl, .inr rfl⟩, trivial⟩, hx⟩
 ·rintro τ3 Γ3 ⟨L13, hl14, hw3, hd3, rfl⟩
  refine RunC.wl hw3 hd3 ?_
  replace h : i_Matrix_upperSolve_k1 L13 = some q0 := h
  unfold i_Matrix_upperSolve_k1 at h
  refine zQ<|ym rfl (oref 0 1 0 r1.length)<|ya rfl (oref 0 1 0 r1.length)<|zN ?_
  refine RunC.ret ?_
  have hq := oI h
  subst q0
  exact yB (oref 0 1 0 L13.length) [(0, 1)] (Res.eq (Res.one rfl (RV.tmp rfl)) (by rw [(show L13.length = r1.length from hl14)] <;> rfl)) (SelL.arr0 (f := f32) (fun _ => rfl) rfl trivial)
def i_Factor_solve_b1 (a3 : List Int) (a4 : List F) (L3 : List F) (v4 : Int) : Option (LR ((List F) × Int) ((List F)) ((List F))) :=
 bsel (decide (v4 < (a3.length : Int))) (
  obind (at? a3 v4) fun (e5 : Int) =>
  obind (at? a4 e5) fun (e6 : F) =>
  need (apok 4 L3.length 1) <|
  olet (IntKind.i64.wrap (v4 + 1)) fun (x7 : Int) =>
  some (LR.next ((L3 ++ ([e6] : List F)), x7))) (
  some (LR.out L3))
def i_Factor_solve_s1 (a3 : List Int) (a4 : List F) : ((List F) × Int) → Option (LR ((List F) × Int) ((List F)) ((List F))) := fun s => i_Factor_solve_b1 a3 a4 s.1 s.2
def i_Factor_solve_b2 (a0 : Int) (a1 : Int) (a2 : List F) (L11 : List F) (v13 : Int) : Option (LR ((List F) × Int) ((List F)) ((List F))) :=
 bsel (decide (v13 < a0)) (
  obind (at? L11 v13) fun (e14 : F) =>
  obind (i_Matrix_lessRow a0 a1 a2 e14 v13 0 v13 L11) fun (r15 : F) =>
  obind (setAt? L11 v13 r15) fun (L16 : List F) =>
  olet (IntKind.i64.wrap (v13 + 1)) fun (x17 : Int) =>
  some (LR.next (L16, x17))) (
  some (LR.out L11))
def i_Factor_solve_s2 (a0 : Int) (a1 : Int) (a2 : List F) : ((List F) × Int) → Option (LR ((List F) × Int) ((List F)) ((List F))) := fun s => i_Factor_solve_b2 a0 a1 a2 s.1 s.2
def i_Factor_solve_k2 (a0 : Int) (a1 : Int) (a2 : List F) (L18 : List F) : Option ((List F)) :=
 obind (i_Matrix_upperSolve a0 a1 a2 L18) fun (r20 : List F) =>
 some r20
def i_Factor_solve_k1 (a0 : Int) (a1 : Int) (a2 : List F) (L10 : List F) : Option ((List F)) :=
 obind (loopM (i_Factor_solve_s2 a0 a1 a2) (L10, 1)) fun z => osum z (fun e => i_Factor_solve_k2 a0 a1 a2 e) (fun r => some r)
def i_Factor_solve (a0 : Int) (a1 : Int) (a2 : List F) (a3 : List Int) (a4 : List F) : Option ((List F)) :=
 obind (loopM (i_Factor_solve_s1 a3 a4) (([] : List F), 0)) fun z => osum z (fun e => i_Factor_solve_k1 a0 a1 a2 e) (fun r => some r)
theorem i_Factor_solve_ok (a0 : Int) (a1 : Int) (a2 : List F) (a3 : List Int) (a4 : List F) (q0 : List F) (h : i_Factor_solve a0 a1 a2 a3 a4 = some q0) : Ev Tryz.prog 65 [agg [i64 a0, i64 a1, (sFc a2), sl a3.length (a3.map i64)], (sFc a4)] [] (oref 0 0 0 q0.length) [⟨0, some (q0.map f32)⟩] := by
 refine yE Tryz.func65 2 103 0 ([(0, agg [i64 a0, i64 a1, (sFc a2), sl a3.length (a3.map i64)]), (1, (sFc a4))]) [⟨0, none⟩, ⟨0, none⟩] rfl ?_
 unfold i_Factor_solve at h
 refine zQ<|yd rfl (ptr [i64 a0, i64 a1, (sFc a2), sl a3.length (a3.map i64)]) (TOp.box_s rfl rfl rfl)<|ya rfl nilsl<|zN ?_
 refine zQ<|yl rfl (ptr [i64 a0, i64 a1, (sFc a2), sl a3.length (a3.map i64)]) (LOp.fap und32 rfl siz27 rfl rfl rfl)<|yl rfl (ptr [i64 a0, i64 a1, (sFc a2), sl a3.length (a3.map i64)]) (LOp.fap und27 rfl siz2 rfl rfl rfl)<|yl rfl (i64 a0) (y2 agg2)<|ye rfl (oref 0 1 0 0) ([⟨1, some (([] : List F).map f32)⟩, ⟨0, none⟩]) (TOp.buildSlice_o (g := ⟨0, none⟩) (za := f32 (some 0)) (qs := []) 0 rfl und25 siz41 zer41 rfl zel41 rfl rfl trivial rfl)<|ya rfl (i64 a0)<|ya rfl (oref 0 1 0 0)<|zN ?_
 refine yS<|zQ<|yl rfl (ptr [sl a3.length (a3.map i64)]) (LOp.fap und32 rfl siz30 rfl rfl rfl)<|yl rfl (sl a3.length (a3.map i64)) (y2 agg30)<|yl rfl (i64 (a3.length : Int)) (LOp.len_sl und30 rfl rfl)<|ym rfl (i64 0)<|zN ?_
 obtain ⟨z3, hz_3, h⟩ := oS h
 refine RunC.cutN (fun τ Γ => ∃ (L10 : List F) (u8 : Nat) (u9 : Nat), WeakLe τ [(2, ptr [i64 a0, i64 a1, (sFc a2), sl a3.length (a3.map i64)]), (5, i64 a0), (6, oref 0 u8 0 L10.length)] ∧ DeadLe Γ [⟨u8, some (L10.map f32)⟩, ⟨u9, none⟩] ∧ z3 = .inl L10) ?_ ?_
 ·refine RunC.block (RunC.loop (RunL.loopM (x := z3) (i_Factor_solve_s1 a3 a4) (fun (s : (List F) × Int) τ Γ => ∃ (u1 : Nat) (u2 : Nat), WeakLe τ [(1, (sFc a4)), (2, ptr [i64 a0, i64 a1, (sFc a2), sl a3.length (a3.map i64)]), (5, i64 a0), (6, oref 0 u1 0 s.1.length), (15, sl a3.length (a3.map i64)), (16, i64 (a3.length : Int)), (17, i64 s.2)] ∧ DeadLe Γ [⟨u1, some (s.1.map f32)⟩, ⟨u2, none⟩]) ?_ _ _ _ hz_3 ⟨1, 0, ⟨aR, aR, aR, aR, aR, aR, aR, trivial⟩, ⟨⟨rfl, .inr rfl⟩, ⟨rfl, .inl rfl⟩, trivial⟩⟩))
  rintro ⟨L3, v4⟩ τ3 Γ3 y3_ ⟨u1, u2, hw3, hd3⟩ h3_ ho3 hr3
  refine RunC.wl (τ' := [(1, (sFc a4)), (2, ptr [i64 a0, i64 a1, (sFc a2), sl a3.length (a3.map i64)]), (5, i64 a0), (6, oref 0 u1 0 L3.length), (15, sl a3.length (a3.map i64)), (16, i64 (a3.length : Int)), (17, i64 v4)]) (Γ' := [⟨u1, some (L3.map f32)⟩, ⟨u2, none⟩]) hw3 hd3 ?_
  replace h3_ : i_Factor_solve_b1 a3 a4 L3 v4 = some y3_ := h3_
  unfold i_Factor_solve_b1 at h3_
  refine yS ?_
  rcases oB h3_ with ⟨hc1, h3_⟩ | ⟨hc1, h3_⟩
  ·refine yW<|yl rfl (b true) (LOp.eqb (LOp.lss rfl rfl rfl) hc1)<|zN ?_
   refine yS<|yT<|RunC.skip<|yS<|RunC.block<|yS ?_
   obtain ⟨e5, he2, h3_⟩ := oS h3_
   refine yW<|yl rfl (ptr [i64 e5]) (LOp.le (LOp.ix (f := i64) und30 siz2 rfl rfl rfl rfl he2) ALe.ptr)<|yl rfl (i64 e5) (y2 agg2)<|ya rfl (i64 e5)<|zN ?_
   obtain ⟨e6, he3, h3_⟩ := oS h3_
   obtain ⟨hm4, h3_⟩ := need_some h3_
   refine yW<|ym rfl (oref 0 u1 0 L3.length)<|ym rfl (sFc a4)<|ym rfl (i64 e5)<|yl rfl (ptr [f32 e6]) (LOp.le (LOp.ix (f := f32) und25 siz41 rfl rfl rfl rfl he3) ALe.ptr)<|yl rfl (f32 e6) (y2 agg41)<|ye rfl (oref 1 (u2 + 1) 0 1) ([⟨u1, some (L3.map f32)⟩, ⟨(u2 + 1), some (([e6] : List F).map f32)⟩]) (TOp.buildSlice_o (g := ⟨u2, none⟩) (za := f32 (some 0)) (qs := [(0, [f32 e6])]) 1 rfl und25 siz41 zer41 rfl zel41 rfl rfl ⟨rfl, ⟨_, ALe.refl _, rfl⟩, trivial⟩ rfl)<|ROps.app (f := f32) (xs := L3) (ys := ([e6] : List F)) (Γ' := [⟨(u1 + 1), some ((L3 ++ ([e6] : List F)).map f32)⟩, ⟨(u2 + 1), some (([e6] : List F).map f32)⟩]) rfl pun25 inf41 rfl rfl rfl rfl rfl rfl rfl rfl rfl (by simp) (ReadAs.own rfl (by simp)) (ones_map (fun _ => rfl)) (ap_by hm4) (ap_mx hm4) rfl<|ya rfl (oref 0 (u1 + 1) 0 (L3.length + 1))<|zN ?_
   refine RunC.wl (τ' := [(1, (sFc a4)), (2, ptr [i64 a0, i64 a1, (sFc a2), sl a3.length (a3.map i64)]), (5, i64 a0), (6, oref 0 (u1 + 1) 0 (L3.length + 1)), (15, sl a3.length (a3.map i64)), (16, i64 (a3.length : Int)), (17, i64 v4)]) (Γ' := [⟨(u1 + 1), some ((L3 ++ ([e6] : List F)).map f32)⟩, ⟨(u2 + 1), none⟩]) ⟨aR, aR, aR, aR, aR, aR, aR, trivial⟩ ⟨⟨rfl, .inr rfl⟩, ⟨rfl, .inl rfl⟩, trivial⟩ ?_
   obtain ⟨x7, hx5, h3_⟩ := oL h3_
   refine yW<|yl rfl (i64 x7) (LOp.eqr (LOp.add rfl rfl rfl) (congrArg (ik .i64) hx5))<|ym rfl (i64 x7)<|zN ?_
   cases oI h3_
   exact ⟨_, rfl, (u1 + 1), (u2 + 1), ⟨aR, aR, aR, (ALe.eq (by rw [(app_len rfl rfl)] <;> rfl)), aR, aR, aR, trivial⟩, ⟨⟨rfl, .inr rfl⟩, ⟨rfl, .inl rfl⟩, trivial⟩⟩
  ·refine yW<|yl rfl (b false) (LOp.eqb (LOp.lss rfl rfl rfl) hc1)<|zN ?_
   refine yS<|yF<|RunC.exit ?_
   cases oI h3_
   have hx := ho3 _ rfl
   exact ⟨L3, u1, u2, ⟨aR, aR, aR, trivial⟩, ⟨⟨rfl, .inr rfl⟩, ⟨rfl, .inl rfl⟩, trivial⟩, hx⟩
 ·rintro τ4 Γ4 ⟨L10, u8, u9, hw4, hd4, rfl⟩
  refine RunC.wl hw4 hd4 ?_
  replace h : i_Factor_solve_k1 a0 a1 a2 L10 = some q0 := h
  unfold i_Factor_solve_k1 at h
  refine yS<|zQ<|ya rfl (i64 1)<|zN ?_
  obtain ⟨z5, hz_5, h⟩ := oS h
  refine RunC.cutN (fun τ Γ => ∃ (L18 : List F), L18.length = L10.length ∧ WeakLe τ [(2, ptr [i64 a0, i64 a1, (sFc a2), sl a3.length (a3.map i64)]), (6, oref 0 u8 0 L10.length)] ∧ DeadLe Γ [⟨u8, some (L18.map f32)⟩, ⟨u9, none⟩] ∧ z5 = .inl L18) ?_ ?_
  ·refine RunC.block (RunC.loop (RunL.loopM (x := z5) (i_Factor_solve_s2 a0 a1 a2) (fun (s : (List F) × Int) τ Γ => s.1.length = L10.length ∧ WeakLe τ [(2, ptr [i64 a0, i64 a1, (sFc a2), sl a3.length (a3.map i64)]), (5, i64 a0), (6, oref 0 u8 0 L10.length), (9, i64 s.2)] ∧ DeadLe Γ [⟨u8, some (s.1.map f32)⟩, ⟨u9, none⟩]) ?_ _ _ _ hz_5 ⟨rfl, ⟨aR, aR, aR, aR, trivial⟩, ⟨⟨rfl, .inr rfl⟩, ⟨rfl, .inl rfl⟩, trivial⟩⟩))
   rintro ⟨L11, v13⟩ τ5 Γ5 y5_ ⟨hl12, hw5, hd5⟩ h5_ ho5 hr5
   refine RunC.wl (τ' := [(2, ptr [i64 a0, i64 a1, (sFc a2), sl a3.length (a3.map i64)]), (5, i64 a0), (6, oref 0 u8 0 L10.length), (9, i64 v13)]) (Γ' := [⟨u8, some (L11.map f32)⟩, ⟨u9, none⟩]) hw5 hd5 ?_
   replace hl12 : L11.length = L10.length := hl12
   replace h5_ : i_Factor_solve_b2 a0 a1 a2 L11 v13 = some y5_ := h5_
   unfold i_Factor_solve_b2 at h5_
   refine yS<|yS ?_
   rcases oB h5_ with ⟨hc6, h5_⟩ | ⟨hc6, h5_⟩
   ·refine yW<|ym rfl (i64 v13)<|ym rfl (i64 a0)<|yl rfl (b true) (LOp.eqb (LOp.lss rfl rfl rfl) hc6)<|zN ?_
    refine yT<|RunC.skip<|yS<|RunC.block ?_
    obtain ⟨e14, he7, h5_⟩ := oS h5_
    obtain ⟨r15, hf8, h5_⟩ := oS h5_
    obtain ⟨L16, he9, h5_⟩ := oS h5_
    refine RunC.region_draw (Γ' := [⟨u8, some (L11.map f32)⟩, ⟨u9, none⟩]) 13 mixed 
     (tm rfl (oref 0 u8 0 L10.length) <|
     (tm rfl (i64 v13) <|
     (tl rfl (ptr [i64 a0, i64 a1, (sFc a2), sl a3.length (a3.map i64)]) (LOp.fap und32 rfl siz27 rfl rfl rfl) <|
     (tl rfl (agg (mXc a0 a1 a2)) (yL agg27 siz27) <|
     (tm rfl (oref 0 u8 0 L10.length) <|
     (tm rfl (i64 v13) <|
     (TR.d (r := optr 0 u8 v13.toNat) (fs := []) rfl rfl (TOp.ixo und25 siz41 rfl rfl rfl (at_in he7 hl12) rfl) <|
     (TR.d (r := f32 e14) (fs := []) rfl rfl (TOp.load1_o rfl (at_cell he7) agg41 rfl rfl) <|
     (tm rfl (i64 v13) <|
     (tm rfl (i64 v13) <|
     (tm rfl (oref 0 u8 0 L10.length) <|
     (TR.d (r := f32 r15) (fs := []) rfl rfl (TOp.callB (CallAs.func ent107 rfl rfl) (Bors.cons (Bor.agg (bP (bP (bS bN)))) (bP (bP (bP (bP (Bors.cons (Bor.own (f := f32) (fun _ => rfl) rfl hl12) bN)))))) rfl rfl (i_Matrix_lessRow_ok a0 a1 a2 e14 v13 0 v13 L11 r15 hf8)) <|
     (TR.d (r := optr 0 u8 v13.toNat) (fs := []) rfl rfl (TOp.ixo und25 siz41 rfl rfl rfl (set_in he9 hl12) rfl) <|
     TR.nil))))))))))))) rfl (by kernel_rfl) rfl fills_nil rfl ?_
    iterate 13 refine ROps.dropS ?_
    refine ROps.drop0<|ROps.st (f := f32) (i := v13) (Γ' := [⟨u8, some (L16.map f32)⟩, ⟨u9, none⟩]) rfl siz41 rfl rfl rfl aR rfl rfl rfl he9 rfl<|zN ?_
    refine RunC.wl (τ' := [(2, ptr [i64 a0, i64 a1, (sFc a2), sl a3.length (a3.map i64)]), (5, i64 a0), (6, oref 0 u8 0 L10.length), (9, i64 v13)]) (Γ' := [⟨u8, some (L16.map f32)⟩, ⟨u9, none⟩]) ⟨aR, aR, aR, aR, trivial⟩ ⟨⟨rfl, .inr rfl⟩, ⟨rfl, .inl rfl⟩, trivial⟩ ?_
    obtain ⟨x17, hx10, h5_⟩ := oL h5_
    refine yW<|ym rfl (i64 v13)<|yl rfl (i64 x17) (LOp.eqr (LOp.add rfl rfl rfl) (congrArg (ik .i64) hx10))<|ya rfl (i64 x17)<|zN ?_
    cases oI h5_
    exact ⟨_, rfl, ((setAt?_len he9).trans hl12), ⟨aR, aR, aR, aR, trivial⟩, ⟨⟨rfl, .inr rfl⟩, ⟨rfl, .inl rfl⟩, trivial⟩⟩
   ·refine yW<|ym rfl (i64 v13)<|ym rfl (i64 a0)<|yl rfl (b false) (LOp.eqb (LOp.lss rfl rfl rfl) hc6)<|zN ?_
    refine yF<|RunC.exit ?_
    cases oI h5_
    have hx := ho5 _ rfl
    exact ⟨L11, hl12, ⟨aR, aR, trivial⟩, ⟨⟨rfl, .inr rfl⟩, ⟨rfl, .inl rfl⟩, trivial⟩, hx⟩
  ·rintro τ6 Γ6 ⟨L18, hl19, hw6, hd6, rfl⟩
   refine RunC.wl hw6 hd6 ?_
   replace h : i_Factor_solve_k2 a0 a1 a2 L18 = some q0 := h
   unfold i_Factor_solve_k2 at h
   refine yS ?_
   obtain ⟨r20, hf11, h⟩ := oS h
   refine yW<|yl rfl (ptr [i64 a0, i64 a1, (sFc a2), sl a3.length (a3.map i64)]) (LOp.fap und32 rfl siz27 rfl rfl rfl)<|yl rfl (agg (mXc a0 a1 a2)) (yL agg27 siz27)<|ym rfl (oref 0 u8 0 L10.length)<|ye rfl (oref 1 (u9 + 1) 0 r20.length) [⟨u8, some (L18.map f32)⟩, ⟨(u9 + 1), some (r20.map f32)⟩] (TOp.eqr (TOp.callBN (ls := [(r20.map f32)]) [1] (CallAs.func ent108 rfl rfl) (Bors.cons (Bor.agg (bP (bP (bS bN)))) (Bors.cons (Bor.own (f := f32) (fun _ => rfl) rfl hl19) bN)) rfl (i_Matrix_upperSolve_ok a0 a1 a2 L18 r20 hf11) (and_all (lts0_map (f := f32) (fun _ => rfl) _) rfl) (and_all (noss_map (f := f32) (fun _ => rfl) _) rfl) rfl (by decide) (ns_of ⟨⟨_, rfl⟩, trivial⟩)) (by simp [ren, rens, sigma, newNames]))<|ya rfl (oref 1 (u9 + 1) 0 r20.length)<|zN ?_
   refine RunC.ret ?_
   have hq := oI h
   subst q0
   exact bodyQ.mk (r' := oref 1 (u9 + 1) 0 r20.length) [(1, (u9 + 1))] (.inr rfl) rfl (ndB_ok rfl) (by simp [ren, rens, sigma]) rfl (Res.one rfl (RV.tmp rfl)) (SelL.arr0 (f := f32) (fun _ => rfl) rfl trivial)
def i_FactorSolve (a0 : Int) (a1 : Int) (a2 : List F) (a3 : List Int) (a4 : List F) : Option (Bool × (List F)) :=
 obind (i_Factor_takes a0 a1 a2 a3 a4) fun (r1 : Bool) =>
 bsel r1 (
  obind (i_Factor_solve a0 a1 a2 a3 a4) fun (r2 : List F) =>
  obind (i_allFinite_0o r2) (fun z => osum z (fun y => obind2 (some y) fun (r3 : Bool) (r4 : List F) =>
   need (decide (r4.length = r2.length)) <|
   some (r3, r4)) (fun y => obind3 (some y) fun (r5 : Bool) (r6 : List F) (r7 : List F) =>
   need (decide (r6.length = r2.length)) <|
   some (r5, r7)))) (
  some (false, ([] : List F)))
theorem i_FactorSolve_ok (a0 : Int) (a1 : Int) (a2 : List F) (a3 : List Int) (a4 : List F) (q0 : Bool) (q1 : List F) (h : i_FactorSolve a0 a1 a2 a3 a4 = some (q0, q1)) : Ev Tryz.prog 18 [agg [i64 a0, i64 a1, (sFc a2), sl a3.length (a3.map i64)], (sFc a4)] [] (tup [oref 0 0 0 q1.length, b q0]) [⟨0, some (q1.map f32)⟩] := by
 refine yE Tryz.func18 2 33 0 ([(0, agg [i64 a0, i64 a1, (sFc a2), sl a3.length (a3.map i64)]), (1, (sFc a4))]) [⟨0, none⟩, ⟨0, none⟩] rfl ?_
 unfold i_FactorSolve at h
 refine zQ<|yd rfl (ptr [i64 a0, i64 a1, (sFc a2), sl a3.length (a3.map i64)]) (TOp.box_s rfl rfl rfl)<|ya rfl nilsl<|ya rfl (b false)<|zN ?_
 refine yS<|yS ?_
 obtain ⟨r1, hf1, h⟩ := oS h
 rcases oB h with ⟨hc2, h⟩ | ⟨hc2, h⟩
 ·refine yW<|yl rfl (agg [i64 a0, i64 a1, (sFc a2), sl a3.length (a3.map i64)]) (yL agg32 siz32)<|ym rfl (sFc a4)<|yd rfl (b true) (TOp.eqb (TOp.callB (CallAs.func ent63 rfl rfl) (Bors.cons (Bor.agg (bP (bP (bS (bS bN))))) (bS bN)) rfl rfl (i_Factor_takes_ok a0 a1 a2 a3 a4 r1 hf1)) hc2)<|yl rfl (b false) y1<|zN ?_
  refine yF<|RunC.skip<|yS ?_
  obtain ⟨r2, hf3, h⟩ := oS h
  obtain ⟨z1, hf4, h⟩ := oS h
  rcases z1 with z1 | z1
  ·replace h := (osum_inl _ _ _).symm.trans h
   obtain ⟨r3, r4, hz2, h⟩ := obind2_some h
   cases hz2
   obtain ⟨hn5, h⟩ := need_some h
   refine yW<|yl rfl (agg [i64 a0, i64 a1, (sFc a2), sl a3.length (a3.map i64)]) (yL agg32 siz32)<|ym rfl (sFc a4)<|ye rfl (oref 0 1 0 r2.length) [⟨1, some (r2.map f32)⟩, ⟨0, none⟩] (TOp.callBN (ls := [(r2.map f32)]) [0] (CallAs.func ent65 rfl rfl) (Bors.cons (Bor.agg (bP (bP (bS (bS bN))))) (bS bN)) rfl (i_Factor_solve_ok a0 a1 a2 a3 a4 r2 hf3) (and_all (lts0_map (f := f32) (fun _ => rfl) _) rfl) (and_all (noss_map (f := f32) (fun _ => rfl) _) rfl) rfl (by decide) (ns_of ⟨⟨_, rfl⟩, trivial⟩))<|ROps.callO (A := [oref 0 1 0 r2.length]) (args := [oref 0 0 0 r2.length]) (Γc := [⟨0, some (r2.map f32)⟩]) (Γc' := [⟨0, some (r4.map f32)⟩]) (r' := tup [oref 0 1 0 r2.length, b r3]) (Γ' := [⟨1, some (r4.map f32)⟩, ⟨0, none⟩]) [(0, 1)] [] rfl (CallAs.func ent64 rfl rfl) rfl rfl (SelOk.of (ndB_ok rfl) (SelL.arr0 (f := f32) (fun _ => rfl) rfl trivial)) (live_of ⟨⟨_, _, rfl⟩, trivial⟩) (by simp [ren, rens, sigma, rens_f32, rens_f64, rens_i64, rens_ik, rens_str, rens_cp]) rfl (i_allFinite_0o_ok0 r2 r3 r4 hf4) rfl (news_of trivial) (ndB_ok rfl) (by simp [ren, rens, sigma, of_decide_eq_true hn5]) (by simp [backOb, sigma, ren, rens, rens_f32, rens_f64, rens_i64, rens_ik, rens_str, rens_cp])<|yl rfl (oref 0 1 0 r2.length) y3<|yl rfl (b r3) y3<|ya rfl (oref 0 1 0 r2.length)<|ya rfl (b r3)<|zN ?_
   refine RunC.ret ?_
   have hq := oI h
   obtain ⟨hq0, hq⟩ := Prod.mk.inj hq
   subst q0
   subst q1
   exact yB (tup [oref 0 1 0 r4.length, b r3]) [(0, 1)] (Res.eq (Res.two rfl (RV.tmp rfl) (RV.tmp rfl)) (by rw [(show r4.length = r2.length from (of_decide_eq_true hn5))] <;> rfl)) (SelL.arr0 (f := f32) (fun _ => rfl) rfl trivial)
  ·replace h := (osum_inr _ _ _).symm.trans h
   obtain ⟨r5, r6, r7, hz3, h⟩ := obind3_some h
   cases hz3
   obtain ⟨hn6, h⟩ := need_some h
   refine yW<|yl rfl (agg [i64 a0, i64 a1, (sFc a2), sl a3.length (a3.map i64)]) (yL agg32 siz32)<|ym rfl (sFc a4)<|ye rfl (oref 0 1 0 r2.length) [⟨1, some (r2.map f32)⟩, ⟨0, none⟩] (TOp.callBN (ls := [(r2.map f32)]) [0] (CallAs.func ent65 rfl rfl) (Bors.cons (Bor.agg (bP (bP (bS (bS bN))))) (bS bN)) rfl (i_Factor_solve_ok a0 a1 a2 a3 a4 r2 hf3) (and_all (lts0_map (f := f32) (fun _ => rfl) _) rfl) (and_all (noss_map (f := f32) (fun _ => rfl) _) rfl) rfl (by decide) (ns_of ⟨⟨_, rfl⟩, trivial⟩))<|ROps.callO (A := [oref 0 1 0 r2.length]) (args := [oref 0 0 0 r2.length]) (Γc := [⟨0, some (r2.map f32)⟩]) (Γc' := [⟨0, some (r6.map f32)⟩, ⟨0, some (r7.map f32)⟩]) (r' := tup [oref 1 1 0 r7.length, b r5]) (Γ' := [⟨1, some (r6.map f32)⟩, ⟨1, some (r7.map f32)⟩]) [(0, 1)] [(1, 1)] rfl (CallAs.func ent64 rfl rfl) rfl rfl (SelOk.of (ndB_ok rfl) (SelL.arr0 (f := f32) (fun _ => rfl) rfl trivial)) (live_of ⟨⟨_, _, rfl⟩, trivial⟩) (by simp [ren, rens, sigma, rens_f32, rens_f64, rens_i64, rens_ik, rens_str, rens_cp]) rfl (i_allFinite_0o_ok1 r2 r5 r6 r7 hf4) rfl (news_of ⟨⟨_, rfl, rfl⟩, trivial⟩) (show List.Nodup [0, 1] from by decide) (by simp [ren, rens, sigma, of_decide_eq_true hn6]) (by simp [backOb, sigma, ren, rens, rens_f32, rens_f64, rens_i64, rens_ik, rens_str, rens_cp])<|yl rfl (oref 1 1 0 r7.length) y3<|yl rfl (b r5) y3<|ya rfl (oref 1 1 0 r7.length)<|ya rfl (b r5)<|zN ?_
   refine RunC.ret ?_
   have hq := oI h
   obtain ⟨hq0, hq⟩ := Prod.mk.inj hq
   subst q0
   subst q1
   exact yB (tup [oref 1 1 0 r7.length, b r5]) [(1, 1)] (Res.two rfl (RV.tmp rfl) (RV.tmp rfl)) (SelL.arr0 (f := f32) (fun _ => rfl) rfl trivial)
 ·refine yW<|yl rfl (agg [i64 a0, i64 a1, (sFc a2), sl a3.length (a3.map i64)]) (yL agg32 siz32)<|ym rfl (sFc a4)<|yd rfl (b false) (TOp.eqb (TOp.callB (CallAs.func ent63 rfl rfl) (Bors.cons (Bor.agg (bP (bP (bS (bS bN))))) (bS bN)) rfl rfl (i_Factor_takes_ok a0 a1 a2 a3 a4 r1 hf1)) hc2)<|yl rfl (b true) y0<|zN ?_
  refine yT<|zQ<|ya rfl nilsl<|ya rfl (b false)<|zN ?_
  refine RunC.nil_slot (Γ' := [⟨1, some (([] : List F).map f32)⟩, ⟨0, none⟩]) 4 0 rfl rfl rfl<|RunC.ret ?_
  have hq := oI h
  obtain ⟨hq0, hq⟩ := Prod.mk.inj hq
  subst q0
  subst q1
  exact yB (tup [oref 0 1 0 (([] : List F).length), b false]) [(0, 1)] (Res.eq (Res.two rfl (RV.tmp rfl) (RV.tmp rfl)) (by rw [(show ([] : List F).length = 0 from rfl)] <;> rfl)) (SelL.arr0 (f := f32) (fun _ => rfl) rfl trivial)
def i_areVectors (a0 : List F) (a1 : List F) : Option (Bool) :=
 obind (i_IsVector a0) fun (r1 : Bool) =>
 bsel r1 (
  obind (i_IsVector a1) fun (r2 : Bool) =>
  bsel r2 (
   some (decide ((a0.length : Int) = (a1.length : Int)))) (
   some false)) (
  some false)
theorem i_areVectors_ok (a0 : List F) (a1 : List F) (q0 : Bool) (h : i_areVectors a0 a1 = some q0) : Ev Tryz.prog 116 [(sFc a0), (sFc a1)] [] (b q0) [] := by
 refine yE Tryz.func116 0 37 0 [(0, (sFc a0)), (1, (sFc a1))] [] rfl ?_
 unfold i_areVectors at h
 refine zQ<|ya rfl (b false)<|zN ?_
 refine yS ?_
 obtain ⟨r1, hf1, h⟩ := oS h
 rcases oB h with ⟨hc2, h⟩ | ⟨hc2, h⟩
 ·obtain ⟨r2, hf3, h⟩ := oS h
  rcases oB h with ⟨hc4, h⟩ | ⟨hc4, h⟩
  ·refine yW<|ym rfl (sFc a0)<|yd rfl (b true) (TOp.eqb (yc ent106 rfl rfl (bS bN) (i_IsVector_ok a0 r1 hf1)) hc2)<|ym rfl (b true)<|ym rfl (sFc a1)<|yd rfl (b true) (TOp.eqb (yc ent106 rfl rfl (bS bN) (i_IsVector_ok a1 r2 hf3)) hc4)<|yl rfl (b true) yq<|ym rfl (b true)<|ym rfl (sFc a0)<|yl rfl (i64 (a0.length : Int)) (LOp.len_sl und25 rfl rfl)<|ym rfl (sFc a1)<|yl rfl (i64 (a1.length : Int)) (LOp.len_sl und25 rfl rfl)<|yl rfl (b (decide ((a0.length : Int) = (a1.length : Int)))) (LOp.eql rfl rfl rfl)<|yl rfl (b (decide ((a0.length : Int) = (a1.length : Int)))) yq<|ya rfl (b (decide ((a0.length : Int) = (a1.length : Int))))<|zN ?_
   refine RunC.ret ?_
   have hq := oI h
   subst q0
   exact bodyQ.pure (.inr rfl) rfl (Res.one rfl (RV.tmp rfl))
  ·refine yW<|ym rfl (sFc a0)<|yd rfl (b true) (TOp.eqb (yc ent106 rfl rfl (bS bN) (i_IsVector_ok a0 r1 hf1)) hc2)<|ym rfl (b true)<|ym rfl (sFc a1)<|yd rfl (b false) (TOp.eqb (yc ent106 rfl rfl (bS bN) (i_IsVector_ok a1 r2 hf3)) hc4)<|yl rfl (b false) yq<|ym rfl (b false)<|ROps.s rfl rfl rfl<|ROps.s rfl rfl rfl<|ROps.s rfl rfl rfl<|ROps.s rfl rfl rfl<|ROps.s rfl rfl rfl<|yl rfl (b false) yp<|ya rfl (b false)<|zN ?_
   refine RunC.ret ?_
   have hq := oI h
   subst q0
   exact bodyQ.pure (.inr rfl) rfl (Res.one rfl (RV.tmp rfl))
 ·refine yW<|ym rfl (sFc a0)<|yd rfl (b false) (TOp.eqb (yc ent106 rfl rfl (bS bN) (i_IsVector_ok a0 r1 hf1)) hc2)<|ym rfl (b false)<|ROps.s rfl rfl rfl<|ROps.s rfl rfl rfl<|yl rfl (b false) yp<|ym rfl (b false)<|ROps.s rfl rfl rfl<|ROps.s rfl rfl rfl<|ROps.s rfl rfl rfl<|ROps.s rfl rfl rfl<|ROps.s rfl rfl rfl<|yl rfl (b false) yp<|ya rfl (b false)<|zN ?_
  refine RunC.ret ?_
  have hq := oI h
  subst q0
  exact bodyQ.pure (.inr rfl) rfl (Res.one rfl (RV.tmp rfl))
def i_dot_b1 (a0 : List F) (a1 : List F) (y1 : F) (v2 : Int) : Option (LR (F × Int) (F) (F)) :=
 bsel (decide (v2 < (a0.length : Int))) (
  obind (at? a0 v2) fun (e3 : F) =>
  obind (at? a1 v2) fun (e4 : F) =>
  obind (i_mul e3 e4) fun (r5 : F) =>
  olet (fop .add .f32 y1 r5) fun (x6 : F) =>
  olet (IntKind.i64.wrap (v2 + 1)) fun (x7 : Int) =>
  some (LR.next (x6, x7))) (
  some (LR.out y1))
def i_dot_s1 (a0 : List F) (a1 : List F) : (F × Int) → Option (LR (F × Int) (F) (F)) := fun s => i_dot_b1 a0 a1 s.1 s.2
def i_dot_k1 (y8 : F) : Option (F) :=
 some y8
def i_dot (a0 : List F) (a1 : List F) : Option (F) :=
 obind (loopM (i_dot_s1 a0 a1) (some 0, 0)) fun z => osum z (fun e => i_dot_k1 e) (fun r => some r)
theorem i_dot_ok (a0 : List F) (a1 : List F) (q0 : F) (h : i_dot a0 a1 = some q0) : Ev Tryz.prog 117 [(sFc a0), (sFc a1)] [] (f32 q0) [] := by
 refine yE Tryz.func117 0 51 0 [(0, (sFc a0)), (1, (sFc a1))] [] rfl ?_
 unfold i_dot at h
 refine zQ<|yl rfl (f32 (some 0)) (LOp.le (LOp.assign rfl rfl) (ALe.fl (by kernel_rfl) (by kernel_rfl)))<|zN ?_
 refine zQ<|yl rfl (f32 (some 0)) (LOp.le (LOp.assign rfl rfl) (ALe.fl (by kernel_rfl) (by kernel_rfl)))<|zN ?_
 refine yS<|zQ<|ym rfl (sFc a0)<|yl rfl (i64 (a0.length : Int)) (LOp.len_sl und25 rfl rfl)<|ym rfl (i64 0)<|zN ?_
 obtain ⟨z2, hz_2, h⟩ := oS h
 refine RunC.cutN (fun τ Γ => ∃ (y8 : F), WeakLe τ [(5, f32 y8)] ∧ DeadLe Γ [] ∧ z2 = .inl y8) ?_ ?_
 ·refine RunC.block (RunC.loop (RunL.loopM (x := z2) (i_dot_s1 a0 a1) (fun (s : F × Int) τ Γ => WeakLe τ [(1, (sFc a1)), (5, f32 s.1), (8, (sFc a0)), (9, i64 (a0.length : Int)), (10, i64 s.2)] ∧ DeadLe Γ []) ?_ _ _ _ hz_2 ⟨⟨aR, aR, aR, aR, aR, trivial⟩, trivial⟩))
  rintro ⟨y1, v2⟩ τ2 Γ2 y2_ ⟨hw2, hd2⟩ h2_ ho2 hr2
  refine RunC.wl (τ' := [(1, (sFc a1)), (5, f32 y1), (8, (sFc a0)), (9, i64 (a0.length : Int)), (10, i64 v2)]) (Γ' := []) hw2 hd2 ?_
  replace h2_ : i_dot_b1 a0 a1 y1 v2 = some y2_ := h2_
  unfold i_dot_b1 at h2_
  refine yS ?_
  rcases oB h2_ with ⟨hc1, h2_⟩ | ⟨hc1, h2_⟩
  ·refine yW<|yl rfl (b true) (LOp.eqb (LOp.lss rfl rfl rfl) hc1)<|zN ?_
   refine yS<|yT<|RunC.skip<|yS<|RunC.block<|yS ?_
   obtain ⟨e3, he2, h2_⟩ := oS h2_
   refine yW<|ym rfl (i64 v2)<|yl rfl (ptr [f32 e3]) (LOp.le (LOp.ix (f := f32) und25 siz41 rfl rfl rfl rfl he2) ALe.ptr)<|yl rfl (f32 e3) (y2 agg41)<|ya rfl (i64 v2)<|ya rfl (f32 e3)<|zN ?_
   obtain ⟨e4, he3, h2_⟩ := oS h2_
   obtain ⟨r5, hf4, h2_⟩ := oS h2_
   obtain ⟨x6, hx5, h2_⟩ := oL h2_
   refine yW<|ym rfl (f32 y1)<|ym rfl (f32 e3)<|ym rfl (sFc a1)<|ym rfl (i64 v2)<|yl rfl (ptr [f32 e4]) (LOp.le (LOp.ix (f := f32) und25 siz41 rfl rfl rfl rfl he3) ALe.ptr)<|yl rfl (f32 e4) (y2 agg41)<|yd rfl (f32 r5) (yc ent80 rfl rfl (bP bN0) (i_mul_ok e3 e4 r5 hf4))<|yd rfl (f32 x6) (TOp.eqr (TOp.fop (.inl rfl) rfl (OpF.tmp rfl) (OpF.tmp rfl)) (congrArg (f .f32) hx5))<|ya rfl (f32 x6)<|zN ?_
   refine RunC.wl (τ' := [(1, (sFc a1)), (5, f32 x6), (8, (sFc a0)), (9, i64 (a0.length : Int)), (10, i64 v2)]) (Γ' := []) ⟨aR, aR, aR, aR, aR, trivial⟩ trivial ?_
   obtain ⟨x7, hx6, h2_⟩ := oL h2_
   refine yW<|yl rfl (i64 x7) (LOp.eqr (LOp.add rfl rfl rfl) (congrArg (ik .i64) hx6))<|ym rfl (i64 x7)<|zN ?_
   cases oI h2_
   exact ⟨_, rfl, ⟨aR, aR, aR, aR, aR, trivial⟩, trivial⟩
  ·refine yW<|yl rfl (b false) (LOp.eqb (LOp.lss rfl rfl rfl) hc1)<|zN ?_
   refine yS<|yF<|RunC.exit ?_
   cases oI h2_
   have hx := ho2 _ rfl
   exact ⟨y1, ⟨aR, trivial⟩, trivial, hx⟩
 ·rintro τ3 Γ3 ⟨y8, hw3, hd3, rfl⟩
  refine RunC.wl hw3 hd3 ?_
  replace h : i_dot_k1 y8 = some q0 := h
  unfold i_dot_k1 at h
  refine zQ<|ym rfl (f32 y8)<|ya rfl (f32 y8)<|zN ?_
  refine RunC.ret ?_
  have hq := oI h
  subst q0
  exact bodyQ.pure (.inr rfl) rfl (Res.one rfl (RV.tmp rfl))
def i_DotVectors (a0 : List F) (a1 : List F) : Option (F × Bool) :=
 obind (i_areVectors a0 a1) fun (r1 : Bool) =>
 bsel r1 (
  obind (i_dot a0 a1) fun (r2 : F) =>
  obind2 (i_finite r2) fun (r3 : F) (r4 : Bool) =>
  some (r3, r4)) (
  some (some 0, false))
theorem i_DotVectors_ok (a0 : List F) (a1 : List F) (q0 : F) (q1 : Bool) (h : i_DotVectors a0 a1 = some (q0, q1)) : Ev Tryz.prog 91 [(sFc a0), (sFc a1)] [] (tup [f32 q0, b q1]) [] := by
 refine yE Tryz.func91 0 33 0 [(0, (sFc a0)), (1, (sFc a1))] [] rfl ?_
 unfold i_DotVectors at h
 refine zQ<|yl rfl (f32 (some 0)) (LOp.le (LOp.assign rfl rfl) (ALe.fl (by kernel_rfl) (by kernel_rfl)))<|ya rfl (b false)<|zN ?_
 refine yS<|yS ?_
 obtain ⟨r1, hf1, h⟩ := oS h
 rcases oB h with ⟨hc2, h⟩ | ⟨hc2, h⟩
 ·refine yW<|ym rfl (sFc a0)<|ym rfl (sFc a1)<|yd rfl (b true) (TOp.eqb (yc ent116 rfl rfl (bS (bS bN)) (i_areVectors_ok a0 a1 r1 hf1)) hc2)<|yl rfl (b false) y1<|zN ?_
  refine yF<|RunC.skip<|yS ?_
  obtain ⟨r2, hf3, h⟩ := oS h
  obtain ⟨r3, r4, hf4, h⟩ := obind2_some h
  refine yW<|ym rfl (sFc a0)<|ym rfl (sFc a1)<|yd rfl (f32 r2) (yc ent117 rfl rfl (bS (bS bN)) (i_dot_ok a0 a1 r2 hf3))<|yd rfl (tup [f32 r3, b r4]) (yc ent62 rfl rfl bN0 (i_finite_ok r2 r3 r4 hf4))<|yl rfl (f32 r3) y3<|yl rfl (b r4) y3<|ya rfl (f32 r3)<|ya rfl (b r4)<|zN ?_
  refine RunC.ret ?_
  have hq := oI h
  obtain ⟨hq0, hq⟩ := Prod.mk.inj hq
  subst q0
  subst q1
  exact bodyQ.pure (.inr rfl) rfl (Res.two rfl (RV.tmp rfl) (RV.tmp rfl))
 ·refine yW<|ym rfl (sFc a0)<|ym rfl (sFc a1)<|yd rfl (b false) (TOp.eqb (yc ent116 rfl rfl (bS (bS bN)) (i_areVectors_ok a0 a1 r1 hf1)) hc2)<|yl rfl (b true) y0<|zN ?_
  refine yT<|zQ<|yl rfl (f32 (some 0)) (LOp.le (LOp.assign rfl rfl) (ALe.fl (by kernel_rfl) (by kernel_rfl)))<|ya rfl (b false)<|zN ?_
  refine RunC.ret ?_
  have hq := oI h
  obtain ⟨hq0, hq⟩ := Prod.mk.inj hq
  subst q0
  subst q1
  exact bodyQ.pure (.inr rfl) rfl (Res.two rfl (RV.tmp rfl) (RV.tmp rfl))
def i_less_0o_2o1_b1 (a0 : F) (a1 : List F) (a2 : List F) (L1 : List F) (v3 : Int) : Option (LR ((List F) × Int) ((List F)) ((List F) × (List F))) :=
 bsel (decide (v3 < ((a1.length : Nat) : Int))) (
  obind (at? L1 v3) fun (e4 : F) =>
  obind (at? a2 v3) fun (e5 : F) =>
  obind (i_mul a0 e5) fun (r6 : F) =>
  olet (fop .sub .f32 e4 r6) fun (x7 : F) =>
  obind (setAt? L1 v3 x7) fun (L8 : List F) =>
  olet (IntKind.i64.wrap (v3 + 1)) fun (x9 : Int) =>
  some (LR.next (L8, x9))) (
  some (LR.out L1))
def i_less_0o_2o1_s1 (a0 : F) (a1 : List F) (a2 : List F) : ((List F) × Int) → Option (LR ((List F) × Int) ((List F)) ((List F) × (List F))) := fun s => i_less_0o_2o1_b1 a0 a1 a2 s.1 s.2
def i_less_0o_2o1_k1 (a2 : List F) (L10 : List F) : Option ((List F) × (List F)) :=
 some (L10, a2)
def i_less_0o_2o1 (a0 : F) (a1 : List F) (a2 : List F) : Option ((List F) × (List F)) :=
 obind (loopM (i_less_0o_2o1_s1 a0 a1 a2) (a1, 0)) fun z => osum z (fun e => i_less_0o_2o1_k1 a2 e) (fun r => some r)
theorem i_less_0o_2o1_ok (a0 : F) (a1 : List F) (a2 : List F) (q0 : List F) (q1 : List F) (h : i_less_0o_2o1 a0 a1 a2 = some (q0, q1)) : Ev Tryz.prog 92 [oref 0 0 0 a1.length, f32 a0, oref 1 0 0 a2.length] [⟨0, some (a1.map f32)⟩, ⟨0, some (a2.map f32)⟩] (tup []) [⟨0, some (q0.map f32)⟩, ⟨0, some (q1.map f32)⟩] := by
 refine Ev.start Tryz.func92 rfl rfl 0 (τ := [(0, oref 0 0 0 a1.length), (1, f32 a0), (2, oref 1 0 0 a2.length)]) rfl (Γ' := [⟨0, some (a1.map f32)⟩, ⟨0, some (a2.map f32)⟩]) rfl (n := 50) rfl (g := 2) rfl (by decide) ?_
 unfold i_less_0o_2o1 at h
 refine zQ<|ym rfl (oref 0 0 0 a1.length)<|yl rfl (i64 ((a1.length : Nat) : Int)) (LOp.len_oref und25 rfl rfl)<|ym rfl (i64 0)<|zN ?_
 obtain ⟨z2, hz_2, h⟩ := oS h
 refine RunC.cutN (fun τ Γ => ∃ (L10 : List F), L10.length = a1.length ∧ WeakLe τ [] ∧ DeadLe Γ [⟨0, some (L10.map f32)⟩, ⟨0, some (a2.map f32)⟩] ∧ z2 = .inl L10) ?_ ?_
 ·refine RunC.block (RunC.loop (RunL.loopM (x := z2) (i_less_0o_2o1_s1 a0 a1 a2) (fun (s : (List F) × Int) τ Γ => s.1.length = a1.length ∧ WeakLe τ [(0, oref 0 0 0 a1.length), (1, f32 a0), (2, oref 1 0 0 a2.length), (8, i64 ((a1.length : Nat) : Int)), (9, i64 s.2)] ∧ DeadLe Γ [⟨0, some (s.1.map f32)⟩, ⟨0, some (a2.map f32)⟩]) ?_ _ _ _ hz_2 ⟨rfl, ⟨aR, aR, aR, aR, aR, trivial⟩, ⟨⟨rfl, .inr rfl⟩, ⟨rfl, .inr rfl⟩, trivial⟩⟩))
  rintro ⟨L1, v3⟩ τ2 Γ2 y2_ ⟨hl2, hw2, hd2⟩ h2_ ho2 hr2
  refine RunC.wl (τ' := [(0, oref 0 0 0 a1.length), (1, f32 a0), (2, oref 1 0 0 a2.length), (8, i64 ((a1.length : Nat) : Int)), (9, i64 v3)]) (Γ' := [⟨0, some (L1.map f32)⟩, ⟨0, some (a2.map f32)⟩]) hw2 hd2 ?_
  replace hl2 : L1.length = a1.length := hl2
  replace h2_ : i_less_0o_2o1_b1 a0 a1 a2 L1 v3 = some y2_ := h2_
  unfold i_less_0o_2o1_b1 at h2_
  refine yS ?_
  rcases oB h2_ with ⟨hc1, h2_⟩ | ⟨hc1, h2_⟩
  ·refine yW<|yl rfl (b true) (LOp.eqb (LOp.lss rfl rfl rfl) hc1)<|zN ?_
   refine yS<|yT<|RunC.skip<|yS<|RunC.block<|zQ<|ym rfl (i64 v3)<|ya rfl (i64 v3)<|zN ?_
   obtain ⟨e4, he2, h2_⟩ := oS h2_
   obtain ⟨e5, he3, h2_⟩ := oS h2_
   obtain ⟨r6, hf4, h2_⟩ := oS h2_
   obtain ⟨x7, hx5, h2_⟩ := oL h2_
   obtain ⟨L8, he6, h2_⟩ := oS h2_
   refine RunC.region_draw (Γ' := [⟨0, some (L1.map f32)⟩, ⟨0, some (a2.map f32)⟩]) 12 mixed 
    (tm rfl (oref 0 0 0 a1.length) <|
    (tm rfl (i64 v3) <|
    (TR.d (r := optr 0 0 v3.toNat) (fs := []) rfl rfl (TOp.ixo und25 siz41 rfl rfl rfl (at_in he2 hl2) rfl) <|
    (TR.d (r := f32 e4) (fs := []) rfl rfl (TOp.load1_o rfl (at_cell he2) agg41 rfl rfl) <|
    (tm rfl (f32 a0) <|
    (tm rfl (oref 1 0 0 a2.length) <|
    (tm rfl (i64 v3) <|
    (TR.d (r := optr 1 0 v3.toNat) (fs := []) rfl rfl (TOp.ixo und25 siz41 rfl rfl rfl (at_in he3 rfl) rfl) <|
    (TR.d (r := f32 e5) (fs := []) rfl rfl (TOp.load1_o rfl (at_cell he3) agg41 rfl rfl) <|
    (TR.d (r := f32 r6) (fs := []) rfl rfl (yc ent80 rfl rfl (bP bN0) (i_mul_ok a0 e5 r6 hf4)) <|
    (TR.d (r := f32 x7) (fs := []) rfl rfl (TOp.eqr (TOp.fop (.inr (.inl rfl)) rfl (OpF.tmp rfl) (OpF.tmp rfl)) (congrArg (f .f32) hx5)) <|
    (TR.d (r := optr 0 0 v3.toNat) (fs := []) rfl rfl (TOp.ixo und25 siz41 rfl rfl rfl (set_in he6 hl2) rfl) <|
    TR.nil)))))))))))) rfl (by kernel_rfl) rfl fills_nil rfl ?_
   iterate 12 refine ROps.dropS ?_
   refine ROps.drop0<|ROps.st (f := f32) (i := v3) (Γ' := [⟨0, some (L8.map f32)⟩, ⟨0, some (a2.map f32)⟩]) rfl siz41 rfl rfl rfl aR rfl rfl rfl he6 rfl<|zN ?_
   refine RunC.wl (τ' := [(0, oref 0 0 0 a1.length), (1, f32 a0), (2, oref 1 0 0 a2.length), (8, i64 ((a1.length : Nat) : Int)), (9, i64 v3)]) (Γ' := [⟨0, some (L8.map f32)⟩, ⟨0, some (a2.map f32)⟩]) ⟨aR, aR, aR, aR, aR, trivial⟩ ⟨⟨rfl, .inr rfl⟩, ⟨rfl, .inr rfl⟩, trivial⟩ ?_
   obtain ⟨x9, hx7, h2_⟩ := oL h2_
   refine yW<|yl rfl (i64 x9) (LOp.eqr (LOp.add rfl rfl rfl) (congrArg (ik .i64) hx7))<|ym rfl (i64 x9)<|zN ?_
   cases oI h2_
   exact ⟨_, rfl, ((setAt?_len he6).trans hl2), ⟨aR, aR, aR, aR, aR, trivial⟩, ⟨⟨rfl, .inr rfl⟩, ⟨rfl, .inr rfl⟩, trivial⟩⟩
  ·refine yW<|yl rfl (b false) (LOp.eqb (LOp.lss rfl rfl rfl) hc1)<|zN ?_
   refine yS<|yF<|RunC.exit ?_
   cases oI h2_
   have hx := ho2 _ rfl
   exact ⟨L1, hl2, trivial, ⟨⟨rfl, .inr rfl⟩, ⟨rfl, .inr rfl⟩, trivial⟩, hx⟩
 ·rintro τ3 Γ3 ⟨L10, hl11, hw3, hd3, rfl⟩
  replace h : i_less_0o_2o1_k1 a2 L10 = some (q0, q1) := h
  unfold i_less_0o_2o1_k1 at h
  refine bodyQ.wl hw3 hd3 ?_
  have hq := oI h
  obtain ⟨hq0, hq⟩ := Prod.mk.inj hq
  subst q0
  subst q1
  exact yB (tup []) [(0, 0), (1, 0)] (Res.zero rfl) (SelL.arr (f := f32) (fun _ => rfl) rfl (SelL.arr (f := f32) (fun _ => rfl) rfl trivial))
def i_UpdatedSolve (a0 : Int) (a1 : Int) (a2 : List F) (a3 : List Int) (a4 : List F) (a5 : List F) (a6 : List F) : Option (Bool × (List F)) :=
 obind2 (i_FactorSolve a0 a1 a2 a3 a6) fun (r1 : Bool) (r2 : List F) =>
 bsel r1 (
  obind2 (i_FactorSolve a0 a1 a2 a3 a4) fun (r3 : Bool) (r4 : List F) =>
  bsel r3 (
   obind2 (i_DotVectors a5 r2) fun (r5 : F) (r6 : Bool) =>
   bsel r6 (
    obind2 (i_DotVectors a5 r4) fun (r7 : F) (r8 : Bool) =>
    bsel r8 (
     olet (fop .add .f32 (some 1065353216) r7) fun (x9 : F) =>
     olet (fop .quo .f32 r5 x9) fun (x10 : F) =>
     obind2 (i_less_0o_2o1 x10 r2 r4) fun (r11 : List F) (r12 : List F) =>
     need (decide (r11.length = r2.length)) <|
     need (decide (r12.length = r4.length)) <|
     obind (i_allFinite_0o r11) (fun z => osum z (fun y => obind2 (some y) fun (r13 : Bool) (r14 : List F) =>
      need (decide (r14.length = r2.length)) <|
      some (r13, r14)) (fun y => obind3 (some y) fun (r15 : Bool) (r16 : List F) (r17 : List F) =>
      need (decide (r16.length = r2.length)) <|
      some (r15, r17)))) (
     some (false, ([] : List F)))) (
    obind2 (i_DotVectors a5 r4) fun (r18 : F) (r19 : Bool) =>
    bsel r19 (
     some (false, ([] : List F))) (
     some (false, ([] : List F))))) (
   some (false, ([] : List F)))) (
  obind2 (i_FactorSolve a0 a1 a2 a3 a4) fun (r20 : Bool) (r21 : List F) =>
  bsel r20 (
   some (false, ([] : List F))) (
   some (false, ([] : List F))))
theorem i_UpdatedSolve_ok (a0 : Int) (a1 : Int) (a2 : List F) (a3 : List Int) (a4 : List F) (a5 : List F) (a6 : List F) (q0 : Bool) (q1 : List F) (h : i_UpdatedSolve a0 a1 a2 a3 a4 a5 a6 = some (q0, q1)) : Ev Tryz.prog 32 [agg [i64 a0, i64 a1, (sFc a2), sl a3.length (a3.map i64)], (sFc a4), (sFc a5), (sFc a6)] [] (tup [oref 0 0 0 q1.length, b q0]) [⟨0, some (q1.map f32)⟩] := by
 refine yE Tryz.func32 3 131 0 ([(0, agg [i64 a0, i64 a1, (sFc a2), sl a3.length (a3.map i64)]), (1, (sFc a4)), (2, (sFc a5)), (3, (sFc a6))]) [⟨0, none⟩, ⟨0, none⟩, ⟨0, none⟩] rfl ?_
 unfold i_UpdatedSolve at h
 refine zQ<|yd rfl (ptr [i64 a0, i64 a1, (sFc a2), sl a3.length (a3.map i64)]) (TOp.box_s rfl rfl rfl)<|ya rfl nilsl<|ya rfl (b false)<|zN ?_
 refine yS ?_
 obtain ⟨r1, r2, hf1, h⟩ := obind2_some h
 rcases oB h with ⟨hc2, h⟩ | ⟨hc2, h⟩
 ·refine yW<|yl rfl (agg [i64 a0, i64 a1, (sFc a2), sl a3.length (a3.map i64)]) (yL agg32 siz32)<|ym rfl (sFc a6)<|ye rfl (tup [oref 0 1 0 r2.length, b r1]) [⟨1, some (r2.map f32)⟩, ⟨0, none⟩, ⟨0, none⟩] (TOp.callBN (ls := [(r2.map f32)]) [0] (CallAs.func ent18 rfl rfl) (Bors.cons (Bor.agg (bP (bP (bS (bS bN))))) (bS bN)) rfl (i_FactorSolve_ok a0 a1 a2 a3 a6 r1 r2 hf1) (and_all (lts0_map (f := f32) (fun _ => rfl) _) rfl) (and_all (noss_map (f := f32) (fun _ => rfl) _) rfl) rfl (by decide) (ns_of ⟨⟨_, rfl⟩, trivial⟩))<|ym rfl (tup [oref 0 1 0 r2.length, b r1])<|yl rfl (oref 0 1 0 r2.length) y3<|yl rfl (b true) (LOp.eqb y3 hc2)<|ya rfl (oref 0 1 0 r2.length)<|ya rfl (b true)<|zN ?_
  refine yS ?_
  obtain ⟨r3, r4, hf3, h⟩ := obind2_some h
  rcases oB h with ⟨hc4, h⟩ | ⟨hc4, h⟩
  ·refine yW<|yl rfl (agg [i64 a0, i64 a1, (sFc a2), sl a3.length (a3.map i64)]) (yL agg32 siz32)<|ym rfl (sFc a4)<|ye rfl (tup [oref 1 1 0 r4.length, b r3]) [⟨1, some (r2.map f32)⟩, ⟨1, some (r4.map f32)⟩, ⟨0, none⟩] (TOp.callBN (ls := [(r4.map f32)]) [1] (CallAs.func ent18 rfl rfl) (Bors.cons (Bor.agg (bP (bP (bS (bS bN))))) (bS bN)) rfl (i_FactorSolve_ok a0 a1 a2 a3 a4 r3 r4 hf3) (and_all (lts0_map (f := f32) (fun _ => rfl) _) rfl) (and_all (noss_map (f := f32) (fun _ => rfl) _) rfl) rfl (by decide) (ns_of ⟨⟨_, rfl⟩, trivial⟩))<|ym rfl (tup [oref 1 1 0 r4.length, b r3])<|yl rfl (oref 1 1 0 r4.length) y3<|yl rfl (b true) (LOp.eqb y3 hc4)<|ya rfl (oref 1 1 0 r4.length)<|ya rfl (b true)<|zN ?_
   refine RunC.wl (τ' := [(2, (sFc a5)), (10, oref 0 1 0 r2.length), (11, b true), (12, oref 1 1 0 r4.length), (13, b true)]) (Γ' := [⟨1, some (r2.map f32)⟩, ⟨1, some (r4.map f32)⟩, ⟨0, none⟩]) ⟨aR, aR, aR, aR, aR, trivial⟩ ⟨⟨rfl, .inr rfl⟩, ⟨rfl, .inr rfl⟩, ⟨rfl, .inr rfl⟩, trivial⟩<|yS<|zQ<|ym rfl (b true)<|yl rfl (b false) y1<|ym rfl (b false)<|ym rfl (b true)<|yl rfl (b false) y1<|yl rfl (b false) yp<|zN ?_
   refine yF<|RunC.skip<|yS ?_
   obtain ⟨r5, r6, hf5, h⟩ := obind2_some h
   rcases oB h with ⟨hc6, h⟩ | ⟨hc6, h⟩
   ·refine yW<|ym rfl (sFc a5)<|ym rfl (oref 0 1 0 r2.length)<|yd rfl (tup [f32 r5, b r6]) (yc ent91 rfl rfl (bS (Bors.cons (Bor.own (f := f32) (fun _ => rfl) rfl rfl) bN)) (i_DotVectors_ok a5 r2 r5 r6 hf5))<|ym rfl (tup [f32 r5, b r6])<|yl rfl (f32 r5) y3<|yl rfl (b true) (LOp.eqb y3 hc6)<|ya rfl (f32 r5)<|ya rfl (b true)<|zN ?_
    refine yS ?_
    obtain ⟨r7, r8, hf7, h⟩ := obind2_some h
    rcases oB h with ⟨hc8, h⟩ | ⟨hc8, h⟩
    ·refine yW<|ym rfl (sFc a5)<|ym rfl (oref 1 1 0 r4.length)<|yd rfl (tup [f32 r7, b r8]) (yc ent91 rfl rfl (bS (Bors.cons (Bor.own (f := f32) (fun _ => rfl) rfl rfl) bN)) (i_DotVectors_ok a5 r4 r7 r8 hf7))<|ym rfl (tup [f32 r7, b r8])<|yl rfl (f32 r7) y3<|yl rfl (b true) (LOp.eqb y3 hc8)<|ya rfl (f32 r7)<|ya rfl (b true)<|zN ?_
     refine RunC.wl (τ' := [(10, oref 0 1 0 r2.length), (12, oref 1 1 0 r4.length), (14, f32 r5), (15, b true), (16, f32 r7), (17, b true)]) (Γ' := [⟨1, some (r2.map f32)⟩, ⟨1, some (r4.map f32)⟩, ⟨0, none⟩]) ⟨aR, aR, aR, aR, aR, aR, trivial⟩ ⟨⟨rfl, .inr rfl⟩, ⟨rfl, .inr rfl⟩, ⟨rfl, .inr rfl⟩, trivial⟩<|yS<|zQ<|ym rfl (b true)<|yl rfl (b false) y1<|ym rfl (b false)<|ym rfl (b true)<|yl rfl (b false) y1<|yl rfl (b false) yp<|zN ?_
     refine yF<|RunC.skip<|yS ?_
     obtain ⟨x9, hx9, h⟩ := oL h
     obtain ⟨x10, hx10, h⟩ := oL h
     obtain ⟨r11, r12, hf11, h⟩ := obind2_some h
     obtain ⟨hn12, h⟩ := need_some h
     obtain ⟨hn13, h⟩ := need_some h
     refine yW<|ym rfl (oref 0 1 0 r2.length)<|ym rfl (f32 r5)<|ym rfl (f32 r7)<|yd rfl (f32 x9) (TOp.eqr (TOp.fop (.inl rfl) rfl (OpF.const rfl (by kernel_rfl) (by kernel_rfl)) (OpF.tmp rfl)) (congrArg (f .f32) hx9))<|yd rfl (f32 x10) (TOp.eqr (TOp.fop (.inr (.inr (.inr rfl))) rfl (OpF.tmp rfl) (OpF.tmp rfl)) (congrArg (f .f32) hx10))<|ym rfl (oref 1 1 0 r4.length)<|ROps.callO (A := [oref 0 1 0 r2.length, f32 x10, oref 1 1 0 r4.length]) (args := [oref 0 0 0 r2.length, f32 x10, oref 1 0 0 r4.length]) (Γc := [⟨0, some (r2.map f32)⟩, ⟨0, some (r4.map f32)⟩]) (Γc' := [⟨0, some (r11.map f32)⟩, ⟨0, some (r12.map f32)⟩]) (r' := tup []) (Γ' := [⟨1, some (r11.map f32)⟩, ⟨1, some (r12.map f32)⟩, ⟨0, none⟩]) [(0, 1), (1, 1)] [] rfl (CallAs.func ent92 rfl rfl) rfl rfl (SelOk.of (show List.Nodup [0, 1] from by decide) (SelL.arr0 (f := f32) (fun _ => rfl) rfl (SelL.arr0 (f := f32) (fun _ => rfl) rfl trivial))) (live_of ⟨⟨_, _, rfl⟩, ⟨_, _, rfl⟩, trivial⟩) (by simp [ren, rens, sigma, rens_f32, rens_f64, rens_i64, rens_ik, rens_str, rens_cp]) rfl (i_less_0o_2o1_ok x10 r2 r4 r11 r12 hf11) rfl (news_of trivial) (show List.Nodup [0, 1] from by decide) (by simp [ren, rens, sigma, of_decide_eq_true hn12, of_decide_eq_true hn13]) (by simp [backOb, sigma, ren, rens, rens_f32, rens_f64, rens_i64, rens_ik, rens_str, rens_cp])<|zN ?_
     refine RunC.wl (τ' := [(10, oref 0 1 0 r2.length)]) (Γ' := [⟨1, some (r11.map f32)⟩, ⟨1, none⟩, ⟨0, none⟩]) ⟨aR, trivial⟩ ⟨⟨rfl, .inr rfl⟩, ⟨rfl, .inl rfl⟩, ⟨rfl, .inr rfl⟩, trivial⟩<|yS ?_
     obtain ⟨z1, hf14, h⟩ := oS h
     rcases z1 with z1 | z1
     ·replace h := (osum_inl _ _ _).symm.trans h
      obtain ⟨r13, r14, hz2, h⟩ := obind2_some h
      cases hz2
      obtain ⟨hn15, h⟩ := need_some h
      refine yW<|ym rfl (oref 0 1 0 r2.length)<|ROps.callO (A := [oref 0 1 0 r2.length]) (args := [oref 0 0 0 r11.length]) (Γc := [⟨0, some (r11.map f32)⟩]) (Γc' := [⟨0, some (r14.map f32)⟩]) (r' := tup [oref 0 1 0 r2.length, b r13]) (Γ' := [⟨1, some (r14.map f32)⟩, ⟨1, none⟩, ⟨0, none⟩]) [(0, 1)] [] rfl (CallAs.func ent64 rfl rfl) rfl rfl (SelOk.of (ndB_ok rfl) (SelL.arr0 (f := f32) (fun _ => rfl) rfl trivial)) (live_of ⟨⟨_, _, rfl⟩, trivial⟩) (by simp [ren, rens, sigma, rens_f32, rens_f64, rens_i64, rens_ik, rens_str, rens_cp, (of_decide_eq_true hn12)]) rfl (i_allFinite_0o_ok0 r11 r13 r14 hf14) rfl (news_of trivial) (ndB_ok rfl) (by simp [ren, rens, sigma, of_decide_eq_true hn15]) (by simp [backOb, sigma, ren, rens, rens_f32, rens_f64, rens_i64, rens_ik, rens_str, rens_cp])<|yl rfl (oref 0 1 0 r2.length) y3<|yl rfl (b r13) y3<|ya rfl (oref 0 1 0 r2.length)<|ya rfl (b r13)<|zN ?_
      refine RunC.ret ?_
      have hq := oI h
      obtain ⟨hq0, hq⟩ := Prod.mk.inj hq
      subst q0
      subst q1
      exact yB (tup [oref 0 1 0 r14.length, b r13]) [(0, 1)] (Res.eq (Res.two rfl (RV.tmp rfl) (RV.tmp rfl)) (by rw [(show r14.length = r2.length from (of_decide_eq_true hn15))] <;> rfl)) (SelL.arr0 (f := f32) (fun _ => rfl) rfl trivial)
     ·replace h := (osum_inr _ _ _).symm.trans h
      obtain ⟨r15, r16, r17, hz3, h⟩ := obind3_some h
      cases hz3
      obtain ⟨hn16, h⟩ := need_some h
      refine yW<|ym rfl (oref 0 1 0 r2.length)<|ROps.callO (A := [oref 0 1 0 r2.length]) (args := [oref 0 0 0 r11.length]) (Γc := [⟨0, some (r11.map f32)⟩]) (Γc' := [⟨0, some (r16.map f32)⟩, ⟨0, some (r17.map f32)⟩]) (r' := tup [oref 1 2 0 r17.length, b r15]) (Γ' := [⟨1, some (r16.map f32)⟩, ⟨2, some (r17.map f32)⟩, ⟨0, none⟩]) [(0, 1)] [(1, 2)] rfl (CallAs.func ent64 rfl rfl) rfl rfl (SelOk.of (ndB_ok rfl) (SelL.arr0 (f := f32) (fun _ => rfl) rfl trivial)) (live_of ⟨⟨_, _, rfl⟩, trivial⟩) (by simp [ren, rens, sigma, rens_f32, rens_f64, rens_i64, rens_ik, rens_str, rens_cp, (of_decide_eq_true hn12)]) rfl (i_allFinite_0o_ok1 r11 r15 r16 r17 hf14) rfl (news_of ⟨⟨_, rfl, rfl⟩, trivial⟩) (show List.Nodup [0, 1] from by decide) (by simp [ren, rens, sigma, of_decide_eq_true hn16]) (by simp [backOb, sigma, ren, rens, rens_f32, rens_f64, rens_i64, rens_ik, rens_str, rens_cp])<|yl rfl (oref 1 2 0 r17.length) y3<|yl rfl (b r15) y3<|ya rfl (oref 1 2 0 r17.length)<|ya rfl (b r15)<|zN ?_
      refine RunC.ret ?_
      have hq := oI h
      obtain ⟨hq0, hq⟩ := Prod.mk.inj hq
      subst q0
      subst q1
      exact yB (tup [oref 1 2 0 r17.length, b r15]) [(1, 2)] (Res.two rfl (RV.tmp rfl) (RV.tmp rfl)) (SelL.arr0 (f := f32) (fun _ => rfl) rfl trivial)
    ·refine yW<|ym rfl (sFc a5)<|ym rfl (oref 1 1 0 r4.length)<|yd rfl (tup [f32 r7, b r8]) (yc ent91 rfl rfl (bS (Bors.cons (Bor.own (f := f32) (fun _ => rfl) rfl rfl) bN)) (i_DotVectors_ok a5 r4 r7 r8 hf7))<|ym rfl (tup [f32 r7, b r8])<|yl rfl (f32 r7) y3<|yl rfl (b false) (LOp.eqb y3 hc8)<|ya rfl (f32 r7)<|ya rfl (b false)<|zN ?_
     refine RunC.wl (τ' := [(10, oref 0 1 0 r2.length), (12, oref 1 1 0 r4.length), (14, f32 r5), (15, b true), (16, f32 r7), (17, b false)]) (Γ' := [⟨1, some (r2.map f32)⟩, ⟨1, some (r4.map f32)⟩, ⟨0, none⟩]) ⟨aR, aR, aR, aR, aR, aR, trivial⟩ ⟨⟨rfl, .inr rfl⟩, ⟨rfl, .inr rfl⟩, ⟨rfl, .inr rfl⟩, trivial⟩<|yS<|zQ<|ym rfl (b true)<|yl rfl (b false) y1<|ym rfl (b false)<|ym rfl (b false)<|yl rfl (b true) y0<|yl rfl (b true) yp<|zN ?_
     refine yT<|zQ<|ya rfl nilsl<|ya rfl (b false)<|zN ?_
     refine RunC.nil_slot (Γ' := [⟨1, some (r2.map f32)⟩, ⟨1, some (r4.map f32)⟩, ⟨1, some (([] : List F).map f32)⟩]) 8 2 rfl rfl rfl<|RunC.ret ?_
     have hq := oI h
     obtain ⟨hq0, hq⟩ := Prod.mk.inj hq
     subst q0
     subst q1
     exact yB (tup [oref 2 1 0 (([] : List F).length), b false]) [(2, 1)] (Res.eq (Res.two rfl (RV.tmp rfl) (RV.tmp rfl)) (by rw [(show ([] : List F).length = 0 from rfl)] <;> rfl)) (SelL.arr0 (f := f32) (fun _ => rfl) rfl trivial)
   ·refine yW<|ym rfl (sFc a5)<|ym rfl (oref 0 1 0 r2.length)<|yd rfl (tup [f32 r5, b r6]) (yc ent91 rfl rfl (bS (Bors.cons (Bor.own (f := f32) (fun _ => rfl) rfl rfl) bN)) (i_DotVectors_ok a5 r2 r5 r6 hf5))<|ym rfl (tup [f32 r5, b r6])<|yl rfl (f32 r5) y3<|yl rfl (b false) (LOp.eqb y3 hc6)<|ya rfl (f32 r5)<|ya rfl (b false)<|zN ?_
    refine yS ?_
    obtain ⟨r18, r19, hf17, h⟩ := obind2_some h
    rcases oB h with ⟨hc18, h⟩ | ⟨hc18, h⟩
    ·refine yW<|ym rfl (sFc a5)<|ym rfl (oref 1 1 0 r4.length)<|yd rfl (tup [f32 r18, b r19]) (yc ent91 rfl rfl (bS (Bors.cons (Bor.own (f := f32) (fun _ => rfl) rfl rfl) bN)) (i_DotVectors_ok a5 r4 r18 r19 hf17))<|ym rfl (tup [f32 r18, b r19])<|yl rfl (f32 r18) y3<|yl rfl (b true) (LOp.eqb y3 hc18)<|ya rfl (f32 r18)<|ya rfl (b true)<|zN ?_
     refine RunC.wl (τ' := [(10, oref 0 1 0 r2.length), (12, oref 1 1 0 r4.length), (14, f32 r5), (15, b false), (16, f32 r18), (17, b true)]) (Γ' := [⟨1, some (r2.map f32)⟩, ⟨1, some (r4.map f32)⟩, ⟨0, none⟩]) ⟨aR, aR, aR, aR, aR, aR, trivial⟩ ⟨⟨rfl, .inr rfl⟩, ⟨rfl, .inr rfl⟩, ⟨rfl, .inr rfl⟩, trivial⟩<|yS<|zQ<|ym rfl (b false)<|yl rfl (b true) y0<|ym rfl (b true)<|ROps.s rfl rfl rfl<|ROps.s rfl rfl rfl<|yl rfl (b true) yq<|zN ?_
     refine yT<|zQ<|ya rfl nilsl<|ya rfl (b false)<|zN ?_
     refine RunC.nil_slot (Γ' := [⟨1, some (r2.map f32)⟩, ⟨1, some (r4.map f32)⟩, ⟨1, some (([] : List F).map f32)⟩]) 8 2 rfl rfl rfl<|RunC.ret ?_
     have hq := oI h
     obtain ⟨hq0, hq⟩ := Prod.mk.inj hq
     subst q0
     subst q1
     exact yB (tup [oref 2 1 0 (([] : List F).length), b false]) [(2, 1)] (Res.eq (Res.two rfl (RV.tmp rfl) (RV.tmp rfl)) (by rw [(show ([] : List F).length = 0 from rfl)] <;> rfl)) (SelL.arr0 (f := f32) (fun _ => rfl) rfl trivial)
    ·refine yW<|ym rfl (sFc a5)<|ym rfl (oref 1 1 0 r4.length)<|yd rfl (tup [f32 r18, b r19]) (yc ent91 rfl rfl (bS (Bors.cons (Bor.own (f := f32) (fun _ => rfl) rfl rfl) bN)) (i_DotVectors_ok a5 r4 r18 r19 hf17))<|ym rfl (tup [f32 r18, b r19])<|yl rfl (f32 r18) y3<|yl rfl (b false) (LOp.eqb y3 hc18)<|ya rfl (f32 r18)<|ya rfl (b false)<|zN ?_
     refine RunC.wl (τ' := [(10, oref 0 1 0 r2.length), (12, oref 1 1 0 r4.length), (14, f32 r5), (15, b false), (16, f32 r18), (17, b false)]) (Γ' := [⟨1, some (r2.map f32)⟩, ⟨1, some (r4.map f32)⟩, ⟨0, none⟩]) ⟨aR, aR, aR, aR, aR, aR, trivial⟩ ⟨⟨rfl, .inr rfl⟩, ⟨rfl, .inr rfl⟩, ⟨rfl, .inr rfl⟩, trivial⟩<|yS<|zQ<|ym rfl (b false)<|yl rfl (b true) y0<|ym rfl (b true)<|ROps.s rfl rfl rfl<|ROps.s rfl rfl rfl<|yl rfl (b true) yq<|zN ?_
     refine yT<|zQ<|ya rfl nilsl<|ya rfl (b false)<|zN ?_
     refine RunC.nil_slot (Γ' := [⟨1, some (r2.map f32)⟩, ⟨1, some (r4.map f32)⟩, ⟨1, some (([] : List F).map f32)⟩]) 8 2 rfl rfl rfl<|RunC.ret ?_
     have hq := oI h
     obtain ⟨hq0, hq⟩ := Prod.mk.inj hq
     subst q0
     subst q1
     exact yB (tup [oref 2 1 0 (([] : List F).length), b false]) [(2, 1)] (Res.eq (Res.two rfl (RV.tmp rfl) (RV.tmp rfl)) (by rw [(show ([] : List F).length = 0 from rfl)] <;> rfl)) (SelL.arr0 (f := f32) (fun _ => rfl) rfl trivial)
  ·refine yW<|yl rfl (agg [i64 a0, i64 a1, (sFc a2), sl a3.length (a3.map i64)]) (yL agg32 siz32)<|ym rfl (sFc a4)<|ye rfl (tup [oref 1 1 0 r4.length, b r3]) [⟨1, some (r2.map f32)⟩, ⟨1, some (r4.map f32)⟩, ⟨0, none⟩] (TOp.callBN (ls := [(r4.map f32)]) [1] (CallAs.func ent18 rfl rfl) (Bors.cons (Bor.agg (bP (bP (bS (bS bN))))) (bS bN)) rfl (i_FactorSolve_ok a0 a1 a2 a3 a4 r3 r4 hf3) (and_all (lts0_map (f := f32) (fun _ => rfl) _) rfl) (and_all (noss_map (f := f32) (fun _ => rfl) _) rfl) rfl (by decide) (ns_of ⟨⟨_, rfl⟩, trivial⟩))<|ym rfl (tup [oref 1 1 0 r4.length, b r3])<|yl rfl (oref 1 1 0 r4.length) y3<|yl rfl (b false) (LOp.eqb y3 hc4)<|ya rfl (oref 1 1 0 r4.length)<|ya rfl (b false)<|zN ?_
   refine RunC.wl (τ' := [(2, (sFc a5)), (10, oref 0 1 0 r2.length), (11, b true), (12, oref 1 1 0 r4.length), (13, b false)]) (Γ' := [⟨1, some (r2.map f32)⟩, ⟨1, some (r4.map f32)⟩, ⟨0, none⟩]) ⟨aR, aR, aR, aR, aR, trivial⟩ ⟨⟨rfl, .inr rfl⟩, ⟨rfl, .inr rfl⟩, ⟨rfl, .inr rfl⟩, trivial⟩<|yS<|zQ<|ym rfl (b true)<|yl rfl (b false) y1<|ym rfl (b false)<|ym rfl (b false)<|yl rfl (b true) y0<|yl rfl (b true) yp<|zN ?_
   refine yT<|zQ<|ya rfl nilsl<|ya rfl (b false)<|zN ?_
   refine RunC.nil_slot (Γ' := [⟨1, some (r2.map f32)⟩, ⟨1, some (r4.map f32)⟩, ⟨1, some (([] : List F).map f32)⟩]) 8 2 rfl rfl rfl<|RunC.ret ?_
   have hq := oI h
   obtain ⟨hq0, hq⟩ := Prod.mk.inj hq
   subst q0
   subst q1
   exact yB (tup [oref 2 1 0 (([] : List F).length), b false]) [(2, 1)] (Res.eq (Res.two rfl (RV.tmp rfl) (RV.tmp rfl)) (by rw [(show ([] : List F).length = 0 from rfl)] <;> rfl)) (SelL.arr0 (f := f32) (fun _ => rfl) rfl trivial)
 ·refine yW<|yl rfl (agg [i64 a0, i64 a1, (sFc a2), sl a3.length (a3.map i64)]) (yL agg32 siz32)<|ym rfl (sFc a6)<|ye rfl (tup [oref 0 1 0 r2.length, b r1]) [⟨1, some (r2.map f32)⟩, ⟨0, none⟩, ⟨0, none⟩] (TOp.callBN (ls := [(r2.map f32)]) [0] (CallAs.func ent18 rfl rfl) (Bors.cons (Bor.agg (bP (bP (bS (bS bN))))) (bS bN)) rfl (i_FactorSolve_ok a0 a1 a2 a3 a6 r1 r2 hf1) (and_all (lts0_map (f := f32) (fun _ => rfl) _) rfl) (and_all (noss_map (f := f32) (fun _ => rfl) _) rfl) rfl (by decide) (ns_of ⟨⟨_, rfl⟩, trivial⟩))<|ym rfl (tup [oref 0 1 0 r2.length, b r1])<|yl rfl (oref 0 1 0 r2.length) y3<|yl rfl (b false) (LOp.eqb y3 hc2)<|ya rfl (oref 0 1 0 r2.length)<|ya rfl (b false)<|zN ?_
  refine yS ?_
  obtain ⟨r20, r21, hf19, h⟩ := obind2_some h
  rcases oB h with ⟨hc20, h⟩ | ⟨hc20, h⟩
  ·refine yW<|yl rfl (agg [i64 a0, i64 a1, (sFc a2), sl a3.length (a3.map i64)]) (yL agg32 siz32)<|ym rfl (sFc a4)<|ye rfl (tup [oref 1 1 0 r21.length, b r20]) [⟨1, some (r2.map f32)⟩, ⟨1, some (r21.map f32)⟩, ⟨0, none⟩] (TOp.callBN (ls := [(r21.map f32)]) [1] (CallAs.func ent18 rfl rfl) (Bors.cons (Bor.agg (bP (bP (bS (bS bN))))) (bS bN)) rfl (i_FactorSolve_ok a0 a1 a2 a3 a4 r20 r21 hf19) (and_all (lts0_map (f := f32) (fun _ => rfl) _) rfl) (and_all (noss_map (f := f32) (fun _ => rfl) _) rfl) rfl (by decide) (ns_of ⟨⟨_, rfl⟩, trivial⟩))<|ym rfl (tup [oref 1 1 0 r21.length, b r20])<|yl rfl (oref 1 1 0 r21.length) y3<|yl rfl (b true) (LOp.eqb y3 hc20)<|ya rfl (oref 1 1 0 r21.length)<|ya rfl (b true)<|zN ?_
   refine RunC.wl (τ' := [(2, (sFc a5)), (10, oref 0 1 0 r2.length), (11, b false), (12, oref 1 1 0 r21.length), (13, b true)]) (Γ' := [⟨1, some (r2.map f32)⟩, ⟨1, some (r21.map f32)⟩, ⟨0, none⟩]) ⟨aR, aR, aR, aR, aR, trivial⟩ ⟨⟨rfl, .inr rfl⟩, ⟨rfl, .inr rfl⟩, ⟨rfl, .inr rfl⟩, trivial⟩<|yS<|zQ<|ym rfl (b false)<|yl rfl (b true) y0<|ym rfl (b true)<|ROps.s rfl rfl rfl<|ROps.s rfl rfl rfl<|yl rfl (b true) yq<|zN ?_
   refine yT<|zQ<|ya rfl nilsl<|ya rfl (b false)<|zN ?_
   refine RunC.nil_slot (Γ' := [⟨1, some (r2.map f32)⟩, ⟨1, some (r21.map f32)⟩, ⟨1, some (([] : List F).map f32)⟩]) 8 2 rfl rfl rfl<|RunC.ret ?_
   have hq := oI h
   obtain ⟨hq0, hq⟩ := Prod.mk.inj hq
   subst q0
   subst q1
   exact yB (tup [oref 2 1 0 (([] : List F).length), b false]) [(2, 1)] (Res.eq (Res.two rfl (RV.tmp rfl) (RV.tmp rfl)) (by rw [(show ([] : List F).length = 0 from rfl)] <;> rfl)) (SelL.arr0 (f := f32) (fun _ => rfl) rfl trivial)
  ·refine yW<|yl rfl (agg [i64 a0, i64 a1, (sFc a2), sl a3.length (a3.map i64)]) (yL agg32 siz32)<|ym rfl (sFc a4)<|ye rfl (tup [oref 1 1 0 r21.length, b r20]) [⟨1, some (r2.map f32)⟩, ⟨1, some (r21.map f32)⟩, ⟨0, none⟩] (TOp.callBN (ls := [(r21.map f32)]) [1] (CallAs.func ent18 rfl rfl) (Bors.cons (Bor.agg (bP (bP (bS (bS bN))))) (bS bN)) rfl (i_FactorSolve_ok a0 a1 a2 a3 a4 r20 r21 hf19) (and_all (lts0_map (f := f32) (fun _ => rfl) _) rfl) (and_all (noss_map (f := f32) (fun _ => rfl) _) rfl) rfl (by decide) (ns_of ⟨⟨_, rfl⟩, trivial⟩))<|ym rfl (tup [oref 1 1 0 r21.length, b r20])<|yl rfl (oref 1 1 0 r21.length) y3<|yl rfl (b false) (LOp.eqb y3 hc20)<|ya rfl (oref 1 1 0 r21.length)<|ya rfl (b false)<|zN ?_
   refine RunC.wl (τ' := [(2, (sFc a5)), (10, oref 0 1 0 r2.length), (11, b false), (12, oref 1 1 0 r21.length), (13, b false)]) (Γ' := [⟨1, some (r2.map f32)⟩, ⟨1, some (r21.map f32)⟩, ⟨0, none⟩]) ⟨aR, aR, aR, aR, aR, trivial⟩ ⟨⟨rfl, .inr rfl⟩, ⟨rfl, .inr rfl⟩, ⟨rfl, .inr rfl⟩, trivial⟩<|yS<|zQ<|ym rfl (b false)<|yl rfl (b true) y0<|ym rfl (b true)<|ROps.s rfl rfl rfl<|ROps.s rfl rfl rfl<|yl rfl (b true) yq<|zN ?_
   refine yT<|zQ<|ya rfl nilsl<|ya rfl (b false)<|zN ?_
   refine RunC.nil_slot (Γ' := [⟨1, some (r2.map f32)⟩, ⟨1, some (r21.map f32)⟩, ⟨1, some (([] : List F).map f32)⟩]) 8 2 rfl rfl rfl<|RunC.ret ?_
   have hq := oI h
   obtain ⟨hq0, hq⟩ := Prod.mk.inj hq
   subst q0
   subst q1
   exact yB (tup [oref 2 1 0 (([] : List F).length), b false]) [(2, 1)] (Res.eq (Res.two rfl (RV.tmp rfl) (RV.tmp rfl)) (by rw [(show ([] : List F).length = 0 from rfl)] <;> rfl)) (SelL.arr0 (f := f32) (fun _ => rfl) rfl trivial)
def s_l02Vector (a0 : List F) : Option (Bool) :=
 bsel (decide (1 ≤ (a0.length : Int))) (
  bsel (decide ((a0.length : Int) ≤ 256)) (
   obind (s_l02Finite a0) fun (r1 : Bool) =>
   some r1) (
   some false)) (
  some false)
theorem s_l02Vector_ok (a0 : List F) (q0 : Bool) (h : s_l02Vector a0 = some q0) : Ev Tryz.prog 73 [(sFc a0)] [] (b q0) [] := by
 refine yE Tryz.func73 0 31 0 [(0, (sFc a0))] [] rfl ?_
 unfold s_l02Vector at h
 refine zQ<|ya rfl (b false)<|zN ?_
 refine yS ?_
 rcases oB h with ⟨hc1, h⟩ | ⟨hc1, h⟩
 ·rcases oB h with ⟨hc2, h⟩ | ⟨hc2, h⟩
  ·obtain ⟨r1, hf3, h⟩ := oS h
   refine yW<|ym rfl (sFc a0)<|yl rfl (i64 (a0.length : Int)) (LOp.len_sl und25 rfl rfl)<|yl rfl (b true) (LOp.eqb (LOp.geq rfl rfl rfl) hc1)<|ym rfl (b true)<|ym rfl (sFc a0)<|yl rfl (i64 (a0.length : Int)) (LOp.len_sl und25 rfl rfl)<|yl rfl (b true) (LOp.eqb (LOp.leq rfl rfl rfl) hc2)<|yl rfl (b true) yq<|ym rfl (b true)<|ym rfl (sFc a0)<|yd rfl (b r1) (yc ent105 rfl rfl (bS bN) (s_l02Finite_ok a0 r1 hf3))<|yl rfl (b r1) yq<|ya rfl (b r1)<|zN ?_
   refine RunC.ret ?_
   have hq := oI h
   subst q0
   exact bodyQ.pure (.inr rfl) rfl (Res.one rfl (RV.tmp rfl))
  ·refine yW<|ym rfl (sFc a0)<|yl rfl (i64 (a0.length : Int)) (LOp.len_sl und25 rfl rfl)<|yl rfl (b true) (LOp.eqb (LOp.geq rfl rfl rfl) hc1)<|ym rfl (b true)<|ym rfl (sFc a0)<|yl rfl (i64 (a0.length : Int)) (LOp.len_sl und25 rfl rfl)<|yl rfl (b false) (LOp.eqb (LOp.leq rfl rfl rfl) hc2)<|yl rfl (b false) yq<|ym rfl (b false)<|ROps.s rfl rfl rfl<|ROps.s rfl rfl rfl<|yl rfl (b false) yp<|ya rfl (b false)<|zN ?_
   refine RunC.ret ?_
   have hq := oI h
   subst q0
   exact bodyQ.pure (.inr rfl) rfl (Res.one rfl (RV.tmp rfl))
 ·refine yW<|ym rfl (sFc a0)<|yl rfl (i64 (a0.length : Int)) (LOp.len_sl und25 rfl rfl)<|yl rfl (b false) (LOp.eqb (LOp.geq rfl rfl rfl) hc1)<|ym rfl (b false)<|ROps.s rfl rfl rfl<|ROps.s rfl rfl rfl<|ROps.s rfl rfl rfl<|yl rfl (b false) yp<|ym rfl (b false)<|ROps.s rfl rfl rfl<|ROps.s rfl rfl rfl<|yl rfl (b false) yp<|ya rfl (b false)<|zN ?_
  refine RunC.ret ?_
  have hq := oI h
  subst q0
  exact bodyQ.pure (.inr rfl) rfl (Res.one rfl (RV.tmp rfl))
def s_l02Dot_b1 (a0 : List F) (a1 : List F) (y1 : F) (v2 : Int) : Option (LR (F × Int) (F) (F)) :=
 bsel (decide (v2 < (a0.length : Int))) (
  obind (at? a0 v2) fun (e3 : F) =>
  obind (at? a1 v2) fun (e4 : F) =>
  olet (fop .mul .f32 e3 e4) fun (x5 : F) =>
  olet (fop .add .f32 y1 x5) fun (x6 : F) =>
  olet (IntKind.i64.wrap (v2 + 1)) fun (x7 : Int) =>
  some (LR.next (x6, x7))) (
  some (LR.out y1))
def s_l02Dot_s1 (a0 : List F) (a1 : List F) : (F × Int) → Option (LR (F × Int) (F) (F)) := fun s => s_l02Dot_b1 a0 a1 s.1 s.2
def s_l02Dot_k1 (y8 : F) : Option (F) :=
 some y8
def s_l02Dot (a0 : List F) (a1 : List F) : Option (F) :=
 obind (loopM (s_l02Dot_s1 a0 a1) (some 0, 0)) fun z => osum z (fun e => s_l02Dot_k1 e) (fun r => some r)
theorem s_l02Dot_ok (a0 : List F) (a1 : List F) (q0 : F) (h : s_l02Dot a0 a1 = some q0) : Ev Tryz.prog 110 [(sFc a0), (sFc a1)] [] (f32 q0) [] := by
 refine yE Tryz.func110 0 51 0 [(0, (sFc a0)), (1, (sFc a1))] [] rfl ?_
 unfold s_l02Dot at h
 refine zQ<|yl rfl (f32 (some 0)) (LOp.le (LOp.assign rfl rfl) (ALe.fl (by kernel_rfl) (by kernel_rfl)))<|zN ?_
 refine zQ<|yl rfl (f32 (some 0)) (LOp.le (LOp.assign rfl rfl) (ALe.fl (by kernel_rfl) (by kernel_rfl)))<|zN ?_
 refine yS<|zQ<|ya rfl (i64 0)<|zN ?_
 obtain ⟨z2, hz_2, h⟩ := oS h
 refine RunC.cutN (fun τ Γ => ∃ (y8 : F), WeakLe τ [(5, f32 y8)] ∧ DeadLe Γ [] ∧ z2 = .inl y8) ?_ ?_
 ·refine RunC.block (RunC.loop (RunL.loopM (x := z2) (s_l02Dot_s1 a0 a1) (fun (s : F × Int) τ Γ => WeakLe τ [(0, (sFc a0)), (1, (sFc a1)), (5, f32 s.1), (6, i64 s.2)] ∧ DeadLe Γ []) ?_ _ _ _ hz_2 ⟨⟨aR, aR, aR, aR, trivial⟩, trivial⟩))
  rintro ⟨y1, v2⟩ τ2 Γ2 y2_ ⟨hw2, hd2⟩ h2_ ho2 hr2
  refine RunC.wl (τ' := [(0, (sFc a0)), (1, (sFc a1)), (5, f32 y1), (6, i64 v2)]) (Γ' := []) hw2 hd2 ?_
  replace h2_ : s_l02Dot_b1 a0 a1 y1 v2 = some y2_ := h2_
  unfold s_l02Dot_b1 at h2_
  refine yS<|yS ?_
  rcases oB h2_ with ⟨hc1, h2_⟩ | ⟨hc1, h2_⟩
  ·refine yW<|ym rfl (i64 v2)<|ym rfl (sFc a0)<|yl rfl (i64 (a0.length : Int)) (LOp.len_sl und25 rfl rfl)<|yl rfl (b true) (LOp.eqb (LOp.lss rfl rfl rfl) hc1)<|zN ?_
   refine yT<|RunC.skip<|yS<|RunC.block ?_
   obtain ⟨e3, he2, h2_⟩ := oS h2_
   obtain ⟨e4, he3, h2_⟩ := oS h2_
   obtain ⟨x5, hx4, h2_⟩ := oL h2_
   obtain ⟨x6, hx5, h2_⟩ := oL h2_
   refine RunC.region_draw (Γ' := []) 12 mixed 
    (tm rfl (f32 y1) <|
    (tm rfl (sFc a0) <|
    (tm rfl (i64 v2) <|
    (tl rfl (ptr [f32 e3]) (LOp.le (LOp.ix (f := f32) und25 siz41 rfl rfl rfl rfl he2) ALe.ptr) <|
    (tl rfl (f32 e3) (y2 agg41) <|
    (tm rfl (sFc a1) <|
    (tm rfl (i64 v2) <|
    (tl rfl (ptr [f32 e4]) (LOp.le (LOp.ix (f := f32) und25 siz41 rfl rfl rfl rfl he3) ALe.ptr) <|
    (tl rfl (f32 e4) (y2 agg41) <|
    (TR.d (r := f32 x5) (fs := []) rfl rfl (TOp.eqr (TOp.fop (.inr (.inr (.inl rfl))) rfl (OpF.tmp rfl) (OpF.tmp rfl)) (congrArg (f .f32) hx4)) <|
    (TR.d (r := f32 x6) (fs := []) rfl rfl (TOp.eqr (TOp.fop (.inl rfl) rfl (OpF.tmp rfl) (OpF.tmp rfl)) (congrArg (f .f32) hx5)) <|
    (tl rfl (f32 x6) (LOp.assign rfl rfl) <|
    TR.nil)))))))))))) rfl (by kernel_rfl) rfl fills_nil rfl ?_
   iterate 12 refine ROps.dropS ?_
   refine ROps.drop0<|zN ?_
   refine RunC.wl (τ' := [(0, (sFc a0)), (1, (sFc a1)), (5, f32 x6), (6, i64 v2)]) (Γ' := []) ⟨aR, aR, aR, aR, trivial⟩ trivial ?_
   obtain ⟨x7, hx6, h2_⟩ := oL h2_
   refine yW<|ym rfl (i64 v2)<|yl rfl (i64 x7) (LOp.eqr (LOp.add rfl rfl rfl) (congrArg (ik .i64) hx6))<|ya rfl (i64 x7)<|zN ?_
   cases oI h2_
   exact ⟨_, rfl, ⟨aR, aR, aR, aR, trivial⟩, trivial⟩
  ·refine yW<|ym rfl (i64 v2)<|ym rfl (sFc a0)<|yl rfl (i64 (a0.length : Int)) (LOp.len_sl und25 rfl rfl)<|yl rfl (b false) (LOp.eqb (LOp.lss rfl rfl rfl) hc1)<|zN ?_
   refine yF<|RunC.exit ?_
   cases oI h2_
   have hx := ho2 _ rfl
   exact ⟨y1, ⟨aR, trivial⟩, trivial, hx⟩
 ·rintro τ3 Γ3 ⟨y8, hw3, hd3, rfl⟩
  refine RunC.wl hw3 hd3 ?_
  replace h : s_l02Dot_k1 y8 = some q0 := h
  unfold s_l02Dot_k1 at h
  refine zQ<|ym rfl (f32 y8)<|ya rfl (f32 y8)<|zN ?_
  refine RunC.ret ?_
  have hq := oI h
  subst q0
  exact bodyQ.pure (.inr rfl) rfl (Res.one rfl (RV.tmp rfl))
def s_l02Times_b1 (a0 : Int) (a1 : Int) (a2 : List F) (a3 : List F) (L3 : List F) (v4 : Int) : Option (LR ((List F) × Int) ((List F)) ((List F))) :=
 bsel (decide (v4 < a0)) (
  olet (IntKind.i64.wrap (v4 * a1)) fun (x5 : Int) =>
  olet (IntKind.i64.wrap (v4 + 1)) fun (x6 : Int) =>
  olet (IntKind.i64.wrap (x6 * a1)) fun (x7 : Int) =>
  obind (sub? a2 x5 x7) fun (l8 : List F) =>
  obind (s_l02Dot l8 a3) fun (r9 : F) =>
  need (apok 4 L3.length 1) <|
  olet (IntKind.i64.wrap (v4 + 1)) fun (x10 : Int) =>
  some (LR.next ((L3 ++ ([r9] : List F)), x10))) (
  some (LR.out L3))
def s_l02Times_s1 (a0 : Int) (a1 : Int) (a2 : List F) (a3 : List F) : ((List F) × Int) → Option (LR ((List F) × Int) ((List F)) ((List F))) := fun s => s_l02Times_b1 a0 a1 a2 a3 s.1 s.2
def s_l02Times_k1 (L13 : List F) : Option ((List F)) :=
 some L13
def s_l02Times (a0 : Int) (a1 : Int) (a2 : List F) (a3 : List F) : Option ((List F)) :=
 obind (loopM (s_l02Times_s1 a0 a1 a2 a3) (([] : List F), 0)) fun z => osum z (fun e => s_l02Times_k1 e) (fun r => some r)
theorem s_l02Times_ok (a0 : Int) (a1 : Int) (a2 : List F) (a3 : List F) (q0 : List F) (h : s_l02Times a0 a1 a2 a3 = some q0) : Ev Tryz.prog 75 [ptr (mXc a0 a1 a2), (sFc a3)] [] (oref 0 0 0 q0.length) [⟨0, some (q0.map f32)⟩] := by
 refine yE Tryz.func75 2 81 0 [(0, ptr (mXc a0 a1 a2)), (1, (sFc a3))] [⟨0, none⟩, ⟨0, none⟩] rfl ?_
 unfold s_l02Times at h
 refine zQ<|ya rfl nilsl<|zN ?_
 refine zQ<|ye rfl (oref 0 1 0 0) ([⟨1, some (([] : List F).map f32)⟩, ⟨0, none⟩]) (TOp.buildSlice_o (g := ⟨0, none⟩) (za := f32 (some 0)) (qs := []) 0 rfl und25 siz41 zer41 rfl zel41 rfl rfl trivial rfl)<|ya rfl (oref 0 1 0 0)<|zN ?_
 refine yS<|zQ<|ya rfl (i64 0)<|zN ?_
 obtain ⟨z2, hz_2, h⟩ := oS h
 refine RunC.cutN (fun τ Γ => ∃ (L13 : List F) (u11 : Nat) (u12 : Nat), WeakLe τ [(5, oref 0 u11 0 L13.length)] ∧ DeadLe Γ [⟨u11, some (L13.map f32)⟩, ⟨u12, none⟩] ∧ z2 = .inl L13) ?_ ?_
 ·refine RunC.block (RunC.loop (RunL.loopM (x := z2) (s_l02Times_s1 a0 a1 a2 a3) (fun (s : (List F) × Int) τ Γ => ∃ (u1 : Nat) (u2 : Nat), WeakLe τ [(0, ptr (mXc a0 a1 a2)), (1, (sFc a3)), (5, oref 0 u1 0 s.1.length), (6, i64 s.2)] ∧ DeadLe Γ [⟨u1, some (s.1.map f32)⟩, ⟨u2, none⟩]) ?_ _ _ _ hz_2 ⟨1, 0, ⟨aR, aR, aR, aR, trivial⟩, ⟨⟨rfl, .inr rfl⟩, ⟨rfl, .inl rfl⟩, trivial⟩⟩))
  rintro ⟨L3, v4⟩ τ2 Γ2 y2_ ⟨u1, u2, hw2, hd2⟩ h2_ ho2 hr2
  refine RunC.wl (τ' := [(0, ptr (mXc a0 a1 a2)), (1, (sFc a3)), (5, oref 0 u1 0 L3.length), (6, i64 v4)]) (Γ' := [⟨u1, some (L3.map f32)⟩, ⟨u2, none⟩]) hw2 hd2 ?_
  replace h2_ : s_l02Times_b1 a0 a1 a2 a3 L3 v4 = some y2_ := h2_
  unfold s_l02Times_b1 at h2_
  refine yS<|yS ?_
  rcases oB h2_ with ⟨hc1, h2_⟩ | ⟨hc1, h2_⟩
  ·refine yW<|ym rfl (i64 v4)<|ym rfl (ptr (mXc a0 a1 a2))<|yl rfl (ptr (mXc a0 a1 a2)) (LOp.nilCheck_ptr rfl rfl)<|yl rfl (ptr (mXc a0 a1 a2)) (LOp.fap und27 rfl siz2 rfl rfl rfl)<|yl rfl (i64 a0) (y2 agg2)<|yl rfl (b true) (LOp.eqb (LOp.lss rfl rfl rfl) hc1)<|zN ?_
   refine yT<|RunC.skip<|yS<|RunC.block ?_
   obtain ⟨x5, hx2, h2_⟩ := oL h2_
   obtain ⟨x6, hx3, h2_⟩ := oL h2_
   obtain ⟨x7, hx4, h2_⟩ := oL h2_
   obtain ⟨l8, hs5, h2_⟩ := oS h2_
   obtain ⟨r9, hf6, h2_⟩ := oS h2_
   obtain ⟨hm7, h2_⟩ := need_some h2_
   refine RunC.region_draw (Γ' := [⟨u1, some (L3.map f32)⟩, ⟨(u2 + 1), some (([r9] : List F).map f32)⟩]) 22 mixed 
    (tm rfl (oref 0 u1 0 L3.length) <|
    (tm rfl (ptr (mXc a0 a1 a2)) <|
    (tl rfl (ptr (mXc a0 a1 a2)) (LOp.nilCheck_ptr rfl rfl) <|
    (tl rfl (ptr [(sFc a2)]) (LOp.fap und27 rfl siz25 rfl rfl rfl) <|
    (tl rfl (sFc a2) (y2 agg25) <|
    (tm rfl (i64 v4) <|
    (tm rfl (ptr (mXc a0 a1 a2)) <|
    (tl rfl (ptr (mXc a0 a1 a2)) (LOp.nilCheck_ptr rfl rfl) <|
    (tl rfl (ptr [i64 a1, (sFc a2)]) (LOp.fap und27 rfl siz2 rfl rfl rfl) <|
    (tl rfl (i64 a1) (y2 agg2) <|
    (tl rfl (i64 x5) (LOp.eqr (LOp.mul rfl rfl rfl) (congrArg (ik .i64) hx2)) <|
    (tm rfl (i64 v4) <|
    (tl rfl (i64 x6) (LOp.eqr (LOp.add rfl rfl rfl) (congrArg (ik .i64) hx3)) <|
    (tm rfl (ptr (mXc a0 a1 a2)) <|
    (tl rfl (ptr (mXc a0 a1 a2)) (LOp.nilCheck_ptr rfl rfl) <|
    (tl rfl (ptr [i64 a1, (sFc a2)]) (LOp.fap und27 rfl siz2 rfl rfl rfl) <|
    (tl rfl (i64 a1) (y2 agg2) <|
    (tl rfl (i64 x7) (LOp.eqr (LOp.mul rfl rfl rfl) (congrArg (ik .i64) hx4)) <|
    (tl rfl (sFc l8) (LOp.slice_sl (f := f32) und25 siz41 rfl rfl rfl rfl rfl hs5) <|
    (tm rfl (sFc a3) <|
    (TR.d (r := f32 r9) (fs := []) rfl rfl (yc ent110 rfl rfl (bS (bS bN)) (s_l02Dot_ok l8 a3 r9 hf6)) <|
    (TR.d (r := oref 1 (u2 + 1) 0 1) (fs := [(1, (([r9] : List F).map f32))]) rfl rfl (TOp.buildSlice_o (g := ⟨u2, none⟩) (za := f32 (some 0)) (qs := [(0, [f32 r9])]) 1 rfl und25 siz41 zer41 rfl zel41 rfl rfl ⟨rfl, ⟨_, ALe.refl _, rfl⟩, trivial⟩ rfl) <|
    TR.nil)))))))))))))))))))))) rfl (by kernel_rfl) rfl (fills_of (by show List.Nodup [1]; decide) ⟨⟨_, rfl⟩, trivial⟩) rfl ?_
   iterate 22 refine ROps.dropS ?_
   refine ROps.drop0<|ROps.app (f := f32) (xs := L3) (ys := ([r9] : List F)) (Γ' := [⟨(u1 + 1), some ((L3 ++ ([r9] : List F)).map f32)⟩, ⟨(u2 + 1), some (([r9] : List F).map f32)⟩]) rfl pun25 inf41 rfl rfl rfl rfl rfl rfl rfl rfl rfl (by simp) (ReadAs.own rfl (by simp)) (ones_map (fun _ => rfl)) (ap_by hm7) (ap_mx hm7) rfl<|ya rfl (oref 0 (u1 + 1) 0 (L3.length + 1))<|zN ?_
   refine RunC.wl (τ' := [(0, ptr (mXc a0 a1 a2)), (1, (sFc a3)), (5, oref 0 (u1 + 1) 0 (L3.length + 1)), (6, i64 v4)]) (Γ' := [⟨(u1 + 1), some ((L3 ++ ([r9] : List F)).map f32)⟩, ⟨(u2 + 1), none⟩]) ⟨aR, aR, aR, aR, trivial⟩ ⟨⟨rfl, .inr rfl⟩, ⟨rfl, .inl rfl⟩, trivial⟩ ?_
   obtain ⟨x10, hx8, h2_⟩ := oL h2_
   refine yW<|ym rfl (i64 v4)<|yl rfl (i64 x10) (LOp.eqr (LOp.add rfl rfl rfl) (congrArg (ik .i64) hx8))<|ya rfl (i64 x10)<|zN ?_
   cases oI h2_
   exact ⟨_, rfl, (u1 + 1), (u2 + 1), ⟨aR, aR, (ALe.eq (by rw [(app_len rfl rfl)] <;> rfl)), aR, trivial⟩, ⟨⟨rfl, .inr rfl⟩, ⟨rfl, .inl rfl⟩, trivial⟩⟩
  ·refine yW<|ym rfl (i64 v4)<|ym rfl (ptr (mXc a0 a1 a2))<|yl rfl (ptr (mXc a0 a1 a2)) (LOp.nilCheck_ptr rfl rfl)<|yl rfl (ptr (mXc a0 a1 a2)) (LOp.fap und27 rfl siz2 rfl rfl rfl)<|yl rfl (i64 a0) (y2 agg2)<|yl rfl (b false) (LOp.eqb (LOp.lss rfl rfl rfl) hc1)<|zN ?_
   refine yF<|RunC.exit ?_
   cases oI h2_
   have hx := ho2 _ rfl
   exact ⟨L3, u1, u2, ⟨aR, trivial⟩, ⟨⟨rfl, .inr rfl⟩, ⟨rfl, .inl rfl⟩, trivial⟩, hx⟩
 ·rintro τ3 Γ3 ⟨L13, u11, u12, hw3, hd3, rfl⟩
  refine RunC.wl hw3 hd3 ?_
  replace h : s_l02Times_k1 L13 = some q0 := h
  unfold s_l02Times_k1 at h
  refine zQ<|ym rfl (oref 0 u11 0 L13.length)<|ya rfl (oref 0 u11 0 L13.length)<|zN ?_
  refine RunC.ret ?_
  have hq := oI h
  subst q0
  exact bodyQ.mk (r' := oref 0 u11 0 L13.length) [(0, u11)] (.inr rfl) rfl (ndB_ok rfl) (by simp [ren, rens, sigma]) rfl (Res.one rfl (RV.tmp rfl)) (SelL.arr0 (f := f32) (fun _ => rfl) rfl trivial)
def s_l02List_0o (a0 : List F) : Option ((Bool × (List F)) ⊕ (Bool × (List F) × (List F))) :=
 obind (s_l02Finite a0) fun (r1 : Bool) =>
 bsel r1 (
  some (Sum.inl (true, a0))) (
  some (Sum.inr (false, a0, ([] : List F))))
theorem s_l02List_0o_ok0 (a0 : List F) (q0 : Bool) (q1 : List F) (h : s_l02List_0o a0 = some (Sum.inl (q0, q1))) : Ev Tryz.prog 74 [oref 0 0 0 a0.length] [⟨0, some (a0.map f32)⟩] (tup [oref 0 0 0 q1.length, b q0]) [⟨0, some (q1.map f32)⟩] := by
 refine Ev.start Tryz.func74 rfl rfl 1 (τ := [(0, oref 0 0 0 a0.length)]) rfl (Γ' := [⟨0, some (a0.map f32)⟩, ⟨0, none⟩]) rfl (n := 16) rfl (g := 1) rfl (by decide) ?_
 unfold s_l02List_0o at h
 refine zQ<|ya rfl nilsl<|ya rfl (b false)<|zN ?_
 refine yS<|yS ?_
 obtain ⟨r1, hf1, h⟩ := oS h
 rcases oB h with ⟨hc2, h⟩ | ⟨hc2, h⟩
 ·refine yW<|ym rfl (oref 0 0 0 a0.length)<|yd rfl (b true) (TOp.eqb (yc ent105 rfl rfl (Bors.cons (Bor.own (f := f32) (fun _ => rfl) rfl rfl) bN) (s_l02Finite_ok a0 r1 hf1)) hc2)<|yl rfl (b false) y1<|zN ?_
  refine yF<|RunC.skip<|zQ<|ym rfl (oref 0 0 0 a0.length)<|ya rfl (oref 0 0 0 a0.length)<|ya rfl (b true)<|zN ?_
  refine RunC.ret ?_
  have hq := oI h
  have hq := Sum.inl.inj hq
  obtain ⟨hq0, hq⟩ := Prod.mk.inj hq
  subst q0
  subst q1
  exact yB (tup [oref 0 0 0 a0.length, b true]) [(0, 0)] (Res.two rfl (RV.tmp rfl) (RV.tmp rfl)) (SelL.arr (f := f32) (fun _ => rfl) rfl trivial)
 ·refine yW<|ym rfl (oref 0 0 0 a0.length)<|yd rfl (b false) (TOp.eqb (yc ent105 rfl rfl (Bors.cons (Bor.own (f := f32) (fun _ => rfl) rfl rfl) bN) (s_l02Finite_ok a0 r1 hf1)) hc2)<|yl rfl (b true) y0<|zN ?_
  refine yT<|zQ<|ya rfl nilsl<|ya rfl (b false)<|zN ?_
  cases oI h
theorem s_l02List_0o_ok1 (a0 : List F) (q0 : Bool) (q1 : List F) (q2 : List F) (h : s_l02List_0o a0 = some (Sum.inr (q0, q1, q2))) : Ev Tryz.prog 74 [oref 0 0 0 a0.length] [⟨0, some (a0.map f32)⟩] (tup [oref 1 0 0 q2.length, b q0]) [⟨0, some (q1.map f32)⟩, ⟨0, some (q2.map f32)⟩] := by
 refine Ev.start Tryz.func74 rfl rfl 1 (τ := [(0, oref 0 0 0 a0.length)]) rfl (Γ' := [⟨0, some (a0.map f32)⟩, ⟨0, none⟩]) rfl (n := 16) rfl (g := 1) rfl (by decide) ?_
 unfold s_l02List_0o at h
 refine zQ<|ya rfl nilsl<|ya rfl (b false)<|zN ?_
 refine yS<|yS ?_
 obtain ⟨r1, hf1, h⟩ := oS h
 rcases oB h with ⟨hc2, h⟩ | ⟨hc2, h⟩
 ·refine yW<|ym rfl (oref 0 0 0 a0.length)<|yd rfl (b true) (TOp.eqb (yc ent105 rfl rfl (Bors.cons (Bor.own (f := f32) (fun _ => rfl) rfl rfl) bN) (s_l02Finite_ok a0 r1 hf1)) hc2)<|yl rfl (b false) y1<|zN ?_
  refine yF<|RunC.skip<|zQ<|ym rfl (oref 0 0 0 a0.length)<|ya rfl (oref 0 0 0 a0.length)<|ya rfl (b true)<|zN ?_
  cases oI h
 ·refine yW<|ym rfl (oref 0 0 0 a0.length)<|yd rfl (b false) (TOp.eqb (yc ent105 rfl rfl (Bors.cons (Bor.own (f := f32) (fun _ => rfl) rfl rfl) bN) (s_l02Finite_ok a0 r1 hf1)) hc2)<|yl rfl (b true) y0<|zN ?_
  refine yT<|zQ<|ya rfl nilsl<|ya rfl (b false)<|zN ?_
  refine RunC.nil_slot (Γ' := [⟨0, some (a0.map f32)⟩, ⟨1, some (([] : List F).map f32)⟩]) 2 1 rfl rfl rfl<|RunC.ret ?_
  have hq := oI h
  have hq := Sum.inr.inj hq
  obtain ⟨hq0, hq⟩ := Prod.mk.inj hq
  obtain ⟨hq1, hq⟩ := Prod.mk.inj hq
  subst q0
  subst q1
  subst q2
  exact yB (tup [oref 1 1 0 (([] : List F).length), b false]) [(0, 0), (1, 1)] (Res.eq (Res.two rfl (RV.tmp rfl) (RV.tmp rfl)) (by rw [(show ([] : List F).length = 0 from rfl)] <;> rfl)) (SelL.arr (f := f32) (fun _ => rfl) rfl (SelL.arr0 (f := f32) (fun _ => rfl) rfl trivial))
def s_TimesVector (a0 : Int) (a1 : Int) (a2 : List F) (a3 : List F) : Option (Bool × (List F)) :=
 obind (s_l02Is a0 a1 a2) fun (r1 : Bool) =>
 bsel r1 (
  obind (s_l02Vector a3) fun (r2 : Bool) =>
  bsel r2 (
   bsel (!decide ((a3.length : Int) = a1)) (
    some (false, ([] : List F))) (
    obind (s_l02Times a0 a1 a2 a3) fun (r3 : List F) =>
    obind (s_l02List_0o r3) (fun z => osum z (fun y => obind2 (some y) fun (r4 : Bool) (r5 : List F) =>
     need (decide (r5.length = r3.length)) <|
     some (r4, r5)) (fun y => obind3 (some y) fun (r6 : Bool) (r7 : List F) (r8 : List F) =>
     need (decide (r7.length = r3.length)) <|
     some (r6, r8))))) (
   some (false, ([] : List F)))) (
  some (false, ([] : List F)))
theorem s_TimesVector_ok (a0 : Int) (a1 : Int) (a2 : List F) (a3 : List F) (q0 : Bool) (q1 : List F) (h : s_TimesVector a0 a1 a2 a3 = some (q0, q1)) : Ev Tryz.prog 23 [agg (mXc a0 a1 a2), (sFc a3)] [] (tup [oref 0 0 0 q1.length, b q0]) [⟨0, some (q1.map f32)⟩] := by
 refine yE Tryz.func23 2 51 0 [(0, agg (mXc a0 a1 a2)), (1, (sFc a3))] [⟨0, none⟩, ⟨0, none⟩] rfl ?_
 unfold s_TimesVector at h
 refine zQ<|yd rfl (ptr (mXc a0 a1 a2)) (TOp.box_s rfl rfl rfl)<|ya rfl nilsl<|ya rfl (b false)<|zN ?_
 refine yS<|yS ?_
 obtain ⟨r1, hf1, h⟩ := oS h
 rcases oB h with ⟨hc2, h⟩ | ⟨hc2, h⟩
 ·obtain ⟨r2, hf3, h⟩ := oS h
  rcases oB h with ⟨hc4, h⟩ | ⟨hc4, h⟩
  ·rcases oB h with ⟨hc5, h⟩ | ⟨hc5, h⟩
   ·refine yW<|yd rfl (b true) (TOp.eqb (TOp.callB (CallAs.func ent59 rfl rfl) (Bors.cons (Bor.ptr (bP (bP (bS bN)))) bN) rfl rfl (s_l02Is_ok a0 a1 a2 r1 hf1)) hc2)<|yl rfl (b false) y1<|ym rfl (b false)<|ym rfl (sFc a3)<|yd rfl (b true) (TOp.eqb (yc ent73 rfl rfl (bS bN) (s_l02Vector_ok a3 r2 hf3)) hc4)<|yl rfl (b false) y1<|yl rfl (b false) yp<|ym rfl (b false)<|ym rfl (sFc a3)<|yl rfl (i64 (a3.length : Int)) (LOp.len_sl und25 rfl rfl)<|yl rfl (ptr [i64 a1, (sFc a2)]) (LOp.fap und27 rfl siz2 rfl rfl rfl)<|yl rfl (i64 a1) (y2 agg2)<|yl rfl (b true) (LOp.eqb (LOp.neq rfl rfl rfl) hc5)<|yl rfl (b true) yp<|zN ?_
    refine RunC.wl (τ' := [(1, (sFc a3)), (2, ptr (mXc a0 a1 a2)), (19, b true)]) (Γ' := [⟨0, none⟩, ⟨0, none⟩]) ⟨aR, aR, aR, trivial⟩ ⟨⟨rfl, .inr rfl⟩, ⟨rfl, .inr rfl⟩, trivial⟩<|yT<|zQ<|ya rfl nilsl<|ya rfl (b false)<|zN ?_
    refine RunC.nil_slot (Γ' := [⟨1, some (([] : List F).map f32)⟩, ⟨0, none⟩]) 4 0 rfl rfl rfl<|RunC.ret ?_
    have hq := oI h
    obtain ⟨hq0, hq⟩ := Prod.mk.inj hq
    subst q0
    subst q1
    exact yB (tup [oref 0 1 0 (([] : List F).length), b false]) [(0, 1)] (Res.eq (Res.two rfl (RV.tmp rfl) (RV.tmp rfl)) (by rw [(show ([] : List F).length = 0 from rfl)] <;> rfl)) (SelL.arr0 (f := f32) (fun _ => rfl) rfl trivial)
   ·refine yW<|yd rfl (b true) (TOp.eqb (TOp.callB (CallAs.func ent59 rfl rfl) (Bors.cons (Bor.ptr (bP (bP (bS bN)))) bN) rfl rfl (s_l02Is_ok a0 a1 a2 r1 hf1)) hc2)<|yl rfl (b false) y1<|ym rfl (b false)<|ym rfl (sFc a3)<|yd rfl (b true) (TOp.eqb (yc ent73 rfl rfl (bS bN) (s_l02Vector_ok a3 r2 hf3)) hc4)<|yl rfl (b false) y1<|yl rfl (b false) yp<|ym rfl (b false)<|ym rfl (sFc a3)<|yl rfl (i64 (a3.length : Int)) (LOp.len_sl und25 rfl rfl)<|yl rfl (ptr [i64 a1, (sFc a2)]) (LOp.fap und27 rfl siz2 rfl rfl rfl)<|yl rfl (i64 a1) (y2 agg2)<|yl rfl (b false) (LOp.eqb (LOp.neq rfl rfl rfl) hc5)<|yl rfl (b false) yp<|zN ?_
    refine RunC.wl (τ' := [(1, (sFc a3)), (2, ptr (mXc a0 a1 a2)), (19, b false)]) (Γ' := [⟨0, none⟩, ⟨0, none⟩]) ⟨aR, aR, aR, trivial⟩ ⟨⟨rfl, .inr rfl⟩, ⟨rfl, .inr rfl⟩, trivial⟩<|yF<|RunC.skip<|yS ?_
    obtain ⟨r3, hf6, h⟩ := oS h
    obtain ⟨z1, hf7, h⟩ := oS h
    rcases z1 with z1 | z1
    ·replace h := (osum_inl _ _ _).symm.trans h
     obtain ⟨r4, r5, hz2, h⟩ := obind2_some h
     cases hz2
     obtain ⟨hn8, h⟩ := need_some h
     refine yW<|ym rfl (sFc a3)<|ye rfl (oref 0 1 0 r3.length) [⟨1, some (r3.map f32)⟩, ⟨0, none⟩] (TOp.callBN (ls := [(r3.map f32)]) [0] (CallAs.func ent75 rfl rfl) (Bors.cons (Bor.ptr (bP (bP (bS bN)))) (bS bN)) rfl (s_l02Times_ok a0 a1 a2 a3 r3 hf6) (and_all (lts0_map (f := f32) (fun _ => rfl) _) rfl) (and_all (noss_map (f := f32) (fun _ => rfl) _) rfl) rfl (by decide) (ns_of ⟨⟨_, rfl⟩, trivial⟩))<|ROps.callO (A := [oref 0 1 0 r3.length]) (args := [oref 0 0 0 r3.length]) (Γc := [⟨0, some (r3.map f32)⟩]) (Γc' := [⟨0, some (r5.map f32)⟩]) (r' := tup [oref 0 1 0 r3.length, b r4]) (Γ' := [⟨1, some (r5.map f32)⟩, ⟨0, none⟩]) [(0, 1)] [] rfl (CallAs.func ent74 rfl rfl) rfl rfl (SelOk.of (ndB_ok rfl) (SelL.arr0 (f := f32) (fun _ => rfl) rfl trivial)) (live_of ⟨⟨_, _, rfl⟩, trivial⟩) (by simp [ren, rens, sigma, rens_f32, rens_f64, rens_i64, rens_ik, rens_str, rens_cp]) rfl (s_l02List_0o_ok0 r3 r4 r5 hf7) rfl (news_of trivial) (ndB_ok rfl) (by simp [ren, rens, sigma, of_decide_eq_true hn8]) (by simp [backOb, sigma, ren, rens, rens_f32, rens_f64, rens_i64, rens_ik, rens_str, rens_cp])<|yl rfl (oref 0 1 0 r3.length) y3<|yl rfl (b r4) y3<|ya rfl (oref 0 1 0 r3.length)<|ya rfl (b r4)<|zN ?_
     refine RunC.ret ?_
     have hq := oI h
     obtain ⟨hq0, hq⟩ := Prod.mk.inj hq
     subst q0
     subst q1
     exact yB (tup [oref 0 1 0 r5.length, b r4]) [(0, 1)] (Res.eq (Res.two rfl (RV.tmp rfl) (RV.tmp rfl)) (by rw [(show r5.length = r3.length from (of_decide_eq_true hn8))] <;> rfl)) (SelL.arr0 (f := f32) (fun _ => rfl) rfl trivial)
    ·replace h := (osum_inr _ _ _).symm.trans h
     obtain ⟨r6, r7, r8, hz3, h⟩ := obind3_some h
     cases hz3
     obtain ⟨hn9, h⟩ := need_some h
     refine yW<|ym rfl (sFc a3)<|ye rfl (oref 0 1 0 r3.length) [⟨1, some (r3.map f32)⟩, ⟨0, none⟩] (TOp.callBN (ls := [(r3.map f32)]) [0] (CallAs.func ent75 rfl rfl) (Bors.cons (Bor.ptr (bP (bP (bS bN)))) (bS bN)) rfl (s_l02Times_ok a0 a1 a2 a3 r3 hf6) (and_all (lts0_map (f := f32) (fun _ => rfl) _) rfl) (and_all (noss_map (f := f32) (fun _ => rfl) _) rfl) rfl (by decide) (ns_of ⟨⟨_, rfl⟩, trivial⟩))<|ROps.callO (A := [oref 0 1 0 r3.length]) (args := [oref 0 0 0 r3.length]) (Γc := [⟨0, some (r3.map f32)⟩]) (Γc' := [⟨0, some (r7.map f32)⟩, ⟨0, some (r8.map f32)⟩]) (r' := tup [oref 1 1 0 r8.length, b r6]) (Γ' := [⟨1, some (r7.map f32)⟩, ⟨1, some (r8.map f32)⟩]) [(0, 1)] [(1, 1)] rfl (CallAs.func ent74 rfl rfl) rfl rfl (SelOk.of (ndB_ok rfl) (SelL.arr0 (f := f32) (fun _ => rfl) rfl trivial)) (live_of ⟨⟨_, _, rfl⟩, trivial⟩) (by simp [ren, rens, sigma, rens_f32, rens_f64, rens_i64, rens_ik, rens_str, rens_cp]) rfl (s_l02List_0o_ok1 r3 r6 r7 r8 hf7) rfl (news_of ⟨⟨_, rfl, rfl⟩, trivial⟩) (show List.Nodup [0, 1] from by decide) (by simp [ren, rens, sigma, of_decide_eq_true hn9]) (by simp [backOb, sigma, ren, rens, rens_f32, rens_f64, rens_i64, rens_ik, rens_str, rens_cp])<|yl rfl (oref 1 1 0 r8.length) y3<|yl rfl (b r6) y3<|ya rfl (oref 1 1 0 r8.length)<|ya rfl (b r6)<|zN ?_
     refine RunC.ret ?_
     have hq := oI h
     obtain ⟨hq0, hq⟩ := Prod.mk.inj hq
     subst q0
     subst q1
     exact yB (tup [oref 1 1 0 r8.length, b r6]) [(1, 1)] (Res.two rfl (RV.tmp rfl) (RV.tmp rfl)) (SelL.arr0 (f := f32) (fun _ => rfl) rfl trivial)
  ·refine yW<|yd rfl (b true) (TOp.eqb (TOp.callB (CallAs.func ent59 rfl rfl) (Bors.cons (Bor.ptr (bP (bP (bS bN)))) bN) rfl rfl (s_l02Is_ok a0 a1 a2 r1 hf1)) hc2)<|yl rfl (b false) y1<|ym rfl (b false)<|ym rfl (sFc a3)<|yd rfl (b false) (TOp.eqb (yc ent73 rfl rfl (bS bN) (s_l02Vector_ok a3 r2 hf3)) hc4)<|yl rfl (b true) y0<|yl rfl (b true) yp<|ym rfl (b true)<|ROps.s rfl rfl rfl<|ROps.s rfl rfl rfl<|ROps.s rfl rfl rfl<|ROps.s rfl rfl rfl<|ROps.s rfl rfl rfl<|yl rfl (b true) yq<|zN ?_
   refine RunC.wl (τ' := [(1, (sFc a3)), (2, ptr (mXc a0 a1 a2)), (19, b true)]) (Γ' := [⟨0, none⟩, ⟨0, none⟩]) ⟨aR, aR, aR, trivial⟩ ⟨⟨rfl, .inr rfl⟩, ⟨rfl, .inr rfl⟩, trivial⟩<|yT<|zQ<|ya rfl nilsl<|ya rfl (b false)<|zN ?_
   refine RunC.nil_slot (Γ' := [⟨1, some (([] : List F).map f32)⟩, ⟨0, none⟩]) 4 0 rfl rfl rfl<|RunC.ret ?_
   have hq := oI h
   obtain ⟨hq0, hq⟩ := Prod.mk.inj hq
   subst q0
   subst q1
   exact yB (tup [oref 0 1 0 (([] : List F).length), b false]) [(0, 1)] (Res.eq (Res.two rfl (RV.tmp rfl) (RV.tmp rfl)) (by rw [(show ([] : List F).length = 0 from rfl)] <;> rfl)) (SelL.arr0 (f := f32) (fun _ => rfl) rfl trivial)
 ·refine yW<|yd rfl (b false) (TOp.eqb (TOp.callB (CallAs.func ent59 rfl rfl) (Bors.cons (Bor.ptr (bP (bP (bS bN)))) bN) rfl rfl (s_l02Is_ok a0 a1 a2 r1 hf1)) hc2)<|yl rfl (b true) y0<|ym rfl (b true)<|ROps.s rfl rfl rfl<|ROps.s rfl rfl rfl<|ROps.s rfl rfl rfl<|yl rfl (b true) yq<|ym rfl (b true)<|ROps.s rfl rfl rfl<|ROps.s rfl rfl rfl<|ROps.s rfl rfl rfl<|ROps.s rfl rfl rfl<|ROps.s rfl rfl rfl<|yl rfl (b true) yq<|zN ?_
  refine RunC.wl (τ' := [(1, (sFc a3)), (2, ptr (mXc a0 a1 a2)), (19, b true)]) (Γ' := [⟨0, none⟩, ⟨0, none⟩]) ⟨aR, aR, aR, trivial⟩ ⟨⟨rfl, .inr rfl⟩, ⟨rfl, .inr rfl⟩, trivial⟩<|yT<|zQ<|ya rfl nilsl<|ya rfl (b false)<|zN ?_
  refine RunC.nil_slot (Γ' := [⟨1, some (([] : List F).map f32)⟩, ⟨0, none⟩]) 4 0 rfl rfl rfl<|RunC.ret ?_
  have hq := oI h
  obtain ⟨hq0, hq⟩ := Prod.mk.inj hq
  subst q0
  subst q1
  exact yB (tup [oref 0 1 0 (([] : List F).length), b false]) [(0, 1)] (Res.eq (Res.two rfl (RV.tmp rfl) (RV.tmp rfl)) (by rw [(show ([] : List F).length = 0 from rfl)] <;> rfl)) (SelL.arr0 (f := f32) (fun _ => rfl) rfl trivial)
def i_Matrix_clone (a0 : Int) (a1 : Int) (a2 : List F) : Option (Int × Int × (List F)) :=
 obind (x_slices_Clone_float32_float32 a2) fun (r1 : List F) =>
 some (a0, a1, r1)
theorem i_Matrix_clone_ok (a0 : Int) (a1 : Int) (a2 : List F) (q0 : Int) (q1 : Int) (q2 : List F) (h : i_Matrix_clone a0 a1 a2 = some (q0, q1, q2)) : Ev Tryz.prog 38 [agg (mXc a0 a1 a2)] [] (agg (oXc q0 q1 0 0 q2.length)) [⟨0, some (q2.map f32)⟩] := by
 refine yE Tryz.func38 2 23 0 [(0, agg (mXc a0 a1 a2))] [⟨0, none⟩, ⟨0, none⟩] rfl ?_
 unfold i_Matrix_clone at h
 refine zQ<|yd rfl (ptr (mXc a0 a1 a2)) (TOp.box_s rfl rfl rfl)<|ye rfl (optr 0 1 0) [⟨1, some zMx⟩, ⟨0, none⟩] (TOp.alloc_o (g := ⟨0, none⟩) 0 rfl zer27 zok27 rfl)<|zN ?_
 refine yS ?_
 obtain ⟨r1, hf1, h⟩ := oS h
 refine RunC.region_draw (Γ' := [⟨1, some zMx⟩, ⟨1, some (r1.map f32)⟩]) 8 mixed 
  (tl rfl (ptr (mXc a0 a1 a2)) (LOp.fap und27 rfl siz2 rfl rfl rfl) <|
  (tl rfl (i64 a0) (y2 agg2) <|
  (tl rfl (ptr [i64 a1, (sFc a2)]) (LOp.fap und27 rfl siz2 rfl rfl rfl) <|
  (tl rfl (i64 a1) (y2 agg2) <|
  (tl rfl (ptr [(sFc a2)]) (LOp.fap und27 rfl siz25 rfl rfl rfl) <|
  (tl rfl (sFc a2) (y2 agg25) <|
  (TR.d (r := oref 1 1 0 r1.length) (fs := [(1, (r1.map f32))]) rfl rfl (TOp.callBN (ls := [(r1.map f32)]) [1] (CallAs.func ent66 rfl rfl) (bS bN) rfl (x_slices_Clone_float32_float32_ok a2 r1 hf1) (and_all (lts0_map (f := f32) (fun _ => rfl) _) rfl) (and_all (noss_map (f := f32) (fun _ => rfl) _) rfl) rfl (by decide) (ns_of ⟨⟨_, rfl⟩, trivial⟩)) <|
  (tl rfl (agg (oXc a0 a1 1 1 r1.length)) (LOp.build (qs := [(0, [i64 a0]), (1, [i64 a1]), (2, [oref 1 1 0 r1.length])]) zer27 zok27 und27 plc27 rfl ⟨rfl, ⟨_, ALe.refl _, rfl⟩, ⟨rfl, ⟨_, ALe.refl _, rfl⟩, ⟨rfl, ⟨_, ALe.refl _, rfl⟩, trivial⟩⟩⟩ rfl) <|
  TR.nil)))))))) rfl (by kernel_rfl) rfl (fills_of (by show List.Nodup [1]; decide) ⟨⟨_, rfl⟩, trivial⟩) rfl ?_
 iterate 8 refine ROps.dropS ?_
 refine ROps.drop0<|ys (agg (oXc a0 a1 1 1 r1.length)) (oXc a0 a1 1 1 r1.length) [⟨1, some (oXc a0 a1 1 1 r1.length)⟩, ⟨1, some (r1.map f32)⟩] siz27<|zN ?_
 refine RunC.ret ?_
 have hq := oI h
 obtain ⟨hq0, hq⟩ := Prod.mk.inj hq
 obtain ⟨hq1, hq⟩ := Prod.mk.inj hq
 subst q0
 subst q1
 subst q2
 exact yB (agg (oXc a0 a1 1 1 r1.length)) [(1, 1)] (Res.one rfl (RV.cell agg27 siz27 rfl rfl rfl rfl)) (SelL.arr0 (f := f32) (fun _ => rfl) rfl trivial)
def i_newMatrix (a0 : Int) (a1 : Int) : Option (Int × Int × (List F)) :=
 olet (IntKind.i64.wrap (a0 * a1)) fun (x1 : Int) =>
 need (mkok 4 x1) <|
 some (a0, a1, (List.replicate x1.toNat (some 0)))
theorem i_newMatrix_ok (a0 : Int) (a1 : Int) (q0 : Int) (q1 : Int) (q2 : List F) (h : i_newMatrix a0 a1 = some (q0, q1, q2)) : Ev Tryz.prog 68 [i64 a0, i64 a1] [] (agg (oXc q0 q1 0 0 q2.length)) [⟨0, some (q2.map f32)⟩] := by
 refine yE Tryz.func68 2 25 0 [(0, i64 a0), (1, i64 a1)] [⟨0, none⟩, ⟨0, none⟩] rfl ?_
 unfold i_newMatrix at h
 refine zQ<|ye rfl (optr 0 1 0) [⟨1, some zMx⟩, ⟨0, none⟩] (TOp.alloc_o (g := ⟨0, none⟩) 0 rfl zer27 zok27 rfl)<|zN ?_
 refine yS ?_
 obtain ⟨x1, hx1, h⟩ := oL h
 obtain ⟨hm2, h⟩ := need_some h
 refine yW<|ym rfl (i64 a0)<|ym rfl (i64 a1)<|ym rfl (i64 a0)<|ym rfl (i64 a1)<|yl rfl (i64 x1) (LOp.eqr (LOp.mul rfl rfl rfl) (congrArg (ik .i64) hx1))<|ye rfl (oref 1 1 0 x1.toNat) [⟨1, some zMx⟩, ⟨1, some ((List.replicate x1.toNat (some 0)).map f32)⟩] (TOp.mkS (g := ⟨0, none⟩) (t := 25) (e := 41) (by_ := 4) (f := f32) (zv := some 0) 1 rfl und25 tin41 rfl siz41 zer41 rfl zel41 rfl rfl rfl hm2)<|yl rfl (agg [i64 a0, i64 a1, oref 1 1 0 x1.toNat]) (LOp.build (qs := [(0, [i64 a0]), (1, [i64 a1]), (2, [oref 1 1 0 x1.toNat])]) zer27 zok27 und27 plc27 rfl ⟨rfl, ⟨_, ALe.refl _, rfl⟩, ⟨rfl, ⟨_, ALe.refl _, rfl⟩, ⟨rfl, ⟨_, ALe.refl _, rfl⟩, trivial⟩⟩⟩ rfl)<|ys (agg [i64 a0, i64 a1, oref 1 1 0 x1.toNat]) [i64 a0, i64 a1, oref 1 1 0 x1.toNat] ([⟨1, some [i64 a0, i64 a1, oref 1 1 0 x1.toNat]⟩, ⟨1, some ((List.replicate x1.toNat (some 0)).map f32)⟩]) siz27<|zN ?_
 refine RunC.ret ?_
 have hq := oI h
 obtain ⟨hq0, hq⟩ := Prod.mk.inj hq
 obtain ⟨hq1, hq⟩ := Prod.mk.inj hq
 subst q0
 subst q1
 subst q2
 exact yB (agg [i64 a0, i64 a1, oref 1 1 0 ((List.replicate x1.toNat (some 0)).length)]) [(1, 1)] (Res.eq (Res.one rfl (RV.cell agg27 siz27 rfl rfl rfl rfl)) (by rw [(show (List.replicate x1.toNat (some 0)).length = x1.toNat from by simp)] <;> rfl)) (SelL.arr0 (f := f32) (fun _ => rfl) rfl trivial)
def i_absolute (a0 : F) : Option (F) :=
 olet (fwiden a0) fun (x1 : F) =>
 obind (x_math_Abs x1) fun (r2 : F) =>
 obind (fnarrow r2) fun (y3 : F) =>
 some y3
theorem i_absolute_ok (a0 : F) (q0 : F) (h : i_absolute a0 = some q0) : Ev Tryz.prog 40 [f32 a0] [] (f32 q0) [] := by
 refine yE Tryz.func40 0 15 0 [(0, f32 a0)] [] rfl ?_
 unfold i_absolute at h
 refine zQ<|yl rfl (f32 (some 0)) (LOp.le (LOp.assign rfl rfl) (ALe.fl (by kernel_rfl) (by kernel_rfl)))<|zN ?_
 refine yS ?_
 obtain ⟨x1, hx1, h⟩ := oL h
 obtain ⟨r2, hf2, h⟩ := oS h
 obtain ⟨y3, hy3, h⟩ := oS h
 refine yW<|ym rfl (f32 a0)<|yd rfl (f64 x1) (TOp.eqr (TOp.widen (src := 41) (dst := 48) ⟨_, pun41⟩ pun48 rfl (OpF.tmp rfl)) (congrArg (f .f64) hx1))<|yd rfl (f64 r2) (yc ent96 rfl rfl bN0 (x_math_Abs_ok x1 r2 hf2))<|yd rfl (f32 y3) (TOp.narrow (src := 48) (dst := 41) ⟨_, pun48⟩ pun41 rfl (OpF.tmp rfl) hy3)<|ya rfl (f32 y3)<|zN ?_
 refine RunC.ret ?_
 have hq := oI h
 subst q0
 exact bodyQ.pure (.inr rfl) rfl (Res.one rfl (RV.tmp rfl))
def i_Matrix_row (a0 : Int) (a1 : Int) (a2 : List F) (a3 : Int) : Option ((List F)) :=
 olet (IntKind.i64.wrap (a3 * a1)) fun (x1 : Int) =>
 olet (IntKind.i64.wrap (a3 + 1)) fun (x2 : Int) =>
 olet (IntKind.i64.wrap (x2 * a1)) fun (x3 : Int) =>
 obind (sub? a2 x1 x3) fun (l4 : List F) =>
 obind (x_slices_Clone_float32_float32 l4) fun (r5 : List F) =>
 some r5
theorem i_Matrix_row_ok (a0 : Int) (a1 : Int) (a2 : List F) (a3 : Int) (q0 : List F) (h : i_Matrix_row a0 a1 a2 a3 = some q0) : Ev Tryz.prog 94 [agg (mXc a0 a1 a2), i64 a3] [] (oref 0 0 0 q0.length) [⟨0, some (q0.map f32)⟩] := by
 refine yE Tryz.func94 1 37 0 [(0, agg (mXc a0 a1 a2)), (1, i64 a3)] [⟨0, none⟩] rfl ?_
 unfold i_Matrix_row at h
 refine zQ<|yd rfl (ptr (mXc a0 a1 a2)) (TOp.box_s rfl rfl rfl)<|ya rfl nilsl<|zN ?_
 refine yS ?_
 obtain ⟨x1, hx1, h⟩ := oL h
 obtain ⟨x2, hx2, h⟩ := oL h
 obtain ⟨x3, hx3, h⟩ := oL h
 obtain ⟨l4, hs4, h⟩ := oS h
 obtain ⟨r5, hf5, h⟩ := oS h
 refine yW<|yl rfl (ptr [(sFc a2)]) (LOp.fap und27 rfl siz25 rfl rfl rfl)<|yl rfl (sFc a2) (y2 agg25)<|ym rfl (i64 a3)<|yl rfl (ptr [i64 a1, (sFc a2)]) (LOp.fap und27 rfl siz2 rfl rfl rfl)<|yl rfl (i64 a1) (y2 agg2)<|yl rfl (i64 x1) (LOp.eqr (LOp.mul rfl rfl rfl) (congrArg (ik .i64) hx1))<|ym rfl (i64 a3)<|yl rfl (i64 x2) (LOp.eqr (LOp.add rfl rfl rfl) (congrArg (ik .i64) hx2))<|yl rfl (ptr [i64 a1, (sFc a2)]) (LOp.fap und27 rfl siz2 rfl rfl rfl)<|yl rfl (i64 a1) (y2 agg2)<|yl rfl (i64 x3) (LOp.eqr (LOp.mul rfl rfl rfl) (congrArg (ik .i64) hx3))<|yl rfl (sFc l4) (LOp.slice_sl (f := f32) und25 siz41 rfl rfl rfl rfl rfl hs4)<|ye rfl (oref 0 1 0 r5.length) [⟨1, some (r5.map f32)⟩] (TOp.callBN (ls := [(r5.map f32)]) [0] (CallAs.func ent66 rfl rfl) (bS bN) rfl (x_slices_Clone_float32_float32_ok l4 r5 hf5) (and_all (lts0_map (f := f32) (fun _ => rfl) _) rfl) (and_all (noss_map (f := f32) (fun _ => rfl) _) rfl) rfl (by decide) (ns_of ⟨⟨_, rfl⟩, trivial⟩))<|ya rfl (oref 0 1 0 r5.length)<|zN ?_
 refine RunC.ret ?_
 have hq := oI h
 subst q0
 exact yB (oref 0 1 0 r5.length) [(0, 1)] (Res.one rfl (RV.tmp rfl)) (SelL.arr0 (f := f32) (fun _ => rfl) rfl trivial)
def i_Matrix_column_b1 (a0 : Int) (a1 : Int) (a2 : List F) (a3 : Int) (L3 : List F) (v4 : Int) : Option (LR ((List F) × Int) ((List F)) ((List F))) :=
 bsel (decide (v4 < a0)) (
  obind (i_Matrix_at a0 a1 a2 v4 a3) fun (r5 : F) =>
  need (apok 4 L3.length 1) <|
  olet (IntKind.i64.wrap (v4 + 1)) fun (x6 : Int) =>
  some (LR.next ((L3 ++ ([r5] : List F)), x6))) (
  some (LR.out L3))
def i_Matrix_column_s1 (a0 : Int) (a1 : Int) (a2 : List F) (a3 : Int) : ((List F) × Int) → Option (LR ((List F) × Int) ((List F)) ((List F))) := fun s => i_Matrix_column_b1 a0 a1 a2 a3 s.1 s.2
def i_Matrix_column_k1 (L9 : List F) : Option ((List F)) :=
 some L9
def i_Matrix_column (a0 : Int) (a1 : Int) (a2 : List F) (a3 : Int) : Option ((List F)) :=
 obind (loopM (i_Matrix_column_s1 a0 a1 a2 a3) (([] : List F), 0)) fun z => osum z (fun e => i_Matrix_column_k1 e) (fun r => some r)
theorem i_Matrix_column_ok (a0 : Int) (a1 : Int) (a2 : List F) (a3 : Int) (q0 : List F) (h : i_Matrix_column a0 a1 a2 a3 = some q0) : Ev Tryz.prog 71 [agg (mXc a0 a1 a2), i64 a3] [] (oref 0 0 0 q0.length) [⟨0, some (q0.map f32)⟩] := by
 refine yE Tryz.func71 2 45 0 [(0, agg (mXc a0 a1 a2)), (1, i64 a3)] [⟨0, none⟩, ⟨0, none⟩] rfl ?_
 unfold i_Matrix_column at h
 refine zQ<|yd rfl (ptr (mXc a0 a1 a2)) (TOp.box_s rfl rfl rfl)<|ya rfl nilsl<|zN ?_
 refine zQ<|ye rfl (oref 0 1 0 0) ([⟨1, some (([] : List F).map f32)⟩, ⟨0, none⟩]) (TOp.buildSlice_o (g := ⟨0, none⟩) (za := f32 (some 0)) (qs := []) 0 rfl und25 siz41 zer41 rfl zel41 rfl rfl trivial rfl)<|ya rfl (oref 0 1 0 0)<|zN ?_
 refine yS<|zQ<|yl rfl (ptr (mXc a0 a1 a2)) (LOp.fap und27 rfl siz2 rfl rfl rfl)<|yl rfl (i64 a0) (y2 agg2)<|ym rfl (i64 0)<|zN ?_
 obtain ⟨z2, hz_2, h⟩ := oS h
 refine RunC.cutN (fun τ Γ => ∃ (L9 : List F) (u7 : Nat) (u8 : Nat), WeakLe τ [(5, oref 0 u7 0 L9.length)] ∧ DeadLe Γ [⟨u7, some (L9.map f32)⟩, ⟨u8, none⟩] ∧ z2 = .inl L9) ?_ ?_
 ·refine RunC.block (RunC.loop (RunL.loopM (x := z2) (i_Matrix_column_s1 a0 a1 a2 a3) (fun (s : (List F) × Int) τ Γ => ∃ (u1 : Nat) (u2 : Nat), WeakLe τ [(1, i64 a3), (2, ptr (mXc a0 a1 a2)), (5, oref 0 u1 0 s.1.length), (9, i64 a0), (10, i64 s.2)] ∧ DeadLe Γ [⟨u1, some (s.1.map f32)⟩, ⟨u2, none⟩]) ?_ _ _ _ hz_2 ⟨1, 0, ⟨aR, aR, aR, aR, aR, trivial⟩, ⟨⟨rfl, .inr rfl⟩, ⟨rfl, .inl rfl⟩, trivial⟩⟩))
  rintro ⟨L3, v4⟩ τ2 Γ2 y2_ ⟨u1, u2, hw2, hd2⟩ h2_ ho2 hr2
  refine RunC.wl (τ' := [(1, i64 a3), (2, ptr (mXc a0 a1 a2)), (5, oref 0 u1 0 L3.length), (9, i64 a0), (10, i64 v4)]) (Γ' := [⟨u1, some (L3.map f32)⟩, ⟨u2, none⟩]) hw2 hd2 ?_
  replace h2_ : i_Matrix_column_b1 a0 a1 a2 a3 L3 v4 = some y2_ := h2_
  unfold i_Matrix_column_b1 at h2_
  refine yS ?_
  rcases oB h2_ with ⟨hc1, h2_⟩ | ⟨hc1, h2_⟩
  ·refine yW<|yl rfl (b true) (LOp.eqb (LOp.lss rfl rfl rfl) hc1)<|zN ?_
   refine yS<|yT<|RunC.skip<|yS<|RunC.block<|zQ<|ym rfl (i64 v4)<|ya rfl (i64 v4)<|zN ?_
   obtain ⟨r5, hf2, h2_⟩ := oS h2_
   obtain ⟨hm3, h2_⟩ := need_some h2_
   refine yW<|ym rfl (oref 0 u1 0 L3.length)<|yl rfl (agg (mXc a0 a1 a2)) (yL agg27 siz27)<|ym rfl (i64 v4)<|ym rfl (i64 a3)<|yd rfl (f32 r5) (TOp.callB (CallAs.func ent41 rfl rfl) (Bors.cons (Bor.agg (bP (bP (bS bN)))) (bP bN0)) rfl rfl (i_Matrix_at_ok a0 a1 a2 v4 a3 r5 hf2))<|ye rfl (oref 1 (u2 + 1) 0 1) ([⟨u1, some (L3.map f32)⟩, ⟨(u2 + 1), some (([r5] : List F).map f32)⟩]) (TOp.buildSlice_o (g := ⟨u2, none⟩) (za := f32 (some 0)) (qs := [(0, [f32 r5])]) 1 rfl und25 siz41 zer41 rfl zel41 rfl rfl ⟨rfl, ⟨_, ALe.refl _, rfl⟩, trivial⟩ rfl)<|ROps.app (f := f32) (xs := L3) (ys := ([r5] : List F)) (Γ' := [⟨(u1 + 1), some ((L3 ++ ([r5] : List F)).map f32)⟩, ⟨(u2 + 1), some (([r5] : List F).map f32)⟩]) rfl pun25 inf41 rfl rfl rfl rfl rfl rfl rfl rfl rfl (by simp) (ReadAs.own rfl (by simp)) (ones_map (fun _ => rfl)) (ap_by hm3) (ap_mx hm3) rfl<|ya rfl (oref 0 (u1 + 1) 0 (L3.length + 1))<|zN ?_
   refine RunC.wl (τ' := [(1, i64 a3), (2, ptr (mXc a0 a1 a2)), (5, oref 0 (u1 + 1) 0 (L3.length + 1)), (9, i64 a0), (10, i64 v4)]) (Γ' := [⟨(u1 + 1), some ((L3 ++ ([r5] : List F)).map f32)⟩, ⟨(u2 + 1), none⟩]) ⟨aR, aR, aR, aR, aR, trivial⟩ ⟨⟨rfl, .inr rfl⟩, ⟨rfl, .inl rfl⟩, trivial⟩ ?_
   obtain ⟨x6, hx4, h2_⟩ := oL h2_
   refine yW<|yl rfl (i64 x6) (LOp.eqr (LOp.add rfl rfl rfl) (congrArg (ik .i64) hx4))<|ym rfl (i64 x6)<|zN ?_
   cases oI h2_
   exact ⟨_, rfl, (u1 + 1), (u2 + 1), ⟨aR, aR, (ALe.eq (by rw [(app_len rfl rfl)] <;> rfl)), aR, aR, trivial⟩, ⟨⟨rfl, .inr rfl⟩, ⟨rfl, .inl rfl⟩, trivial⟩⟩
  ·refine yW<|yl rfl (b false) (LOp.eqb (LOp.lss rfl rfl rfl) hc1)<|zN ?_
   refine yS<|yF<|RunC.exit ?_
   cases oI h2_
   have hx := ho2 _ rfl
   exact ⟨L3, u1, u2, ⟨aR, trivial⟩, ⟨⟨rfl, .inr rfl⟩, ⟨rfl, .inl rfl⟩, trivial⟩, hx⟩
 ·rintro τ3 Γ3 ⟨L9, u7, u8, hw3, hd3, rfl⟩
  refine RunC.wl hw3 hd3 ?_
  replace h : i_Matrix_column_k1 L9 = some q0 := h
  unfold i_Matrix_column_k1 at h
  refine zQ<|ym rfl (oref 0 u7 0 L9.length)<|ya rfl (oref 0 u7 0 L9.length)<|zN ?_
  refine RunC.ret ?_
  have hq := oI h
  subst q0
  exact bodyQ.mk (r' := oref 0 u7 0 L9.length) [(0, u7)] (.inr rfl) rfl (ndB_ok rfl) (by simp [ren, rens, sigma]) rfl (Res.one rfl (RV.tmp rfl)) (SelL.arr0 (f := f32) (fun _ => rfl) rfl trivial)
def i_CrossOf_k6 (v23 : Int) (v30 : Int) (v31 : Int) : Option (LR (Int × Int × Int) (Int × Int) (Int × Int × Bool × (List F) × (List Int) × (List Int))) :=
 olet (IntKind.i64.wrap (v23 + 1)) fun (x34 : Int) =>
 some (LR.next (v30, v31, x34))
def i_CrossOf_b7 (r4 : Int) (r5 : Int) (r6 : List F) (L14 : List F) (v21 : Int) (v22 : Int) (v23 : Int) : Option (LR (Int × Int × Int) (Int × Int) (Int × Int × Bool × (List F) × (List Int) × (List Int))) :=
 bsel (decide (v23 < ((r6.length : Nat) : Int))) (
  obind (at? L14 v23) fun (e24 : F) =>
  obind (i_absolute e24) fun (r25 : F) =>
  obind (i_Matrix_at r4 r5 L14 v21 v22) fun (r26 : F) =>
  obind (i_absolute r26) fun (r27 : F) =>
  bsel (flt .f32 r27 r25) (
   need (!decide (r5 = 0)) <|
   olet (IntKind.i64.wrap (v23.tdiv r5)) fun (x28 : Int) =>
   need (!decide (r5 = 0)) <|
   olet (v23.tmod r5) fun (x29 : Int) =>
   i_CrossOf_k6 v23 x28 x29) (
   i_CrossOf_k6 v23 v21 v22)) (
  some (LR.out (v21, v22)))
def i_CrossOf_s7 (r4 : Int) (r5 : Int) (r6 : List F) (L14 : List F) : (Int × Int × Int) → Option (LR (Int × Int × Int) (Int × Int) (Int × Int × Bool × (List F) × (List Int) × (List Int))) := fun s => i_CrossOf_b7 r4 r5 r6 L14 s.1 s.2.1 s.2.2
def i_CrossOf_b8 (r5 : Int) (r6 : List F) (r39 : F) (r41 : List F) (r42 : List F) (L43 : List F) (L45 : List F) (v47 : Int) : Option (LR ((List F) × (List F) × Int) ((List F) × (List F)) (Int × Int × Bool × (List F) × (List Int) × (List Int))) :=
 bsel (decide (v47 < ((r6.length : Nat) : Int))) (
  need (!decide (r5 = 0)) <|
  olet (IntKind.i64.wrap (v47.tdiv r5)) fun (x48 : Int) =>
  obind (at? r42 x48) fun (e49 : F) =>
  olet (fop .quo .f32 e49 r39) fun (x50 : F) =>
  need (!decide (r5 = 0)) <|
  olet (v47.tmod r5) fun (x51 : Int) =>
  obind (at? r41 x51) fun (e52 : F) =>
  obind (i_mul x50 e52) fun (r53 : F) =>
  obind (at? L45 v47) fun (e54 : F) =>
  olet (fop .add .f32 e54 r53) fun (x55 : F) =>
  obind (setAt? L45 v47 x55) fun (L56 : List F) =>
  obind (at? L43 v47) fun (e57 : F) =>
  olet (fop .sub .f32 e57 r53) fun (x58 : F) =>
  obind (setAt? L43 v47 x58) fun (L59 : List F) =>
  olet (IntKind.i64.wrap (v47 + 1)) fun (x60 : Int) =>
  some (LR.next (L59, L56, x60))) (
  some (LR.out (L43, L45)))
def i_CrossOf_s8 (r5 : Int) (r6 : List F) (r39 : F) (r41 : List F) (r42 : List F) : ((List F) × (List F) × Int) → Option (LR ((List F) × (List F) × Int) ((List F) × (List F)) (Int × Int × Bool × (List F) × (List Int) × (List Int))) := fun s => i_CrossOf_b8 r5 r6 r39 r41 r42 s.1 s.2.1 s.2.2
def i_CrossOf_k8 (r4 : Int) (r5 : Int) (r7 : Int) (r8 : Int) (L18 : List Int) (L19 : List Int) (v20 : Int) (v37 : Int) (v38 : Int) (L61 : List F) (L63 : List F) : Option (LR ((List F) × (List F) × (List Int) × (List Int) × Int) ((List F) × (List Int) × (List Int)) (Int × Int × Bool × (List F) × (List Int) × (List Int))) :=
 obind (i_ValidMatrix r7 r8 L63) fun (r65 : Bool) =>
 bsel r65 (
  obind (i_ValidMatrix r4 r5 L61) fun (r66 : Bool) =>
  bsel r66 (
   need (apok 8 L18.length 1) <|
   need (apok 8 L19.length 1) <|
   olet (IntKind.i64.wrap (v20 + 1)) fun (x67 : Int) =>
   some (LR.next (L61, L63, (L18 ++ ([v37] : List Int)), (L19 ++ ([v38] : List Int)), x67))) (
   some (LR.ret (0, 0, false, ([] : List F), ([] : List Int), ([] : List Int))))) (
  some (LR.ret (0, 0, false, ([] : List F), ([] : List Int), ([] : List Int))))
def i_CrossOf_k7 (a3 : F) (r4 : Int) (r5 : Int) (r6 : List F) (r7 : Int) (r8 : Int) (L14 : List F) (L16 : List F) (L18 : List Int) (L19 : List Int) (v20 : Int) (v37 : Int) (v38 : Int) : Option (LR ((List F) × (List F) × (List Int) × (List Int) × Int) ((List F) × (List Int) × (List Int)) (Int × Int × Bool × (List F) × (List Int) × (List Int))) :=
 obind (i_Matrix_at r4 r5 L14 v37 v38) fun (r39 : F) =>
 obind (i_absolute r39) fun (r40 : F) =>
 bsel (fle .f32 r40 a3) (
  some (LR.out (L16, L18, L19))) (
  obind (i_Matrix_row r4 r5 L14 v37) fun (r41 : List F) =>
  obind (i_Matrix_column r4 r5 L14 v38) fun (r42 : List F) =>
  obind (loopM (i_CrossOf_s8 r5 r6 r39 r41 r42) (L14, L16, 0)) fun z => osum z (fun e => i_CrossOf_k8 r4 r5 r7 r8 L18 L19 v20 v37 v38 e.1 e.2) (fun r => some (LR.ret r)))
def i_CrossOf_b9 (a3 : F) (a4 : Int) (r4 : Int) (r5 : Int) (r6 : List F) (r7 : Int) (r8 : Int) (L14 : List F) (L16 : List F) (L18 : List Int) (L19 : List Int) (v20 : Int) : Option (LR ((List F) × (List F) × (List Int) × (List Int) × Int) ((List F) × (List Int) × (List Int)) (Int × Int × Bool × (List F) × (List Int) × (List Int))) :=
 bsel (decide (v20 < a4)) (
  obind (loopM (i_CrossOf_s7 r4 r5 r6 L14) (0, 0, 0)) fun z => osum z (fun e => i_CrossOf_k7 a3 r4 r5 r6 r7 r8 L14 L16 L18 L19 v20 e.1 e.2) (fun r => some (LR.ret r))) (
  some (LR.out (L16, L18, L19)))
def i_CrossOf_s9 (a3 : F) (a4 : Int) (r4 : Int) (r5 : Int) (r6 : List F) (r7 : Int) (r8 : Int) : ((List F) × (List F) × (List Int) × (List Int) × Int) → Option (LR ((List F) × (List F) × (List Int) × (List Int) × Int) ((List F) × (List Int) × (List Int)) (Int × Int × Bool × (List F) × (List Int) × (List Int))) := fun s => i_CrossOf_b9 a3 a4 r4 r5 r6 r7 r8 s.1 s.2.1 s.2.2.1 s.2.2.2.1 s.2.2.2.2
def i_CrossOf_k9 (r7 : Int) (r8 : Int) (L72 : List F) (L74 : List Int) (L75 : List Int) : Option (Int × Int × Bool × (List F) × (List Int) × (List Int)) :=
 some (r7, r8, true, L72, L74, L75)
def i_CrossOf (a0 : Int) (a1 : Int) (a2 : List F) (a3 : F) (a4 : Int) : Option (Int × Int × Bool × (List F) × (List Int) × (List Int)) :=
 obind (i_ValidMatrix a0 a1 a2) fun (r1 : Bool) =>
 bsel r1 (
  obind (i_IsFinite a3) fun (r2 : Bool) =>
  bsel r2 (
   bsel (flt .f32 a3 (some 0)) (
    some (0, 0, false, ([] : List F), ([] : List Int), ([] : List Int))) (
    obind (i_isSide a4) fun (r3 : Bool) =>
    bsel r3 (
     obind3 (i_Matrix_clone a0 a1 a2) fun (r4 : Int) (r5 : Int) (r6 : List F) =>
     obind3 (i_newMatrix a0 a1) fun (r7 : Int) (r8 : Int) (r9 : List F) =>
     obind (loopM (i_CrossOf_s9 a3 a4 r4 r5 r6 r7 r8) (r6, r9, ([] : List Int), ([] : List Int), 0)) fun z => osum z (fun e => i_CrossOf_k9 r7 r8 e.1 e.2.1 e.2.2) (fun r => some r)) (
     some (0, 0, false, ([] : List F), ([] : List Int), ([] : List Int))))) (
   some (0, 0, false, ([] : List F), ([] : List Int), ([] : List Int)))) (
  some (0, 0, false, ([] : List F), ([] : List Int), ([] : List Int)))
theorem i_CrossOf_ok (a0 : Int) (a1 : Int) (a2 : List F) (a3 : F) (a4 : Int) (q0 : Int) (q1 : Int) (q2 : Bool) (q3 : List F) (q4 : List Int) (q5 : List Int) (h : i_CrossOf a0 a1 a2 a3 a4 = some (q0, q1, q2, q3, q4, q5)) : Ev Tryz.prog 33 [agg (mXc a0 a1 a2), f32 a3, i64 a4] [] (tup [agg (oXc q0 q1 0 0 q3.length), oref 1 0 0 q4.length, oref 2 0 0 q5.length, b q2]) [⟨0, some (q3.map f32)⟩, ⟨0, some (q4.map i64)⟩, ⟨0, some (q5.map i64)⟩] := by
 refine yE Tryz.func33 10 307 0 [(0, agg (mXc a0 a1 a2)), (1, f32 a3), (2, i64 a4)] [⟨0, none⟩, ⟨0, none⟩, ⟨0, none⟩, ⟨0, none⟩, ⟨0, none⟩, ⟨0, none⟩, ⟨0, none⟩, ⟨0, none⟩, ⟨0, none⟩, ⟨0, none⟩] rfl ?_
 unfold i_CrossOf at h
 refine zQ<|yd rfl (ptr (mXc a0 a1 a2)) (TOp.box_s rfl rfl rfl)<|ye rfl (optr 0 1 0) [⟨1, some zMx⟩, ⟨0, none⟩, ⟨0, none⟩, ⟨0, none⟩, ⟨0, none⟩, ⟨0, none⟩, ⟨0, none⟩, ⟨0, none⟩, ⟨0, none⟩, ⟨0, none⟩] (TOp.alloc_o (g := ⟨0, none⟩) 0 rfl zer27 zok27 rfl)<|ya rfl nilsl<|ya rfl nilsl<|ya rfl (b false)<|zN ?_
 refine yS<|yS ?_
 obtain ⟨r1, hf1, h⟩ := oS h
 rcases oB h with ⟨hc2, h⟩ | ⟨hc2, h⟩
 ·obtain ⟨r2, hf3, h⟩ := oS h
  rcases oB h with ⟨hc4, h⟩ | ⟨hc4, h⟩
  ·rcases oB h with ⟨hc5, h⟩ | ⟨hc5, h⟩
   ·refine yW<|yl rfl (agg (mXc a0 a1 a2)) (yL agg27 siz27)<|yd rfl (b true) (TOp.eqb (TOp.callB (CallAs.func ent45 rfl rfl) (Bors.cons (Bor.agg (bP (bP (bS bN)))) bN) rfl rfl (i_ValidMatrix_ok a0 a1 a2 r1 hf1)) hc2)<|yl rfl (b false) y1<|ym rfl (b false)<|ym rfl (f32 a3)<|yd rfl (b true) (TOp.eqb (yc ent82 rfl rfl bN0 (i_IsFinite_ok a3 r2 hf3)) hc4)<|yl rfl (b false) y1<|yl rfl (b false) yp<|ym rfl (b false)<|ym rfl (f32 a3)<|yl rfl (b true) (LOp.eqb (LOp.flt rfl (OpF.tmp rfl) (OpF.const rfl (by kernel_rfl) (by kernel_rfl))) hc5)<|yl rfl (b true) yp<|ym rfl (b true)<|ROps.s rfl rfl rfl<|ROps.s rfl rfl rfl<|ROps.s rfl rfl rfl<|yl rfl (b true) yq<|zN ?_
    refine RunC.wl (τ' := [(1, f32 a3), (2, i64 a4), (3, ptr (mXc a0 a1 a2)), (6, optr 0 1 0), (39, b true)]) (Γ' := [⟨1, some zMx⟩, ⟨0, none⟩, ⟨0, none⟩, ⟨0, none⟩, ⟨0, none⟩, ⟨0, none⟩, ⟨0, none⟩, ⟨0, none⟩, ⟨0, none⟩, ⟨0, none⟩]) ⟨aR, aR, aR, aR, aR, trivial⟩ ⟨⟨rfl, .inr rfl⟩, ⟨rfl, .inr rfl⟩, ⟨rfl, .inr rfl⟩, ⟨rfl, .inr rfl⟩, ⟨rfl, .inr rfl⟩, ⟨rfl, .inr rfl⟩, ⟨rfl, .inr rfl⟩, ⟨rfl, .inr rfl⟩, ⟨rfl, .inr rfl⟩, ⟨rfl, .inr rfl⟩, trivial⟩<|yT<|zQ<|yl rfl (agg zMx) (LOp.build (qs := []) zer27 zok27 und27 plc27 rfl trivial rfl)<|ys (agg zMx) zMx [⟨1, some zMx⟩, ⟨0, none⟩, ⟨0, none⟩, ⟨0, none⟩, ⟨0, none⟩, ⟨0, none⟩, ⟨0, none⟩, ⟨0, none⟩, ⟨0, none⟩, ⟨0, none⟩] siz27<|ya rfl nilsl<|ya rfl nilsl<|ya rfl (b false)<|zN ?_
    refine RunC.nil_cell (l' := [i64 0, i64 0, oref 1 1 0 0]) (Γ' := [⟨1, some [i64 0, i64 0, oref 1 1 0 0]⟩, ⟨1, some (([] : List F).map f32)⟩, ⟨0, none⟩, ⟨0, none⟩, ⟨0, none⟩, ⟨0, none⟩, ⟨0, none⟩, ⟨0, none⟩, ⟨0, none⟩, ⟨0, none⟩]) 0 2 1 rfl rfl rfl rfl rfl<|RunC.nil_slot (Γ' := [⟨1, some [i64 0, i64 0, oref 1 1 0 0]⟩, ⟨1, some (([] : List F).map f32)⟩, ⟨1, some (([] : List Int).map i64)⟩, ⟨0, none⟩, ⟨0, none⟩, ⟨0, none⟩, ⟨0, none⟩, ⟨0, none⟩, ⟨0, none⟩, ⟨0, none⟩]) 7 2 rfl rfl rfl<|RunC.nil_slot (Γ' := [⟨1, some [i64 0, i64 0, oref 1 1 0 0]⟩, ⟨1, some (([] : List F).map f32)⟩, ⟨1, some (([] : List Int).map i64)⟩, ⟨1, some (([] : List Int).map i64)⟩, ⟨0, none⟩, ⟨0, none⟩, ⟨0, none⟩, ⟨0, none⟩, ⟨0, none⟩, ⟨0, none⟩]) 8 3 rfl rfl rfl<|RunC.ret ?_
    have hq := oI h
    obtain ⟨hq0, hq⟩ := Prod.mk.inj hq
    obtain ⟨hq1, hq⟩ := Prod.mk.inj hq
    obtain ⟨hq2, hq⟩ := Prod.mk.inj hq
    obtain ⟨hq3, hq⟩ := Prod.mk.inj hq
    obtain ⟨hq4, hq⟩ := Prod.mk.inj hq
    subst q0
    subst q1
    subst q2
    subst q3
    subst q4
    subst q5
    exact yB (tup [agg [i64 0, i64 0, oref 1 1 0 (([] : List F).length)], oref 2 1 0 (([] : List Int).length), oref 3 1 0 (([] : List Int).length), b false]) [(1, 1), (2, 1), (3, 1)] (Res.eq (Res.four rfl (RV.cell agg27 siz27 rfl rfl rfl rfl) (RV.tmp rfl) (RV.tmp rfl) (RV.tmp rfl)) (by rw [(show ([] : List F).length = 0 from rfl), (show ([] : List Int).length = 0 from rfl)] <;> rfl)) (SelL.arr0 (f := f32) (fun _ => rfl) rfl (SelL.arr0 (f := i64) (fun _ => rfl) rfl (SelL.arr0 (f := i64) (fun _ => rfl) rfl trivial)))
   ·obtain ⟨r3, hf6, h⟩ := oS h
    rcases oB h with ⟨hc7, h⟩ | ⟨hc7, h⟩
    ·refine yW<|yl rfl (agg (mXc a0 a1 a2)) (yL agg27 siz27)<|yd rfl (b true) (TOp.eqb (TOp.callB (CallAs.func ent45 rfl rfl) (Bors.cons (Bor.agg (bP (bP (bS bN)))) bN) rfl rfl (i_ValidMatrix_ok a0 a1 a2 r1 hf1)) hc2)<|yl rfl (b false) y1<|ym rfl (b false)<|ym rfl (f32 a3)<|yd rfl (b true) (TOp.eqb (yc ent82 rfl rfl bN0 (i_IsFinite_ok a3 r2 hf3)) hc4)<|yl rfl (b false) y1<|yl rfl (b false) yp<|ym rfl (b false)<|ym rfl (f32 a3)<|yl rfl (b false) (LOp.eqb (LOp.flt rfl (OpF.tmp rfl) (OpF.const rfl (by kernel_rfl) (by kernel_rfl))) hc5)<|yl rfl (b false) yp<|ym rfl (b false)<|ym rfl (i64 a4)<|yd rfl (b true) (TOp.eqb (yc ent93 rfl rfl bN0 (i_isSide_ok a4 r3 hf6)) hc7)<|yl rfl (b false) y1<|yl rfl (b false) yp<|zN ?_
     refine RunC.wl (τ' := [(1, f32 a3), (2, i64 a4), (3, ptr (mXc a0 a1 a2)), (6, optr 0 1 0), (39, b false)]) (Γ' := [⟨1, some zMx⟩, ⟨0, none⟩, ⟨0, none⟩, ⟨0, none⟩, ⟨0, none⟩, ⟨0, none⟩, ⟨0, none⟩, ⟨0, none⟩, ⟨0, none⟩, ⟨0, none⟩]) ⟨aR, aR, aR, aR, aR, trivial⟩ ⟨⟨rfl, .inr rfl⟩, ⟨rfl, .inr rfl⟩, ⟨rfl, .inr rfl⟩, ⟨rfl, .inr rfl⟩, ⟨rfl, .inr rfl⟩, ⟨rfl, .inr rfl⟩, ⟨rfl, .inr rfl⟩, ⟨rfl, .inr rfl⟩, ⟨rfl, .inr rfl⟩, ⟨rfl, .inr rfl⟩, trivial⟩<|yF<|RunC.skip<|yS ?_
     obtain ⟨r4, r5, r6, hf8, h⟩ := obind3_some h
     obtain ⟨r7, r8, r9, hf9, h⟩ := obind3_some h
     refine RunC.region_draw (Γ' := [⟨1, some zMx⟩, ⟨1, some (r6.map f32)⟩, ⟨1, some (r9.map f32)⟩, ⟨1, some zMx⟩, ⟨1, some zMx⟩, ⟨0, none⟩, ⟨0, none⟩, ⟨0, none⟩, ⟨0, none⟩, ⟨0, none⟩]) 9 mixed 
      (tl rfl (agg (mXc a0 a1 a2)) (yL agg27 siz27) <|
      (TR.d (r := agg (oXc r4 r5 1 1 r6.length)) (fs := [(1, (r6.map f32))]) rfl rfl (TOp.callBN (ls := [(r6.map f32)]) [1] (CallAs.func ent38 rfl rfl) (Bors.cons (Bor.agg (bP (bP (bS bN)))) bN) rfl (i_Matrix_clone_ok a0 a1 a2 r4 r5 r6 hf8) (and_all (lts0_map (f := f32) (fun _ => rfl) _) rfl) (and_all (noss_map (f := f32) (fun _ => rfl) _) rfl) rfl (by decide) (ns_of ⟨⟨_, rfl⟩, trivial⟩)) <|
      (tl rfl (ptr (mXc a0 a1 a2)) (LOp.fap und27 rfl siz2 rfl rfl rfl) <|
      (tl rfl (i64 a0) (y2 agg2) <|
      (tl rfl (ptr [i64 a1, (sFc a2)]) (LOp.fap und27 rfl siz2 rfl rfl rfl) <|
      (tl rfl (i64 a1) (y2 agg2) <|
      (TR.d (r := agg (oXc r7 r8 2 1 r9.length)) (fs := [(2, (r9.map f32))]) rfl rfl (TOp.callBN (ls := [(r9.map f32)]) [2] (CallAs.func ent68 rfl rfl) (bP bN0) rfl (i_newMatrix_ok a0 a1 r7 r8 r9 hf9) (and_all (lts0_map (f := f32) (fun _ => rfl) _) rfl) (and_all (noss_map (f := f32) (fun _ => rfl) _) rfl) rfl (by decide) (ns_of ⟨⟨_, rfl⟩, trivial⟩)) <|
      (TR.d (r := optr 3 1 0) (fs := [(3, zMx)]) rfl rfl (TOp.alloc_o (g := ⟨0, none⟩) 3 rfl zer27 zok27 rfl) <|
      (TR.d (r := optr 4 1 0) (fs := [(4, zMx)]) rfl rfl (TOp.alloc_o (g := ⟨0, none⟩) 4 rfl zer27 zok27 rfl) <|
      TR.nil))))))))) rfl (by kernel_rfl) rfl (fills_of (by show List.Nodup [1, 2, 3, 4]; decide) ⟨⟨_, rfl⟩, ⟨_, rfl⟩, ⟨_, rfl⟩, ⟨_, rfl⟩, trivial⟩) rfl ?_
     iterate 9 refine ROps.dropS ?_
     refine ROps.drop0<|ys (agg (oXc r4 r5 1 1 r6.length)) (oXc r4 r5 1 1 r6.length) [⟨1, some zMx⟩, ⟨1, some (r6.map f32)⟩, ⟨1, some (r9.map f32)⟩, ⟨1, some (oXc r4 r5 1 1 r6.length)⟩, ⟨1, some zMx⟩, ⟨0, none⟩, ⟨0, none⟩, ⟨0, none⟩, ⟨0, none⟩, ⟨0, none⟩] siz27<|ys (agg (oXc r7 r8 2 1 r9.length)) (oXc r7 r8 2 1 r9.length) [⟨1, some zMx⟩, ⟨1, some (r6.map f32)⟩, ⟨1, some (r9.map f32)⟩, ⟨1, some (oXc r4 r5 1 1 r6.length)⟩, ⟨1, some (oXc r7 r8 2 1 r9.length)⟩, ⟨0, none⟩, ⟨0, none⟩, ⟨0, none⟩, ⟨0, none⟩, ⟨0, none⟩] siz27<|zN ?_
     refine zQ<|ye rfl (oref 5 1 0 0) ([⟨1, some zMx⟩, ⟨1, some (r6.map f32)⟩, ⟨1, some (r9.map f32)⟩, ⟨1, some (oXc r4 r5 1 1 r6.length)⟩, ⟨1, some (oXc r7 r8 2 1 r9.length)⟩, ⟨1, some (([] : List Int).map i64)⟩, ⟨0, none⟩, ⟨0, none⟩, ⟨0, none⟩, ⟨0, none⟩]) (TOp.buildSlice_o (g := ⟨0, none⟩) (za := i64 0) (qs := []) 5 rfl und30 siz2 zer2 rfl zel2 rfl rfl trivial rfl)<|ye rfl (oref 6 1 0 0) ([⟨1, some zMx⟩, ⟨1, some (r6.map f32)⟩, ⟨1, some (r9.map f32)⟩, ⟨1, some (oXc r4 r5 1 1 r6.length)⟩, ⟨1, some (oXc r7 r8 2 1 r9.length)⟩, ⟨1, some (([] : List Int).map i64)⟩, ⟨1, some (([] : List Int).map i64)⟩, ⟨0, none⟩, ⟨0, none⟩, ⟨0, none⟩]) (TOp.buildSlice_o (g := ⟨0, none⟩) (za := i64 0) (qs := []) 6 rfl und30 siz2 zer2 rfl zel2 rfl rfl trivial rfl)<|ya rfl (oref 5 1 0 0)<|ya rfl (oref 6 1 0 0)<|zN ?_
     refine yS<|zQ<|ym rfl (i64 a4)<|ym rfl (i64 0)<|zN ?_
     obtain ⟨z10, hz_10, h⟩ := oS h
     refine RunC.cutN (fun τ Γ => ∃ (L72 : List F) (L74 : List Int) (L75 : List Int) (u68 : Nat) (u69 : Nat) (u70 : Nat) (u71 : Nat), L72.length = r9.length ∧ WeakLe τ [(6, optr 0 1 0), (11, optr 4 1 0), (12, oref 5 u68 0 L74.length), (13, oref 6 u69 0 L75.length)] ∧ DeadLe Γ [⟨1, some zMx⟩, ⟨1, none⟩, ⟨1, some (L72.map f32)⟩, ⟨1, none⟩, ⟨1, some (oXc r7 r8 2 1 r9.length)⟩, ⟨u68, some (L74.map i64)⟩, ⟨u69, some (L75.map i64)⟩, ⟨u70, none⟩, ⟨u71, none⟩, ⟨0, none⟩] ∧ z10 = .inl (L72, L74, L75)) ?_ ?_
     ·refine RunC.block (RunC.loop (RunL.loopM (x := z10) (i_CrossOf_s9 a3 a4 r4 r5 r6 r7 r8) (fun (s : (List F) × (List F) × (List Int) × (List Int) × Int) τ Γ => ∃ (u10 : Nat) (u11 : Nat) (u12 : Nat) (u13 : Nat), s.1.length = r6.length ∧ s.2.1.length = r9.length ∧ WeakLe τ [(1, f32 a3), (6, optr 0 1 0), (10, optr 3 1 0), (11, optr 4 1 0), (12, oref 5 u10 0 s.2.2.1.length), (13, oref 6 u11 0 s.2.2.2.1.length), (50, i64 a4), (51, i64 s.2.2.2.2)] ∧ DeadLe Γ [⟨1, some zMx⟩, ⟨1, some (s.1.map f32)⟩, ⟨1, some (s.2.1.map f32)⟩, ⟨1, some (oXc r4 r5 1 1 r6.length)⟩, ⟨1, some (oXc r7 r8 2 1 r9.length)⟩, ⟨u10, some (s.2.2.1.map i64)⟩, ⟨u11, some (s.2.2.2.1.map i64)⟩, ⟨u12, none⟩, ⟨u13, none⟩, ⟨0, none⟩]) ?_ _ _ _ hz_10 ⟨1, 1, 0, 0, rfl, rfl, ⟨aR, aR, aR, aR, aR, aR, aR, aR, trivial⟩, ⟨⟨rfl, .inr rfl⟩, ⟨rfl, .inr rfl⟩, ⟨rfl, .inr rfl⟩, ⟨rfl, .inr rfl⟩, ⟨rfl, .inr rfl⟩, ⟨rfl, .inr rfl⟩, ⟨rfl, .inr rfl⟩, ⟨rfl, .inl rfl⟩, ⟨rfl, .inl rfl⟩, ⟨rfl, .inr rfl⟩, trivial⟩⟩))
      rintro ⟨L14, L16, L18, L19, v20⟩ τ10 Γ10 y10_ ⟨u10, u11, u12, u13, hl15, hl17, hw10, hd10⟩ h10_ ho10 hr10
      refine RunC.wl (τ' := [(1, f32 a3), (6, optr 0 1 0), (10, optr 3 1 0), (11, optr 4 1 0), (12, oref 5 u10 0 L18.length), (13, oref 6 u11 0 L19.length), (50, i64 a4), (51, i64 v20)]) (Γ' := [⟨1, some zMx⟩, ⟨1, some (L14.map f32)⟩, ⟨1, some (L16.map f32)⟩, ⟨1, some (oXc r4 r5 1 1 r6.length)⟩, ⟨1, some (oXc r7 r8 2 1 r9.length)⟩, ⟨u10, some (L18.map i64)⟩, ⟨u11, some (L19.map i64)⟩, ⟨u12, none⟩, ⟨u13, none⟩, ⟨0, none⟩]) hw10 hd10 ?_
      replace hl15 : L14.length = r6.length := hl15
      replace hl17 : L16.length = r9.length := hl17
      replace h10_ : i_CrossOf_b9 a3 a4 r4 r5 r6 r7 r8 L14 L16 L18 L19 v20 = some y10_ := h10_
      unfold i_CrossOf_b9 at h10_
      refine yS ?_
      rcases oB h10_ with ⟨hc10, h10_⟩ | ⟨hc10, h10_⟩
      ·refine yW<|yl rfl (b true) (LOp.eqb (LOp.lss rfl rfl rfl) hc10)<|zN ?_
       refine yS<|yT<|RunC.skip<|yS<|RunC.block<|zQ<|ya rfl (i64 0)<|ya rfl (i64 0)<|zN ?_
       refine yS<|zQ<|yl rfl (optr 3 1 2) (LOp.fao und27 rfl siz25 rfl rfl rfl)<|yd rfl (oref 1 1 0 r6.length) (TOp.load1_o rfl rfl agg25 rfl rfl)<|yl rfl (i64 ((r6.length : Nat) : Int)) (LOp.len_oref und25 rfl rfl)<|ym rfl (i64 0)<|zN ?_
       obtain ⟨z11, hz_11, h10_⟩ := oS h10_
       refine RunC.cutN (fun τ Γ => ∃ (v37 : Int) (v38 : Int), L14.length = r6.length ∧ L16.length = r9.length ∧ WeakLe τ [(1, f32 a3), (6, optr 0 1 0), (10, optr 3 1 0), (11, optr 4 1 0), (12, oref 5 u10 0 L18.length), (13, oref 6 u11 0 L19.length), (14, i64 v37), (15, i64 v38), (50, i64 a4), (51, i64 v20)] ∧ DeadLe Γ [⟨1, some zMx⟩, ⟨1, some (L14.map f32)⟩, ⟨1, some (L16.map f32)⟩, ⟨1, some (oXc r4 r5 1 1 r6.length)⟩, ⟨1, some (oXc r7 r8 2 1 r9.length)⟩, ⟨u10, some (L18.map i64)⟩, ⟨u11, some (L19.map i64)⟩, ⟨u12, none⟩, ⟨u13, none⟩, ⟨0, none⟩] ∧ z11 = .inl (v37, v38)) ?_ ?_
       ·refine RunC.block (RunC.loop (RunL.loopM (x := z11) (i_CrossOf_s7 r4 r5 r6 L14) (fun (s : Int × Int × Int) τ Γ => WeakLe τ [(1, f32 a3), (6, optr 0 1 0), (10, optr 3 1 0), (11, optr 4 1 0), (12, oref 5 u10 0 L18.length), (13, oref 6 u11 0 L19.length), (14, i64 s.1), (15, i64 s.2.1), (50, i64 a4), (51, i64 v20), (54, oref 1 1 0 r6.length), (55, i64 ((r6.length : Nat) : Int)), (56, i64 s.2.2)] ∧ DeadLe Γ [⟨1, some zMx⟩, ⟨1, some (L14.map f32)⟩, ⟨1, some (L16.map f32)⟩, ⟨1, some (oXc r4 r5 1 1 r6.length)⟩, ⟨1, some (oXc r7 r8 2 1 r9.length)⟩, ⟨u10, some (L18.map i64)⟩, ⟨u11, some (L19.map i64)⟩, ⟨u12, none⟩, ⟨u13, none⟩, ⟨0, none⟩]) ?_ _ _ _ hz_11 ⟨⟨aR, aR, aR, aR, aR, aR, aR, aR, aR, aR, aR, aR, aR, trivial⟩, ⟨⟨rfl, .inr rfl⟩, ⟨rfl, .inr rfl⟩, ⟨rfl, .inr rfl⟩, ⟨rfl, .inr rfl⟩, ⟨rfl, .inr rfl⟩, ⟨rfl, .inr rfl⟩, ⟨rfl, .inr rfl⟩, ⟨rfl, .inl rfl⟩, ⟨rfl, .inl rfl⟩, ⟨rfl, .inr rfl⟩, trivial⟩⟩))
        rintro ⟨v21, v22, v23⟩ τ11 Γ11 y11_ ⟨hw11, hd11⟩ h11_ ho11 hr11
        refine RunC.wl (τ' := [(1, f32 a3), (6, optr 0 1 0), (10, optr 3 1 0), (11, optr 4 1 0), (12, oref 5 u10 0 L18.length), (13, oref 6 u11 0 L19.length), (14, i64 v21), (15, i64 v22), (50, i64 a4), (51, i64 v20), (54, oref 1 1 0 r6.length), (55, i64 ((r6.length : Nat) : Int)), (56, i64 v23)]) (Γ' := [⟨1, some zMx⟩, ⟨1, some (L14.map f32)⟩, ⟨1, some (L16.map f32)⟩, ⟨1, some (oXc r4 r5 1 1 r6.length)⟩, ⟨1, some (oXc r7 r8 2 1 r9.length)⟩, ⟨u10, some (L18.map i64)⟩, ⟨u11, some (L19.map i64)⟩, ⟨u12, none⟩, ⟨u13, none⟩, ⟨0, none⟩]) hw11 hd11 ?_
        replace h11_ : i_CrossOf_b7 r4 r5 r6 L14 v21 v22 v23 = some y11_ := h11_
        unfold i_CrossOf_b7 at h11_
        refine yS ?_
        rcases oB h11_ with ⟨hc11, h11_⟩ | ⟨hc11, h11_⟩
        ·refine yW<|yl rfl (b true) (LOp.eqb (LOp.lss rfl rfl rfl) hc11)<|zN ?_
         refine yS<|yT<|RunC.skip<|yS<|RunC.cutN (fun τ Γ => ∃ (v30 : Int) (v31 : Int), L14.length = r6.length ∧ L16.length = r9.length ∧ WeakLe τ [(1, f32 a3), (6, optr 0 1 0), (10, optr 3 1 0), (11, optr 4 1 0), (12, oref 5 u10 0 L18.length), (13, oref 6 u11 0 L19.length), (14, i64 v30), (15, i64 v31), (50, i64 a4), (51, i64 v20), (54, oref 1 1 0 r6.length), (55, i64 ((r6.length : Nat) : Int)), (56, i64 v23)] ∧ DeadLe Γ [⟨1, some zMx⟩, ⟨1, some (L14.map f32)⟩, ⟨1, some (L16.map f32)⟩, ⟨1, some (oXc r4 r5 1 1 r6.length)⟩, ⟨1, some (oXc r7 r8 2 1 r9.length)⟩, ⟨u10, some (L18.map i64)⟩, ⟨u11, some (L19.map i64)⟩, ⟨u12, none⟩, ⟨u13, none⟩, ⟨0, none⟩] ∧ i_CrossOf_k6 v23 v30 v31 = some y11_) ?_ ?_
         ·refine RunC.block<|yS ?_
          obtain ⟨e24, he12, h11_⟩ := oS h11_
          refine yW<|ym rfl (i64 v23)<|yd rfl (optr 1 1 v23.toNat) (TOp.ixo und25 siz41 rfl rfl rfl (at_in he12 hl15) rfl)<|yd rfl (f32 e24) (TOp.load1_o rfl (at_cell he12) agg41 rfl rfl)<|ya rfl (i64 v23)<|ya rfl (f32 e24)<|zN ?_
          refine yS ?_
          obtain ⟨r25, hf13, h11_⟩ := oS h11_
          obtain ⟨r26, hf14, h11_⟩ := oS h11_
          obtain ⟨r27, hf15, h11_⟩ := oS h11_
          rcases oB h11_ with ⟨hc16, h11_⟩ | ⟨hc16, h11_⟩
          ·refine RunC.region_draw (Γ' := [⟨1, some zMx⟩, ⟨1, some (L14.map f32)⟩, ⟨1, some (L16.map f32)⟩, ⟨1, some (oXc r4 r5 1 1 r6.length)⟩, ⟨1, some (oXc r7 r8 2 1 r9.length)⟩, ⟨u10, some (L18.map i64)⟩, ⟨u11, some (L19.map i64)⟩, ⟨u12, none⟩, ⟨u13, none⟩, ⟨0, none⟩]) 8 mixed 
            (tm rfl (f32 e24) <|
            (TR.d (r := f32 r25) (fs := []) rfl rfl (yc ent40 rfl rfl bN0 (i_absolute_ok e24 r25 hf13)) <|
            (TR.d (r := agg (oXc r4 r5 1 1 r6.length)) (fs := []) rfl rfl (TOp.loadAgg_o rfl agg27 siz27 rfl rfl rfl rfl) <|
            (tm rfl (i64 v21) <|
            (tm rfl (i64 v22) <|
            (TR.d (r := f32 r26) (fs := []) rfl rfl (TOp.callB (CallAs.func ent41 rfl rfl) (Bors.cons (Bor.agg (bP (bP (Bors.cons (Bor.own (f := f32) (fun _ => rfl) rfl hl15) bN)))) (bP bN0)) rfl rfl (i_Matrix_at_ok r4 r5 L14 v21 v22 r26 hf14)) <|
            (TR.d (r := f32 r27) (fs := []) rfl rfl (yc ent40 rfl rfl bN0 (i_absolute_ok r26 r27 hf15)) <|
            (tl rfl (b true) (LOp.eqb (LOp.fgt rfl (OpF.tmp rfl) (OpF.tmp rfl)) hc16) <|
            TR.nil)))))))) rfl (by kernel_rfl) rfl fills_nil rfl ?_
           iterate 8 refine ROps.dropS ?_
           refine ROps.drop0<|zN ?_
           refine yT ?_
           obtain ⟨hz17, h11_⟩ := need_some h11_
           obtain ⟨x28, hx18, h11_⟩ := oL h11_
           obtain ⟨hz19, h11_⟩ := need_some h11_
           obtain ⟨x29, hx20, h11_⟩ := oL h11_
           refine RunC.region_draw (Γ' := [⟨1, some zMx⟩, ⟨1, some (L14.map f32)⟩, ⟨1, some (L16.map f32)⟩, ⟨1, some (oXc r4 r5 1 1 r6.length)⟩, ⟨1, some (oXc r7 r8 2 1 r9.length)⟩, ⟨u10, some (L18.map i64)⟩, ⟨u11, some (L19.map i64)⟩, ⟨u12, none⟩, ⟨u13, none⟩, ⟨0, none⟩]) 10 mixed 
            (tm rfl (i64 v23) <|
            (tl rfl (optr 3 1 1) (LOp.fao und27 rfl siz2 rfl rfl rfl) <|
            (TR.d (r := i64 r5) (fs := []) rfl rfl (TOp.load1_o rfl rfl agg2 rfl rfl) <|
            (tl rfl (i64 x28) (LOp.eqr (LOp.quo rfl rfl rfl (nz hz17)) (congrArg (ik .i64) hx18)) <|
            (tm rfl (i64 v23) <|
            (tl rfl (optr 3 1 1) (LOp.fao und27 rfl siz2 rfl rfl rfl) <|
            (TR.d (r := i64 r5) (fs := []) rfl rfl (TOp.load1_o rfl rfl agg2 rfl rfl) <|
            (tl rfl (i64 x29) (LOp.eqr (LOp.rem rfl rfl rfl (nz hz19)) (congrArg (ik .i64) hx20)) <|
            (tl rfl (i64 x28) (LOp.assign rfl rfl) <|
            (tl rfl (i64 x29) (LOp.assign rfl rfl) <|
            TR.nil)))))))))) rfl (by kernel_rfl) rfl fills_nil rfl ?_
           iterate 10 refine ROps.dropS ?_
           refine ROps.drop0<|zN ?_
           exact ⟨x28, x29, hl15, hl17, ⟨aR, aR, aR, aR, aR, aR, aR, aR, aR, aR, aR, aR, aR, trivial⟩, ⟨⟨rfl, .inr rfl⟩, ⟨rfl, .inr rfl⟩, ⟨rfl, .inr rfl⟩, ⟨rfl, .inr rfl⟩, ⟨rfl, .inr rfl⟩, ⟨rfl, .inr rfl⟩, ⟨rfl, .inr rfl⟩, ⟨rfl, .inl rfl⟩, ⟨rfl, .inl rfl⟩, ⟨rfl, .inr rfl⟩, trivial⟩, h11_⟩
          ·refine RunC.region_draw (Γ' := [⟨1, some zMx⟩, ⟨1, some (L14.map f32)⟩, ⟨1, some (L16.map f32)⟩, ⟨1, some (oXc r4 r5 1 1 r6.length)⟩, ⟨1, some (oXc r7 r8 2 1 r9.length)⟩, ⟨u10, some (L18.map i64)⟩, ⟨u11, some (L19.map i64)⟩, ⟨u12, none⟩, ⟨u13, none⟩, ⟨0, none⟩]) 8 mixed 
            (tm rfl (f32 e24) <|
            (TR.d (r := f32 r25) (fs := []) rfl rfl (yc ent40 rfl rfl bN0 (i_absolute_ok e24 r25 hf13)) <|
            (TR.d (r := agg (oXc r4 r5 1 1 r6.length)) (fs := []) rfl rfl (TOp.loadAgg_o rfl agg27 siz27 rfl rfl rfl rfl) <|
            (tm rfl (i64 v21) <|
            (tm rfl (i64 v22) <|
            (TR.d (r := f32 r26) (fs := []) rfl rfl (TOp.callB (CallAs.func ent41 rfl rfl) (Bors.cons (Bor.agg (bP (bP (Bors.cons (Bor.own (f := f32) (fun _ => rfl) rfl hl15) bN)))) (bP bN0)) rfl rfl (i_Matrix_at_ok r4 r5 L14 v21 v22 r26 hf14)) <|
            (TR.d (r := f32 r27) (fs := []) rfl rfl (yc ent40 rfl rfl bN0 (i_absolute_ok r26 r27 hf15)) <|
            (tl rfl (b false) (LOp.eqb (LOp.fgt rfl (OpF.tmp rfl) (OpF.tmp rfl)) hc16) <|
            TR.nil)))))))) rfl (by kernel_rfl) rfl fills_nil rfl ?_
           iterate 8 refine ROps.dropS ?_
           refine ROps.drop0<|zN ?_
           refine yF<|RunC.skip ?_
           exact ⟨v21, v22, hl15, hl17, ⟨aR, aR, aR, aR, aR, aR, aR, aR, aR, aR, aR, aR, aR, trivial⟩, ⟨⟨rfl, .inr rfl⟩, ⟨rfl, .inr rfl⟩, ⟨rfl, .inr rfl⟩, ⟨rfl, .inr rfl⟩, ⟨rfl, .inr rfl⟩, ⟨rfl, .inr rfl⟩, ⟨rfl, .inr rfl⟩, ⟨rfl, .inl rfl⟩, ⟨rfl, .inl rfl⟩, ⟨rfl, .inr rfl⟩, trivial⟩, h11_⟩
         ·rintro τ12 Γ12 ⟨v30, v31, hl32, hl33, hw12, hd12, h11_⟩
          refine RunC.wl hw12 hd12 ?_
          unfold i_CrossOf_k6 at h11_
          obtain ⟨x34, hx21, h11_⟩ := oL h11_
          refine yW<|yl rfl (i64 x34) (LOp.eqr (LOp.add rfl rfl rfl) (congrArg (ik .i64) hx21))<|ym rfl (i64 x34)<|zN ?_
          cases oI h11_
          exact ⟨_, rfl, ⟨aR, aR, aR, aR, aR, aR, aR, aR, aR, aR, aR, aR, aR, trivial⟩, ⟨⟨rfl, .inr rfl⟩, ⟨rfl, .inr rfl⟩, ⟨rfl, .inr rfl⟩, ⟨rfl, .inr rfl⟩, ⟨rfl, .inr rfl⟩, ⟨rfl, .inr rfl⟩, ⟨rfl, .inr rfl⟩, ⟨rfl, .inl rfl⟩, ⟨rfl, .inl rfl⟩, ⟨rfl, .inr rfl⟩, trivial⟩⟩
        ·refine yW<|yl rfl (b false) (LOp.eqb (LOp.lss rfl rfl rfl) hc11)<|zN ?_
         refine yS<|yF<|RunC.exit ?_
         cases oI h11_
         have hx := ho11 _ rfl
         exact ⟨v21, v22, hl15, hl17, ⟨aR, aR, aR, aR, aR, aR, aR, aR, aR, aR, trivial⟩, ⟨⟨rfl, .inr rfl⟩, ⟨rfl, .inr rfl⟩, ⟨rfl, .inr rfl⟩, ⟨rfl, .inr rfl⟩, ⟨rfl, .inr rfl⟩, ⟨rfl, .inr rfl⟩, ⟨rfl, .inr rfl⟩, ⟨rfl, .inl rfl⟩, ⟨rfl, .inl rfl⟩, ⟨rfl, .inr rfl⟩, trivial⟩, hx⟩
       ·rintro τ13 Γ13 ⟨v37, v38, hl35, hl36, hw13, hd13, rfl⟩
        refine RunC.wl hw13 hd13 ?_
        replace h10_ : i_CrossOf_k7 a3 r4 r5 r6 r7 r8 L14 L16 L18 L19 v20 v37 v38 = some y10_ := h10_
        unfold i_CrossOf_k7 at h10_
        refine yS ?_
        obtain ⟨r39, hf22, h10_⟩ := oS h10_
        refine yW<|yd rfl (agg (oXc r4 r5 1 1 r6.length)) (TOp.loadAgg_o rfl agg27 siz27 rfl rfl rfl rfl)<|ym rfl (i64 v37)<|ym rfl (i64 v38)<|yd rfl (f32 r39) (TOp.callB (CallAs.func ent41 rfl rfl) (Bors.cons (Bor.agg (bP (bP (Bors.cons (Bor.own (f := f32) (fun _ => rfl) rfl hl35) bN)))) (bP bN0)) rfl rfl (i_Matrix_at_ok r4 r5 L14 v37 v38 r39 hf22))<|ya rfl (f32 r39)<|zN ?_
        refine yS<|yS ?_
        obtain ⟨r40, hf23, h10_⟩ := oS h10_
        rcases oB h10_ with ⟨hc24, h10_⟩ | ⟨hc24, h10_⟩
        ·refine yW<|ym rfl (f32 r39)<|yd rfl (f32 r40) (yc ent40 rfl rfl bN0 (i_absolute_ok r39 r40 hf23))<|ym rfl (f32 a3)<|yl rfl (b true) (LOp.eqb (LOp.fle rfl (OpF.tmp rfl) (OpF.tmp rfl)) hc24)<|zN ?_
         refine yT<|RunC.exit ?_
         cases oI h10_
         have hx := ho10 _ rfl
         exact ⟨L16, L18, L19, u10, u11, u12, u13, hl36, ⟨aR, aR, aR, aR, trivial⟩, ⟨⟨rfl, .inr rfl⟩, ⟨rfl, .inl rfl⟩, ⟨rfl, .inr rfl⟩, ⟨rfl, .inl rfl⟩, ⟨rfl, .inr rfl⟩, ⟨rfl, .inr rfl⟩, ⟨rfl, .inr rfl⟩, ⟨rfl, .inl rfl⟩, ⟨rfl, .inl rfl⟩, ⟨rfl, .inr rfl⟩, trivial⟩, hx⟩
        ·refine yW<|ym rfl (f32 r39)<|yd rfl (f32 r40) (yc ent40 rfl rfl bN0 (i_absolute_ok r39 r40 hf23))<|ym rfl (f32 a3)<|yl rfl (b false) (LOp.eqb (LOp.fle rfl (OpF.tmp rfl) (OpF.tmp rfl)) hc24)<|zN ?_
         refine yF<|RunC.skip<|yS ?_
         obtain ⟨r41, hf25, h10_⟩ := oS h10_
         obtain ⟨r42, hf26, h10_⟩ := oS h10_
         refine RunC.region_draw (Γ' := [⟨1, some zMx⟩, ⟨1, some (L14.map f32)⟩, ⟨1, some (L16.map f32)⟩, ⟨1, some (oXc r4 r5 1 1 r6.length)⟩, ⟨1, some (oXc r7 r8 2 1 r9.length)⟩, ⟨u10, some (L18.map i64)⟩, ⟨u11, some (L19.map i64)⟩, ⟨(u12 + 1), some (r41.map f32)⟩, ⟨(u13 + 1), some (r42.map f32)⟩, ⟨0, none⟩]) 8 mixed 
          (TR.d (r := agg (oXc r4 r5 1 1 r6.length)) (fs := []) rfl rfl (TOp.loadAgg_o rfl agg27 siz27 rfl rfl rfl rfl) <|
          (tm rfl (i64 v37) <|
          (TR.d (r := oref 7 (u12 + 1) 0 r41.length) (fs := [(7, (r41.map f32))]) rfl rfl (TOp.eqr (TOp.callBN (ls := [(r41.map f32)]) [7] (CallAs.func ent94 rfl rfl) (Bors.cons (Bor.agg (bP (bP (Bors.cons (Bor.own (f := f32) (fun _ => rfl) rfl hl35) bN)))) bN0) rfl (i_Matrix_row_ok r4 r5 L14 v37 r41 hf25) (and_all (lts0_map (f := f32) (fun _ => rfl) _) rfl) (and_all (noss_map (f := f32) (fun _ => rfl) _) rfl) rfl (by decide) (ns_of ⟨⟨_, rfl⟩, trivial⟩)) (by simp [ren, rens, sigma, newNames])) <|
          (TR.d (r := agg (oXc r4 r5 1 1 r6.length)) (fs := []) rfl rfl (TOp.loadAgg_o rfl agg27 siz27 rfl rfl rfl rfl) <|
          (tm rfl (i64 v38) <|
          (TR.d (r := oref 8 (u13 + 1) 0 r42.length) (fs := [(8, (r42.map f32))]) rfl rfl (TOp.eqr (TOp.callBN (ls := [(r42.map f32)]) [8] (CallAs.func ent71 rfl rfl) (Bors.cons (Bor.agg (bP (bP (Bors.cons (Bor.own (f := f32) (fun _ => rfl) rfl hl35) bN)))) bN0) rfl (i_Matrix_column_ok r4 r5 L14 v38 r42 hf26) (and_all (lts0_map (f := f32) (fun _ => rfl) _) rfl) (and_all (noss_map (f := f32) (fun _ => rfl) _) rfl) rfl (by decide) (ns_of ⟨⟨_, rfl⟩, trivial⟩)) (by simp [ren, rens, sigma, newNames])) <|
          (tl rfl (oref 7 (u12 + 1) 0 r41.length) (LOp.assign rfl rfl) <|
          (tl rfl (oref 8 (u13 + 1) 0 r42.length) (LOp.assign rfl rfl) <|
          TR.nil)))))))) rfl (by kernel_rfl) rfl (fills_of (by show List.Nodup [7, 8]; decide) ⟨⟨_, rfl⟩, ⟨_, rfl⟩, trivial⟩) rfl ?_
         iterate 8 refine ROps.dropS ?_
         refine ROps.drop0<|zN ?_
         refine yS<|zQ<|yl rfl (optr 3 1 2) (LOp.fao und27 rfl siz25 rfl rfl rfl)<|yd rfl (oref 1 1 0 r6.length) (TOp.load1_o rfl rfl agg25 rfl rfl)<|yl rfl (i64 ((r6.length : Nat) : Int)) (LOp.len_oref und25 rfl rfl)<|ym rfl (i64 0)<|zN ?_
         refine RunC.wl (τ' := [(1, f32 a3), (6, optr 0 1 0), (10, optr 3 1 0), (11, optr 4 1 0), (12, oref 5 u10 0 L18.length), (13, oref 6 u11 0 L19.length), (14, i64 v37), (15, i64 v38), (18, f32 r39), (19, oref 7 (u12 + 1) 0 r41.length), (20, oref 8 (u13 + 1) 0 r42.length), (50, i64 a4), (51, i64 v20), (94, i64 ((r6.length : Nat) : Int)), (95, i64 0)]) (Γ' := [⟨1, some zMx⟩, ⟨1, some (L14.map f32)⟩, ⟨1, some (L16.map f32)⟩, ⟨1, some (oXc r4 r5 1 1 r6.length)⟩, ⟨1, some (oXc r7 r8 2 1 r9.length)⟩, ⟨u10, some (L18.map i64)⟩, ⟨u11, some (L19.map i64)⟩, ⟨(u12 + 1), some (r41.map f32)⟩, ⟨(u13 + 1), some (r42.map f32)⟩, ⟨0, none⟩]) ⟨aR, aR, aR, aR, aR, aR, aR, aR, aR, aR, aR, aR, aR, aR, aR, trivial⟩ ⟨⟨rfl, .inr rfl⟩, ⟨rfl, .inr rfl⟩, ⟨rfl, .inr rfl⟩, ⟨rfl, .inr rfl⟩, ⟨rfl, .inr rfl⟩, ⟨rfl, .inr rfl⟩, ⟨rfl, .inr rfl⟩, ⟨rfl, .inr rfl⟩, ⟨rfl, .inr rfl⟩, ⟨rfl, .inr rfl⟩, trivial⟩ ?_
         obtain ⟨z14, hz_14, h10_⟩ := oS h10_
         refine RunC.cutN (fun τ Γ => ∃ (L61 : List F) (L63 : List F), L61.length = r6.length ∧ L63.length = r9.length ∧ WeakLe τ [(1, f32 a3), (6, optr 0 1 0), (10, optr 3 1 0), (11, optr 4 1 0), (12, oref 5 u10 0 L18.length), (13, oref 6 u11 0 L19.length), (14, i64 v37), (15, i64 v38), (50, i64 a4), (51, i64 v20)] ∧ DeadLe Γ [⟨1, some zMx⟩, ⟨1, some (L61.map f32)⟩, ⟨1, some (L63.map f32)⟩, ⟨1, some (oXc r4 r5 1 1 r6.length)⟩, ⟨1, some (oXc r7 r8 2 1 r9.length)⟩, ⟨u10, some (L18.map i64)⟩, ⟨u11, some (L19.map i64)⟩, ⟨(u12 + 1), none⟩, ⟨(u13 + 1), none⟩, ⟨0, none⟩] ∧ z14 = .inl (L61, L63)) ?_ ?_
         ·refine RunC.block (RunC.loop (RunL.loopM (x := z14) (i_CrossOf_s8 r5 r6 r39 r41 r42) (fun (s : (List F) × (List F) × Int) τ Γ => s.1.length = r6.length ∧ s.2.1.length = r9.length ∧ WeakLe τ [(1, f32 a3), (6, optr 0 1 0), (10, optr 3 1 0), (11, optr 4 1 0), (12, oref 5 u10 0 L18.length), (13, oref 6 u11 0 L19.length), (14, i64 v37), (15, i64 v38), (18, f32 r39), (19, oref 7 (u12 + 1) 0 r41.length), (20, oref 8 (u13 + 1) 0 r42.length), (50, i64 a4), (51, i64 v20), (94, i64 ((r6.length : Nat) : Int)), (95, i64 s.2.2)] ∧ DeadLe Γ [⟨1, some zMx⟩, ⟨1, some (s.1.map f32)⟩, ⟨1, some (s.2.1.map f32)⟩, ⟨1, some (oXc r4 r5 1 1 r6.length)⟩, ⟨1, some (oXc r7 r8 2 1 r9.length)⟩, ⟨u10, some (L18.map i64)⟩, ⟨u11, some (L19.map i64)⟩, ⟨(u12 + 1), some (r41.map f32)⟩, ⟨(u13 + 1), some (r42.map f32)⟩, ⟨0, none⟩]) ?_ _ _ _ hz_14 ⟨hl35, hl36, ⟨aR, aR, aR, aR, aR, aR, aR, aR, aR, aR, aR, aR, aR, aR, aR, trivial⟩, ⟨⟨rfl, .inr rfl⟩, ⟨rfl, .inr rfl⟩, ⟨rfl, .inr rfl⟩, ⟨rfl, .inr rfl⟩, ⟨rfl, .inr rfl⟩, ⟨rfl, .inr rfl⟩, ⟨rfl, .inr rfl⟩, ⟨rfl, .inr rfl⟩, ⟨rfl, .inr rfl⟩, ⟨rfl, .inr rfl⟩, trivial⟩⟩))
          rintro ⟨L43, L45, v47⟩ τ14 Γ14 y14_ ⟨hl44, hl46, hw14, hd14⟩ h14_ ho14 hr14
          refine RunC.wl (τ' := [(1, f32 a3), (6, optr 0 1 0), (10, optr 3 1 0), (11, optr 4 1 0), (12, oref 5 u10 0 L18.length), (13, oref 6 u11 0 L19.length), (14, i64 v37), (15, i64 v38), (18, f32 r39), (19, oref 7 (u12 + 1) 0 r41.length), (20, oref 8 (u13 + 1) 0 r42.length), (50, i64 a4), (51, i64 v20), (94, i64 ((r6.length : Nat) : Int)), (95, i64 v47)]) (Γ' := [⟨1, some zMx⟩, ⟨1, some (L43.map f32)⟩, ⟨1, some (L45.map f32)⟩, ⟨1, some (oXc r4 r5 1 1 r6.length)⟩, ⟨1, some (oXc r7 r8 2 1 r9.length)⟩, ⟨u10, some (L18.map i64)⟩, ⟨u11, some (L19.map i64)⟩, ⟨(u12 + 1), some (r41.map f32)⟩, ⟨(u13 + 1), some (r42.map f32)⟩, ⟨0, none⟩]) hw14 hd14 ?_
          replace hl44 : L43.length = r6.length := hl44
          replace hl46 : L45.length = r9.length := hl46
          replace h14_ : i_CrossOf_b8 r5 r6 r39 r41 r42 L43 L45 v47 = some y14_ := h14_
          unfold i_CrossOf_b8 at h14_
          refine yS ?_
          rcases oB h14_ with ⟨hc27, h14_⟩ | ⟨hc27, h14_⟩
          ·refine yW<|yl rfl (b true) (LOp.eqb (LOp.lss rfl rfl rfl) hc27)<|zN ?_
           refine yS<|yT<|RunC.skip<|yS<|RunC.block<|zQ<|ym rfl (i64 v47)<|ya rfl (i64 v47)<|zN ?_
           refine yS ?_
           obtain ⟨hz28, h14_⟩ := need_some h14_
           obtain ⟨x48, hx29, h14_⟩ := oL h14_
           obtain ⟨e49, he30, h14_⟩ := oS h14_
           obtain ⟨x50, hx31, h14_⟩ := oL h14_
           obtain ⟨hz32, h14_⟩ := need_some h14_
           obtain ⟨x51, hx33, h14_⟩ := oL h14_
           obtain ⟨e52, he34, h14_⟩ := oS h14_
           obtain ⟨r53, hf35, h14_⟩ := oS h14_
           refine RunC.region_draw (Γ' := [⟨1, some zMx⟩, ⟨1, some (L43.map f32)⟩, ⟨1, some (L45.map f32)⟩, ⟨1, some (oXc r4 r5 1 1 r6.length)⟩, ⟨1, some (oXc r7 r8 2 1 r9.length)⟩, ⟨u10, some (L18.map i64)⟩, ⟨u11, some (L19.map i64)⟩, ⟨(u12 + 1), some (r41.map f32)⟩, ⟨(u13 + 1), some (r42.map f32)⟩, ⟨0, none⟩]) 18 mixed 
            (tm rfl (oref 8 (u13 + 1) 0 r42.length) <|
            (tm rfl (i64 v47) <|
            (tl rfl (optr 3 1 1) (LOp.fao und27 rfl siz2 rfl rfl rfl) <|
            (TR.d (r := i64 r5) (fs := []) rfl rfl (TOp.load1_o rfl rfl agg2 rfl rfl) <|
            (tl rfl (i64 x48) (LOp.eqr (LOp.quo rfl rfl rfl (nz hz28)) (congrArg (ik .i64) hx29)) <|
            (TR.d (r := optr 8 (u13 + 1) x48.toNat) (fs := []) rfl rfl (TOp.ixo und25 siz41 rfl rfl rfl (at_in he30 rfl) rfl) <|
            (TR.d (r := f32 e49) (fs := []) rfl rfl (TOp.load1_o rfl (at_cell he30) agg41 rfl rfl) <|
            (tm rfl (f32 r39) <|
            (TR.d (r := f32 x50) (fs := []) rfl rfl (TOp.eqr (TOp.fop (.inr (.inr (.inr rfl))) rfl (OpF.tmp rfl) (OpF.tmp rfl)) (congrArg (f .f32) hx31)) <|
            (tm rfl (oref 7 (u12 + 1) 0 r41.length) <|
            (tm rfl (i64 v47) <|
            (tl rfl (optr 3 1 1) (LOp.fao und27 rfl siz2 rfl rfl rfl) <|
            (TR.d (r := i64 r5) (fs := []) rfl rfl (TOp.load1_o rfl rfl agg2 rfl rfl) <|
            (tl rfl (i64 x51) (LOp.eqr (LOp.rem rfl rfl rfl (nz hz32)) (congrArg (ik .i64) hx33)) <|
            (TR.d (r := optr 7 (u12 + 1) x51.toNat) (fs := []) rfl rfl (TOp.ixo und25 siz41 rfl rfl rfl (at_in he34 rfl) rfl) <|
            (TR.d (r := f32 e52) (fs := []) rfl rfl (TOp.load1_o rfl (at_cell he34) agg41 rfl rfl) <|
            (TR.d (r := f32 r53) (fs := []) rfl rfl (yc ent80 rfl rfl (bP bN0) (i_mul_ok x50 e52 r53 hf35)) <|
            (tl rfl (f32 r53) (LOp.assign rfl rfl) <|
            TR.nil)))))))))))))))))) rfl (by kernel_rfl) rfl fills_nil rfl ?_
           iterate 18 refine ROps.dropS ?_
           refine ROps.drop0<|zN ?_
           refine RunC.wl (τ' := [(1, f32 a3), (6, optr 0 1 0), (10, optr 3 1 0), (11, optr 4 1 0), (12, oref 5 u10 0 L18.length), (13, oref 6 u11 0 L19.length), (14, i64 v37), (15, i64 v38), (18, f32 r39), (19, oref 7 (u12 + 1) 0 r41.length), (20, oref 8 (u13 + 1) 0 r42.length), (21, i64 v47), (22, f32 r53), (50, i64 a4), (51, i64 v20), (94, i64 ((r6.length : Nat) : Int)), (95, i64 v47)]) (Γ' := [⟨1, some zMx⟩, ⟨1, some (L43.map f32)⟩, ⟨1, some (L45.map f32)⟩, ⟨1, some (oXc r4 r5 1 1 r6.length)⟩, ⟨1, some (oXc r7 r8 2 1 r9.length)⟩, ⟨u10, some (L18.map i64)⟩, ⟨u11, some (L19.map i64)⟩, ⟨(u12 + 1), some (r41.map f32)⟩, ⟨(u13 + 1), some (r42.map f32)⟩, ⟨0, none⟩]) ⟨aR, aR, aR, aR, aR, aR, aR, aR, aR, aR, aR, aR, aR, aR, aR, aR, aR, trivial⟩ ⟨⟨rfl, .inr rfl⟩, ⟨rfl, .inr rfl⟩, ⟨rfl, .inr rfl⟩, ⟨rfl, .inr rfl⟩, ⟨rfl, .inr rfl⟩, ⟨rfl, .inr rfl⟩, ⟨rfl, .inr rfl⟩, ⟨rfl, .inr rfl⟩, ⟨rfl, .inr rfl⟩, ⟨rfl, .inr rfl⟩, trivial⟩<|yS ?_
           obtain ⟨e54, he36, h14_⟩ := oS h14_
           obtain ⟨x55, hx37, h14_⟩ := oL h14_
           obtain ⟨L56, he38, h14_⟩ := oS h14_
           refine yW<|yl rfl (optr 4 1 2) (LOp.fao und27 rfl siz25 rfl rfl rfl)<|yd rfl (oref 2 1 0 r9.length) (TOp.load1_o rfl rfl agg25 rfl rfl)<|ym rfl (i64 v47)<|yd rfl (optr 2 1 v47.toNat) (TOp.ixo und25 siz41 rfl rfl rfl (at_in he36 hl46) rfl)<|yd rfl (f32 e54) (TOp.load1_o rfl (at_cell he36) agg41 rfl rfl)<|ym rfl (f32 r53)<|yd rfl (f32 x55) (TOp.eqr (TOp.fop (.inl rfl) rfl (OpF.tmp rfl) (OpF.tmp rfl)) (congrArg (f .f32) hx37))<|yd rfl (optr 2 1 v47.toNat) (TOp.ixo und25 siz41 rfl rfl rfl (set_in he38 hl46) rfl)<|ROps.st (f := f32) (i := v47) (Γ' := [⟨1, some zMx⟩, ⟨1, some (L43.map f32)⟩, ⟨1, some (L56.map f32)⟩, ⟨1, some (oXc r4 r5 1 1 r6.length)⟩, ⟨1, some (oXc r7 r8 2 1 r9.length)⟩, ⟨u10, some (L18.map i64)⟩, ⟨u11, some (L19.map i64)⟩, ⟨(u12 + 1), some (r41.map f32)⟩, ⟨(u13 + 1), some (r42.map f32)⟩, ⟨0, none⟩]) rfl siz41 rfl rfl rfl aR rfl rfl rfl he38 rfl<|zN ?_
           obtain ⟨e57, he39, h14_⟩ := oS h14_
           obtain ⟨x58, hx40, h14_⟩ := oL h14_
           obtain ⟨L59, he41, h14_⟩ := oS h14_
           refine yW<|yl rfl (optr 3 1 2) (LOp.fao und27 rfl siz25 rfl rfl rfl)<|yd rfl (oref 1 1 0 r6.length) (TOp.load1_o rfl rfl agg25 rfl rfl)<|ym rfl (i64 v47)<|yd rfl (optr 1 1 v47.toNat) (TOp.ixo und25 siz41 rfl rfl rfl (at_in he39 hl44) rfl)<|yd rfl (f32 e57) (TOp.load1_o rfl (at_cell he39) agg41 rfl rfl)<|ym rfl (f32 r53)<|yd rfl (f32 x58) (TOp.eqr (TOp.fop (.inr (.inl rfl)) rfl (OpF.tmp rfl) (OpF.tmp rfl)) (congrArg (f .f32) hx40))<|yd rfl (optr 1 1 v47.toNat) (TOp.ixo und25 siz41 rfl rfl rfl (set_in he41 hl44) rfl)<|ROps.st (f := f32) (i := v47) (Γ' := [⟨1, some zMx⟩, ⟨1, some (L59.map f32)⟩, ⟨1, some (L56.map f32)⟩, ⟨1, some (oXc r4 r5 1 1 r6.length)⟩, ⟨1, some (oXc r7 r8 2 1 r9.length)⟩, ⟨u10, some (L18.map i64)⟩, ⟨u11, some (L19.map i64)⟩, ⟨(u12 + 1), some (r41.map f32)⟩, ⟨(u13 + 1), some (r42.map f32)⟩, ⟨0, none⟩]) rfl siz41 rfl rfl rfl aR rfl rfl rfl he41 rfl<|zN ?_
           refine RunC.wl (τ' := [(1, f32 a3), (6, optr 0 1 0), (10, optr 3 1 0), (11, optr 4 1 0), (12, oref 5 u10 0 L18.length), (13, oref 6 u11 0 L19.length), (14, i64 v37), (15, i64 v38), (18, f32 r39), (19, oref 7 (u12 + 1) 0 r41.length), (20, oref 8 (u13 + 1) 0 r42.length), (50, i64 a4), (51, i64 v20), (94, i64 ((r6.length : Nat) : Int)), (95, i64 v47)]) (Γ' := [⟨1, some zMx⟩, ⟨1, some (L59.map f32)⟩, ⟨1, some (L56.map f32)⟩, ⟨1, some (oXc r4 r5 1 1 r6.length)⟩, ⟨1, some (oXc r7 r8 2 1 r9.length)⟩, ⟨u10, some (L18.map i64)⟩, ⟨u11, some (L19.map i64)⟩, ⟨(u12 + 1), some (r41.map f32)⟩, ⟨(u13 + 1), some (r42.map f32)⟩, ⟨0, none⟩]) ⟨aR, aR, aR, aR, aR, aR, aR, aR, aR, aR, aR, aR, aR, aR, aR, trivial⟩ ⟨⟨rfl, .inr rfl⟩, ⟨rfl, .inr rfl⟩, ⟨rfl, .inr rfl⟩, ⟨rfl, .inr rfl⟩, ⟨rfl, .inr rfl⟩, ⟨rfl, .inr rfl⟩, ⟨rfl, .inr rfl⟩, ⟨rfl, .inr rfl⟩, ⟨rfl, .inr rfl⟩, ⟨rfl, .inr rfl⟩, trivial⟩ ?_
           obtain ⟨x60, hx42, h14_⟩ := oL h14_
           refine yW<|yl rfl (i64 x60) (LOp.eqr (LOp.add rfl rfl rfl) (congrArg (ik .i64) hx42))<|ym rfl (i64 x60)<|zN ?_
           cases oI h14_
           exact ⟨_, rfl, ((setAt?_len he41).trans hl44), ((setAt?_len he38).trans hl46), ⟨aR, aR, aR, aR, aR, aR, aR, aR, aR, aR, aR, aR, aR, aR, aR, trivial⟩, ⟨⟨rfl, .inr rfl⟩, ⟨rfl, .inr rfl⟩, ⟨rfl, .inr rfl⟩, ⟨rfl, .inr rfl⟩, ⟨rfl, .inr rfl⟩, ⟨rfl, .inr rfl⟩, ⟨rfl, .inr rfl⟩, ⟨rfl, .inr rfl⟩, ⟨rfl, .inr rfl⟩, ⟨rfl, .inr rfl⟩, trivial⟩⟩
          ·refine yW<|yl rfl (b false) (LOp.eqb (LOp.lss rfl rfl rfl) hc27)<|zN ?_
           refine yS<|yF<|RunC.exit ?_
           cases oI h14_
           have hx := ho14 _ rfl
           exact ⟨L43, L45, hl44, hl46, ⟨aR, aR, aR, aR, aR, aR, aR, aR, aR, aR, trivial⟩, ⟨⟨rfl, .inr rfl⟩, ⟨rfl, .inr rfl⟩, ⟨rfl, .inr rfl⟩, ⟨rfl, .inr rfl⟩, ⟨rfl, .inr rfl⟩, ⟨rfl, .inr rfl⟩, ⟨rfl, .inr rfl⟩, ⟨rfl, .inl rfl⟩, ⟨rfl, .inl rfl⟩, ⟨rfl, .inr rfl⟩, trivial⟩, hx⟩
         ·rintro τ15 Γ15 ⟨L61, L63, hl62, hl64, hw15, hd15, rfl⟩
          refine RunC.wl hw15 hd15 ?_
          replace h10_ : i_CrossOf_k8 r4 r5 r7 r8 L18 L19 v20 v37 v38 L61 L63 = some y10_ := h10_
          unfold i_CrossOf_k8 at h10_
          refine yS<|yS ?_
          obtain ⟨r65, hf43, h10_⟩ := oS h10_
          rcases oB h10_ with ⟨hc44, h10_⟩ | ⟨hc44, h10_⟩
          ·obtain ⟨r66, hf45, h10_⟩ := oS h10_
           rcases oB h10_ with ⟨hc46, h10_⟩ | ⟨hc46, h10_⟩
           ·refine yW<|yd rfl (agg (oXc r7 r8 2 1 r9.length)) (TOp.loadAgg_o rfl agg27 siz27 rfl rfl rfl rfl)<|yd rfl (b true) (TOp.eqb (TOp.callB (CallAs.func ent45 rfl rfl) (Bors.cons (Bor.agg (bP (bP (Bors.cons (Bor.own (f := f32) (fun _ => rfl) rfl hl64) bN)))) bN) rfl rfl (i_ValidMatrix_ok r7 r8 L63 r65 hf43)) hc44)<|yl rfl (b false) y1<|ym rfl (b false)<|yd rfl (agg (oXc r4 r5 1 1 r6.length)) (TOp.loadAgg_o rfl agg27 siz27 rfl rfl rfl rfl)<|yd rfl (b true) (TOp.eqb (TOp.callB (CallAs.func ent45 rfl rfl) (Bors.cons (Bor.agg (bP (bP (Bors.cons (Bor.own (f := f32) (fun _ => rfl) rfl hl62) bN)))) bN) rfl rfl (i_ValidMatrix_ok r4 r5 L61 r66 hf45)) hc46)<|yl rfl (b false) y1<|yl rfl (b false) yp<|zN ?_
            refine yF<|RunC.skip ?_
            obtain ⟨hm47, h10_⟩ := need_some h10_
            obtain ⟨hm48, h10_⟩ := need_some h10_
            refine yW<|ym rfl (oref 5 u10 0 L18.length)<|ym rfl (i64 v37)<|ye rfl (oref 7 (u12 + 2) 0 1) ([⟨1, some zMx⟩, ⟨1, some (L61.map f32)⟩, ⟨1, some (L63.map f32)⟩, ⟨1, some (oXc r4 r5 1 1 r6.length)⟩, ⟨1, some (oXc r7 r8 2 1 r9.length)⟩, ⟨u10, some (L18.map i64)⟩, ⟨u11, some (L19.map i64)⟩, ⟨(u12 + 2), some (([v37] : List Int).map i64)⟩, ⟨(u13 + 1), none⟩, ⟨0, none⟩]) (TOp.buildSlice_o (g := ⟨(u12 + 1), none⟩) (za := i64 0) (qs := [(0, [i64 v37])]) 7 rfl und30 siz2 zer2 rfl zel2 rfl rfl ⟨rfl, ⟨_, ALe.refl _, rfl⟩, trivial⟩ rfl)<|ROps.app (f := i64) (xs := L18) (ys := ([v37] : List Int)) (Γ' := [⟨1, some zMx⟩, ⟨1, some (L61.map f32)⟩, ⟨1, some (L63.map f32)⟩, ⟨1, some (oXc r4 r5 1 1 r6.length)⟩, ⟨1, some (oXc r7 r8 2 1 r9.length)⟩, ⟨(u10 + 1), some ((L18 ++ ([v37] : List Int)).map i64)⟩, ⟨u11, some (L19.map i64)⟩, ⟨(u12 + 2), some (([v37] : List Int).map i64)⟩, ⟨(u13 + 1), none⟩, ⟨0, none⟩]) rfl pun30 inf2 rfl rfl rfl rfl rfl rfl rfl rfl rfl (by simp) (ReadAs.own rfl (by simp)) (ones_map (fun _ => rfl)) (ap_by hm47) (ap_mx hm47) rfl<|ym rfl (oref 6 u11 0 L19.length)<|ym rfl (i64 v38)<|ye rfl (oref 8 (u13 + 2) 0 1) ([⟨1, some zMx⟩, ⟨1, some (L61.map f32)⟩, ⟨1, some (L63.map f32)⟩, ⟨1, some (oXc r4 r5 1 1 r6.length)⟩, ⟨1, some (oXc r7 r8 2 1 r9.length)⟩, ⟨(u10 + 1), some ((L18 ++ ([v37] : List Int)).map i64)⟩, ⟨u11, some (L19.map i64)⟩, ⟨(u12 + 2), some (([v37] : List Int).map i64)⟩, ⟨(u13 + 2), some (([v38] : List Int).map i64)⟩, ⟨0, none⟩]) (TOp.buildSlice_o (g := ⟨(u13 + 1), none⟩) (za := i64 0) (qs := [(0, [i64 v38])]) 8 rfl und30 siz2 zer2 rfl zel2 rfl rfl ⟨rfl, ⟨_, ALe.refl _, rfl⟩, trivial⟩ rfl)<|ROps.app (f := i64) (xs := L19) (ys := ([v38] : List Int)) (Γ' := [⟨1, some zMx⟩, ⟨1, some (L61.map f32)⟩, ⟨1, some (L63.map f32)⟩, ⟨1, some (oXc r4 r5 1 1 r6.length)⟩, ⟨1, some (oXc r7 r8 2 1 r9.length)⟩, ⟨(u10 + 1), some ((L18 ++ ([v37] : List Int)).map i64)⟩, ⟨(u11 + 1), some ((L19 ++ ([v38] : List Int)).map i64)⟩, ⟨(u12 + 2), some (([v37] : List Int).map i64)⟩, ⟨(u13 + 2), some (([v38] : List Int).map i64)⟩, ⟨0, none⟩]) rfl pun30 inf2 rfl rfl rfl rfl rfl rfl rfl rfl rfl (by simp) (ReadAs.own rfl (by simp)) (ones_map (fun _ => rfl)) (ap_by hm48) (ap_mx hm48) rfl<|ya rfl (oref 5 (u10 + 1) 0 (L18.length + 1))<|ya rfl (oref 6 (u11 + 1) 0 (L19.length + 1))<|zN ?_
            refine RunC.wl (τ' := [(1, f32 a3), (6, optr 0 1 0), (10, optr 3 1 0), (11, optr 4 1 0), (12, oref 5 (u10 + 1) 0 (L18.length + 1)), (13, oref 6 (u11 + 1) 0 (L19.length + 1)), (50, i64 a4), (51, i64 v20), (136, agg (oXc r4 r5 1 1 r6.length)), (137, b true), (138, b false)]) (Γ' := [⟨1, some zMx⟩, ⟨1, some (L61.map f32)⟩, ⟨1, some (L63.map f32)⟩, ⟨1, some (oXc r4 r5 1 1 r6.length)⟩, ⟨1, some (oXc r7 r8 2 1 r9.length)⟩, ⟨(u10 + 1), some ((L18 ++ ([v37] : List Int)).map i64)⟩, ⟨(u11 + 1), some ((L19 ++ ([v38] : List Int)).map i64)⟩, ⟨(u12 + 2), none⟩, ⟨(u13 + 2), none⟩, ⟨0, none⟩]) ⟨aR, aR, aR, aR, aR, aR, aR, aR, aR, aR, aR, trivial⟩ ⟨⟨rfl, .inr rfl⟩, ⟨rfl, .inr rfl⟩, ⟨rfl, .inr rfl⟩, ⟨rfl, .inr rfl⟩, ⟨rfl, .inr rfl⟩, ⟨rfl, .inr rfl⟩, ⟨rfl, .inr rfl⟩, ⟨rfl, .inl rfl⟩, ⟨rfl, .inl rfl⟩, ⟨rfl, .inr rfl⟩, trivial⟩ ?_
            obtain ⟨x67, hx49, h10_⟩ := oL h10_
            refine yW<|yl rfl (i64 x67) (LOp.eqr (LOp.add rfl rfl rfl) (congrArg (ik .i64) hx49))<|ym rfl (i64 x67)<|zN ?_
            cases oI h10_
            exact ⟨_, rfl, (u10 + 1), (u11 + 1), (u12 + 2), (u13 + 2), hl62, hl64, ⟨aR, aR, aR, aR, (ALe.eq (by rw [(app_len rfl rfl)] <;> rfl)), (ALe.eq (by rw [(app_len rfl rfl)] <;> rfl)), aR, aR, trivial⟩, ⟨⟨rfl, .inr rfl⟩, ⟨rfl, .inr rfl⟩, ⟨rfl, .inr rfl⟩, ⟨rfl, .inr rfl⟩, ⟨rfl, .inr rfl⟩, ⟨rfl, .inr rfl⟩, ⟨rfl, .inr rfl⟩, ⟨rfl, .inl rfl⟩, ⟨rfl, .inl rfl⟩, ⟨rfl, .inr rfl⟩, trivial⟩⟩
           ·refine yW<|yd rfl (agg (oXc r7 r8 2 1 r9.length)) (TOp.loadAgg_o rfl agg27 siz27 rfl rfl rfl rfl)<|yd rfl (b true) (TOp.eqb (TOp.callB (CallAs.func ent45 rfl rfl) (Bors.cons (Bor.agg (bP (bP (Bors.cons (Bor.own (f := f32) (fun _ => rfl) rfl hl64) bN)))) bN) rfl rfl (i_ValidMatrix_ok r7 r8 L63 r65 hf43)) hc44)<|yl rfl (b false) y1<|ym rfl (b false)<|yd rfl (agg (oXc r4 r5 1 1 r6.length)) (TOp.loadAgg_o rfl agg27 siz27 rfl rfl rfl rfl)<|yd rfl (b false) (TOp.eqb (TOp.callB (CallAs.func ent45 rfl rfl) (Bors.cons (Bor.agg (bP (bP (Bors.cons (Bor.own (f := f32) (fun _ => rfl) rfl hl62) bN)))) bN) rfl rfl (i_ValidMatrix_ok r4 r5 L61 r66 hf45)) hc46)<|yl rfl (b true) y0<|yl rfl (b true) yp<|zN ?_
            refine yT<|zQ<|yl rfl (agg zMx) (LOp.build (qs := []) zer27 zok27 und27 plc27 rfl trivial rfl)<|ys (agg zMx) zMx [⟨1, some zMx⟩, ⟨1, some (L61.map f32)⟩, ⟨1, some (L63.map f32)⟩, ⟨1, some (oXc r4 r5 1 1 r6.length)⟩, ⟨1, some (oXc r7 r8 2 1 r9.length)⟩, ⟨u10, some (L18.map i64)⟩, ⟨u11, some (L19.map i64)⟩, ⟨(u12 + 1), none⟩, ⟨(u13 + 1), none⟩, ⟨0, none⟩] siz27<|ya rfl nilsl<|ya rfl nilsl<|ya rfl (b false)<|zN ?_
            refine RunC.nil_cell (l' := [i64 0, i64 0, oref 7 (u12 + 2) 0 0]) (Γ' := [⟨1, some [i64 0, i64 0, oref 7 (u12 + 2) 0 0]⟩, ⟨1, some (L61.map f32)⟩, ⟨1, some (L63.map f32)⟩, ⟨1, some (oXc r4 r5 1 1 r6.length)⟩, ⟨1, some (oXc r7 r8 2 1 r9.length)⟩, ⟨u10, some (L18.map i64)⟩, ⟨u11, some (L19.map i64)⟩, ⟨(u12 + 2), some (([] : List F).map f32)⟩, ⟨(u13 + 1), none⟩, ⟨0, none⟩]) 0 2 7 rfl rfl rfl rfl rfl<|RunC.nil_slot (Γ' := [⟨1, some [i64 0, i64 0, oref 7 (u12 + 2) 0 0]⟩, ⟨1, some (L61.map f32)⟩, ⟨1, some (L63.map f32)⟩, ⟨1, some (oXc r4 r5 1 1 r6.length)⟩, ⟨1, some (oXc r7 r8 2 1 r9.length)⟩, ⟨u10, some (L18.map i64)⟩, ⟨u11, some (L19.map i64)⟩, ⟨(u12 + 2), some (([] : List F).map f32)⟩, ⟨(u13 + 2), some (([] : List Int).map i64)⟩, ⟨0, none⟩]) 7 8 rfl rfl rfl<|RunC.nil_slot (Γ' := [⟨1, some [i64 0, i64 0, oref 7 (u12 + 2) 0 0]⟩, ⟨1, some (L61.map f32)⟩, ⟨1, some (L63.map f32)⟩, ⟨1, some (oXc r4 r5 1 1 r6.length)⟩, ⟨1, some (oXc r7 r8 2 1 r9.length)⟩, ⟨u10, some (L18.map i64)⟩, ⟨u11, some (L19.map i64)⟩, ⟨(u12 + 2), some (([] : List F).map f32)⟩, ⟨(u13 + 2), some (([] : List Int).map i64)⟩, ⟨1, some (([] : List Int).map i64)⟩]) 8 9 rfl rfl rfl<|RunC.ret ?_
            cases oI h10_
            have hx16_ := hr10 _ rfl
            subst hx16_
            have hq := oI h
            obtain ⟨hq0, hq⟩ := Prod.mk.inj hq
            obtain ⟨hq1, hq⟩ := Prod.mk.inj hq
            obtain ⟨hq2, hq⟩ := Prod.mk.inj hq
            obtain ⟨hq3, hq⟩ := Prod.mk.inj hq
            obtain ⟨hq4, hq⟩ := Prod.mk.inj hq
            subst q0
            subst q1
            subst q2
            subst q3
            subst q4
            subst q5
            exact bodyQ.mk (r' := tup [agg [i64 0, i64 0, oref 7 (u12 + 2) 0 (([] : List F).length)], oref 8 (u13 + 2) 0 (([] : List Int).length), oref 9 1 0 (([] : List Int).length), b false]) [(7, (u12 + 2)), (8, (u13 + 2)), (9, 1)] (.inr rfl) rfl (show List.Nodup [7, 8, 9] from by decide) (by simp [ren, rens, sigma]) rfl (Res.eq (Res.four rfl (RV.cell agg27 siz27 rfl rfl rfl rfl) (RV.tmp rfl) (RV.tmp rfl) (RV.tmp rfl)) (by rw [(show ([] : List F).length = 0 from rfl), (show ([] : List Int).length = 0 from rfl)] <;> rfl)) (SelL.arr0 (f := f32) (fun _ => rfl) rfl (SelL.arr0 (f := i64) (fun _ => rfl) rfl (SelL.arr0 (f := i64) (fun _ => rfl) rfl trivial)))
          ·refine yW<|yd rfl (agg (oXc r7 r8 2 1 r9.length)) (TOp.loadAgg_o rfl agg27 siz27 rfl rfl rfl rfl)<|yd rfl (b false) (TOp.eqb (TOp.callB (CallAs.func ent45 rfl rfl) (Bors.cons (Bor.agg (bP (bP (Bors.cons (Bor.own (f := f32) (fun _ => rfl) rfl hl64) bN)))) bN) rfl rfl (i_ValidMatrix_ok r7 r8 L63 r65 hf43)) hc44)<|yl rfl (b true) y0<|ym rfl (b true)<|ROps.s rfl rfl rfl<|ROps.s rfl rfl rfl<|ROps.s rfl rfl rfl<|yl rfl (b true) yq<|zN ?_
           refine yT<|zQ<|yl rfl (agg zMx) (LOp.build (qs := []) zer27 zok27 und27 plc27 rfl trivial rfl)<|ys (agg zMx) zMx [⟨1, some zMx⟩, ⟨1, some (L61.map f32)⟩, ⟨1, some (L63.map f32)⟩, ⟨1, some (oXc r4 r5 1 1 r6.length)⟩, ⟨1, some (oXc r7 r8 2 1 r9.length)⟩, ⟨u10, some (L18.map i64)⟩, ⟨u11, some (L19.map i64)⟩, ⟨(u12 + 1), none⟩, ⟨(u13 + 1), none⟩, ⟨0, none⟩] siz27<|ya rfl nilsl<|ya rfl nilsl<|ya rfl (b false)<|zN ?_
           refine RunC.nil_cell (l' := [i64 0, i64 0, oref 7 (u12 + 2) 0 0]) (Γ' := [⟨1, some [i64 0, i64 0, oref 7 (u12 + 2) 0 0]⟩, ⟨1, some (L61.map f32)⟩, ⟨1, some (L63.map f32)⟩, ⟨1, some (oXc r4 r5 1 1 r6.length)⟩, ⟨1, some (oXc r7 r8 2 1 r9.length)⟩, ⟨u10, some (L18.map i64)⟩, ⟨u11, some (L19.map i64)⟩, ⟨(u12 + 2), some (([] : List F).map f32)⟩, ⟨(u13 + 1), none⟩, ⟨0, none⟩]) 0 2 7 rfl rfl rfl rfl rfl<|RunC.nil_slot (Γ' := [⟨1, some [i64 0, i64 0, oref 7 (u12 + 2) 0 0]⟩, ⟨1, some (L61.map f32)⟩, ⟨1, some (L63.map f32)⟩, ⟨1, some (oXc r4 r5 1 1 r6.length)⟩, ⟨1, some (oXc r7 r8 2 1 r9.length)⟩, ⟨u10, some (L18.map i64)⟩, ⟨u11, some (L19.map i64)⟩, ⟨(u12 + 2), some (([] : List F).map f32)⟩, ⟨(u13 + 2), some (([] : List Int).map i64)⟩, ⟨0, none⟩]) 7 8 rfl rfl rfl<|RunC.nil_slot (Γ' := [⟨1, some [i64 0, i64 0, oref 7 (u12 + 2) 0 0]⟩, ⟨1, some (L61.map f32)⟩, ⟨1, some (L63.map f32)⟩, ⟨1, some (oXc r4 r5 1 1 r6.length)⟩, ⟨1, some (oXc r7 r8 2 1 r9.length)⟩, ⟨u10, some (L18.map i64)⟩, ⟨u11, some (L19.map i64)⟩, ⟨(u12 + 2), some (([] : List F).map f32)⟩, ⟨(u13 + 2), some (([] : List Int).map i64)⟩, ⟨1, some (([] : List Int).map i64)⟩]) 8 9 rfl rfl rfl<|RunC.ret ?_
           cases oI h10_
           have hx17_ := hr10 _ rfl
           subst hx17_
           have hq := oI h
           obtain ⟨hq0, hq⟩ := Prod.mk.inj hq
           obtain ⟨hq1, hq⟩ := Prod.mk.inj hq
           obtain ⟨hq2, hq⟩ := Prod.mk.inj hq
           obtain ⟨hq3, hq⟩ := Prod.mk.inj hq
           obtain ⟨hq4, hq⟩ := Prod.mk.inj hq
           subst q0
           subst q1
           subst q2
           subst q3
           subst q4
           subst q5
           exact bodyQ.mk (r' := tup [agg [i64 0, i64 0, oref 7 (u12 + 2) 0 (([] : List F).length)], oref 8 (u13 + 2) 0 (([] : List Int).length), oref 9 1 0 (([] : List Int).length), b false]) [(7, (u12 + 2)), (8, (u13 + 2)), (9, 1)] (.inr rfl) rfl (show List.Nodup [7, 8, 9] from by decide) (by simp [ren, rens, sigma]) rfl (Res.eq (Res.four rfl (RV.cell agg27 siz27 rfl rfl rfl rfl) (RV.tmp rfl) (RV.tmp rfl) (RV.tmp rfl)) (by rw [(show ([] : List F).length = 0 from rfl), (show ([] : List Int).length = 0 from rfl)] <;> rfl)) (SelL.arr0 (f := f32) (fun _ => rfl) rfl (SelL.arr0 (f := i64) (fun _ => rfl) rfl (SelL.arr0 (f := i64) (fun _ => rfl) rfl trivial)))
      ·refine yW<|yl rfl (b false) (LOp.eqb (LOp.lss rfl rfl rfl) hc10)<|zN ?_
       refine yS<|yF<|RunC.exit ?_
       cases oI h10_
       have hx := ho10 _ rfl
       exact ⟨L16, L18, L19, u10, u11, u12, u13, hl17, ⟨aR, aR, aR, aR, trivial⟩, ⟨⟨rfl, .inr rfl⟩, ⟨rfl, .inl rfl⟩, ⟨rfl, .inr rfl⟩, ⟨rfl, .inl rfl⟩, ⟨rfl, .inr rfl⟩, ⟨rfl, .inr rfl⟩, ⟨rfl, .inr rfl⟩, ⟨rfl, .inl rfl⟩, ⟨rfl, .inl rfl⟩, ⟨rfl, .inr rfl⟩, trivial⟩, hx⟩
     ·rintro τ18 Γ18 ⟨L72, L74, L75, u68, u69, u70, u71, hl73, hw18, hd18, rfl⟩
      refine RunC.wl hw18 hd18 ?_
      replace h : i_CrossOf_k9 r7 r8 L72 L74 L75 = some (q0, q1, q2, q3, q4, q5) := h
      unfold i_CrossOf_k9 at h
      refine zQ<|yd rfl (agg (oXc r7 r8 2 1 r9.length)) (TOp.loadAgg_o rfl agg27 siz27 rfl rfl rfl rfl)<|ym rfl (oref 5 u68 0 L74.length)<|ym rfl (oref 6 u69 0 L75.length)<|ys (agg (oXc r7 r8 2 1 r9.length)) (oXc r7 r8 2 1 r9.length) [⟨1, some (oXc r7 r8 2 1 r9.length)⟩, ⟨1, none⟩, ⟨1, some (L72.map f32)⟩, ⟨1, none⟩, ⟨1, some (oXc r7 r8 2 1 r9.length)⟩, ⟨u68, some (L74.map i64)⟩, ⟨u69, some (L75.map i64)⟩, ⟨u70, none⟩, ⟨u71, none⟩, ⟨0, none⟩] siz27<|ya rfl (oref 5 u68 0 L74.length)<|ya rfl (oref 6 u69 0 L75.length)<|ya rfl (b true)<|zN ?_
      refine RunC.ret ?_
      have hq := oI h
      obtain ⟨hq0, hq⟩ := Prod.mk.inj hq
      obtain ⟨hq1, hq⟩ := Prod.mk.inj hq
      obtain ⟨hq2, hq⟩ := Prod.mk.inj hq
      obtain ⟨hq3, hq⟩ := Prod.mk.inj hq
      obtain ⟨hq4, hq⟩ := Prod.mk.inj hq
      subst q0
      subst q1
      subst q2
      subst q3
      subst q4
      subst q5
      exact bodyQ.mk (r' := tup [agg (oXc r7 r8 2 1 L72.length), oref 5 u68 0 L74.length, oref 6 u69 0 L75.length, b true]) [(2, 1), (5, u68), (6, u69)] (.inr rfl) rfl (show List.Nodup [2, 5, 6] from by decide) (by simp [ren, rens, sigma]) rfl (Res.eq (Res.four rfl (RV.cell agg27 siz27 rfl rfl rfl rfl) (RV.tmp rfl) (RV.tmp rfl) (RV.tmp rfl)) (by rw [(show L72.length = r9.length from hl73)] <;> rfl)) (SelL.arr0 (f := f32) (fun _ => rfl) rfl (SelL.arr0 (f := i64) (fun _ => rfl) rfl (SelL.arr0 (f := i64) (fun _ => rfl) rfl trivial)))
    ·refine yW<|yl rfl (agg (mXc a0 a1 a2)) (yL agg27 siz27)<|yd rfl (b true) (TOp.eqb (TOp.callB (CallAs.func ent45 rfl rfl) (Bors.cons (Bor.agg (bP (bP (bS bN)))) bN) rfl rfl (i_ValidMatrix_ok a0 a1 a2 r1 hf1)) hc2)<|yl rfl (b false) y1<|ym rfl (b false)<|ym rfl (f32 a3)<|yd rfl (b true) (TOp.eqb (yc ent82 rfl rfl bN0 (i_IsFinite_ok a3 r2 hf3)) hc4)<|yl rfl (b false) y1<|yl rfl (b false) yp<|ym rfl (b false)<|ym rfl (f32 a3)<|yl rfl (b false) (LOp.eqb (LOp.flt rfl (OpF.tmp rfl) (OpF.const rfl (by kernel_rfl) (by kernel_rfl))) hc5)<|yl rfl (b false) yp<|ym rfl (b false)<|ym rfl (i64 a4)<|yd rfl (b false) (TOp.eqb (yc ent93 rfl rfl bN0 (i_isSide_ok a4 r3 hf6)) hc7)<|yl rfl (b true) y0<|yl rfl (b true) yp<|zN ?_
     refine RunC.wl (τ' := [(1, f32 a3), (2, i64 a4), (3, ptr (mXc a0 a1 a2)), (6, optr 0 1 0), (39, b true)]) (Γ' := [⟨1, some zMx⟩, ⟨0, none⟩, ⟨0, none⟩, ⟨0, none⟩, ⟨0, none⟩, ⟨0, none⟩, ⟨0, none⟩, ⟨0, none⟩, ⟨0, none⟩, ⟨0, none⟩]) ⟨aR, aR, aR, aR, aR, trivial⟩ ⟨⟨rfl, .inr rfl⟩, ⟨rfl, .inr rfl⟩, ⟨rfl, .inr rfl⟩, ⟨rfl, .inr rfl⟩, ⟨rfl, .inr rfl⟩, ⟨rfl, .inr rfl⟩, ⟨rfl, .inr rfl⟩, ⟨rfl, .inr rfl⟩, ⟨rfl, .inr rfl⟩, ⟨rfl, .inr rfl⟩, trivial⟩<|yT<|zQ<|yl rfl (agg zMx) (LOp.build (qs := []) zer27 zok27 und27 plc27 rfl trivial rfl)<|ys (agg zMx) zMx [⟨1, some zMx⟩, ⟨0, none⟩, ⟨0, none⟩, ⟨0, none⟩, ⟨0, none⟩, ⟨0, none⟩, ⟨0, none⟩, ⟨0, none⟩, ⟨0, none⟩, ⟨0, none⟩] siz27<|ya rfl nilsl<|ya rfl nilsl<|ya rfl (b false)<|zN ?_
     refine RunC.nil_cell (l' := [i64 0, i64 0, oref 1 1 0 0]) (Γ' := [⟨1, some [i64 0, i64 0, oref 1 1 0 0]⟩, ⟨1, some (([] : List F).map f32)⟩, ⟨0, none⟩, ⟨0, none⟩, ⟨0, none⟩, ⟨0, none⟩, ⟨0, none⟩, ⟨0, none⟩, ⟨0, none⟩, ⟨0, none⟩]) 0 2 1 rfl rfl rfl rfl rfl<|RunC.nil_slot (Γ' := [⟨1, some [i64 0, i64 0, oref 1 1 0 0]⟩, ⟨1, some (([] : List F).map f32)⟩, ⟨1, some (([] : List Int).map i64)⟩, ⟨0, none⟩, ⟨0, none⟩, ⟨0, none⟩, ⟨0, none⟩, ⟨0, none⟩, ⟨0, none⟩, ⟨0, none⟩]) 7 2 rfl rfl rfl<|RunC.nil_slot (Γ' := [⟨1, some [i64 0, i64 0, oref 1 1 0 0]⟩, ⟨1, some (([] : List F).map f32)⟩, ⟨1, some (([] : List Int).map i64)⟩, ⟨1, some (([] : List Int).map i64)⟩, ⟨0, none⟩, ⟨0, none⟩, ⟨0, none⟩, ⟨0, none⟩, ⟨0, none⟩, ⟨0, none⟩]) 8 3 rfl rfl rfl<|RunC.ret ?_
     have hq := oI h
     obtain ⟨hq0, hq⟩ := Prod.mk.inj hq
     obtain ⟨hq1, hq⟩ := Prod.mk.inj hq
     obtain ⟨hq2, hq⟩ := Prod.mk.inj hq
     obtain ⟨hq3, hq⟩ := Prod.mk.inj hq
     obtain ⟨hq4, hq⟩ := Prod.mk.inj hq
     subst q0
     subst q1
     subst q2
     subst q3
     subst q4
     subst q5
     exact yB (tup [agg [i64 0, i64 0, oref 1 1 0 (([] : List F).length)], oref 2 1 0 (([] : List Int).length), oref 3 1 0 (([] : List Int).length), b false]) [(1, 1), (2, 1), (3, 1)] (Res.eq (Res.four rfl (RV.cell agg27 siz27 rfl rfl rfl rfl) (RV.tmp rfl) (RV.tmp rfl) (RV.tmp rfl)) (by rw [(show ([] : List F).length = 0 from rfl), (show ([] : List Int).length = 0 from rfl)] <;> rfl)) (SelL.arr0 (f := f32) (fun _ => rfl) rfl (SelL.arr0 (f := i64) (fun _ => rfl) rfl (SelL.arr0 (f := i64) (fun _ => rfl) rfl trivial)))
  ·refine yW<|yl rfl (agg (mXc a0 a1 a2)) (yL agg27 siz27)<|yd rfl (b true) (TOp.eqb (TOp.callB (CallAs.func ent45 rfl rfl) (Bors.cons (Bor.agg (bP (bP (bS bN)))) bN) rfl rfl (i_ValidMatrix_ok a0 a1 a2 r1 hf1)) hc2)<|yl rfl (b false) y1<|ym rfl (b false)<|ym rfl (f32 a3)<|yd rfl (b false) (TOp.eqb (yc ent82 rfl rfl bN0 (i_IsFinite_ok a3 r2 hf3)) hc4)<|yl rfl (b true) y0<|yl rfl (b true) yp<|ym rfl (b true)<|ROps.s rfl rfl rfl<|ROps.s rfl rfl rfl<|yl rfl (b true) yq<|ym rfl (b true)<|ROps.s rfl rfl rfl<|ROps.s rfl rfl rfl<|ROps.s rfl rfl rfl<|yl rfl (b true) yq<|zN ?_
   refine RunC.wl (τ' := [(1, f32 a3), (2, i64 a4), (3, ptr (mXc a0 a1 a2)), (6, optr 0 1 0), (39, b true)]) (Γ' := [⟨1, some zMx⟩, ⟨0, none⟩, ⟨0, none⟩, ⟨0, none⟩, ⟨0, none⟩, ⟨0, none⟩, ⟨0, none⟩, ⟨0, none⟩, ⟨0, none⟩, ⟨0, none⟩]) ⟨aR, aR, aR, aR, aR, trivial⟩ ⟨⟨rfl, .inr rfl⟩, ⟨rfl, .inr rfl⟩, ⟨rfl, .inr rfl⟩, ⟨rfl, .inr rfl⟩, ⟨rfl, .inr rfl⟩, ⟨rfl, .inr rfl⟩, ⟨rfl, .inr rfl⟩, ⟨rfl, .inr rfl⟩, ⟨rfl, .inr rfl⟩, ⟨rfl, .inr rfl⟩, trivial⟩<|yT<|zQ<|yl rfl (agg zMx) (LOp.build (qs := []) zer27 zok27 und27 plc27 rfl trivial rfl)<|ys (agg zMx) zMx [⟨1, some zMx⟩, ⟨0, none⟩, ⟨0, none⟩, ⟨0, none⟩, ⟨0, none⟩, ⟨0, none⟩, ⟨0, none⟩, ⟨0, none⟩, ⟨0, none⟩, ⟨0, none⟩] siz27<|ya rfl nilsl<|ya rfl nilsl<|ya rfl (b false)<|zN ?_
   refine RunC.nil_cell (l' := [i64 0, i64 0, oref 1 1 0 0]) (Γ' := [⟨1, some [i64 0, i64 0, oref 1 1 0 0]⟩, ⟨1, some (([] : List F).map f32)⟩, ⟨0, none⟩, ⟨0, none⟩, ⟨0, none⟩, ⟨0, none⟩, ⟨0, none⟩, ⟨0, none⟩, ⟨0, none⟩, ⟨0, none⟩]) 0 2 1 rfl rfl rfl rfl rfl<|RunC.nil_slot (Γ' := [⟨1, some [i64 0, i64 0, oref 1 1 0 0]⟩, ⟨1, some (([] : List F).map f32)⟩, ⟨1, some (([] : List Int).map i64)⟩, ⟨0, none⟩, ⟨0, none⟩, ⟨0, none⟩, ⟨0, none⟩, ⟨0, none⟩, ⟨0, none⟩, ⟨0, none⟩]) 7 2 rfl rfl rfl<|RunC.nil_slot (Γ' := [⟨1, some [i64 0, i64 0, oref 1 1 0 0]⟩, ⟨1, some (([] : List F).map f32)⟩, ⟨1, some (([] : List Int).map i64)⟩, ⟨1, some (([] : List Int).map i64)⟩, ⟨0, none⟩, ⟨0, none⟩, ⟨0, none⟩, ⟨0, none⟩, ⟨0, none⟩, ⟨0, none⟩]) 8 3 rfl rfl rfl<|RunC.ret ?_
   have hq := oI h
   obtain ⟨hq0, hq⟩ := Prod.mk.inj hq
   obtain ⟨hq1, hq⟩ := Prod.mk.inj hq
   obtain ⟨hq2, hq⟩ := Prod.mk.inj hq
   obtain ⟨hq3, hq⟩ := Prod.mk.inj hq
   obtain ⟨hq4, hq⟩ := Prod.mk.inj hq
   subst q0
   subst q1
   subst q2
   subst q3
   subst q4
   subst q5
   exact yB (tup [agg [i64 0, i64 0, oref 1 1 0 (([] : List F).length)], oref 2 1 0 (([] : List Int).length), oref 3 1 0 (([] : List Int).length), b false]) [(1, 1), (2, 1), (3, 1)] (Res.eq (Res.four rfl (RV.cell agg27 siz27 rfl rfl rfl rfl) (RV.tmp rfl) (RV.tmp rfl) (RV.tmp rfl)) (by rw [(show ([] : List F).length = 0 from rfl), (show ([] : List Int).length = 0 from rfl)] <;> rfl)) (SelL.arr0 (f := f32) (fun _ => rfl) rfl (SelL.arr0 (f := i64) (fun _ => rfl) rfl (SelL.arr0 (f := i64) (fun _ => rfl) rfl trivial)))
 ·refine yW<|yl rfl (agg (mXc a0 a1 a2)) (yL agg27 siz27)<|yd rfl (b false) (TOp.eqb (TOp.callB (CallAs.func ent45 rfl rfl) (Bors.cons (Bor.agg (bP (bP (bS bN)))) bN) rfl rfl (i_ValidMatrix_ok a0 a1 a2 r1 hf1)) hc2)<|yl rfl (b true) y0<|ym rfl (b true)<|ROps.s rfl rfl rfl<|ROps.s rfl rfl rfl<|ROps.s rfl rfl rfl<|yl rfl (b true) yq<|ym rfl (b true)<|ROps.s rfl rfl rfl<|ROps.s rfl rfl rfl<|yl rfl (b true) yq<|ym rfl (b true)<|ROps.s rfl rfl rfl<|ROps.s rfl rfl rfl<|ROps.s rfl rfl rfl<|yl rfl (b true) yq<|zN ?_
  refine RunC.wl (τ' := [(1, f32 a3), (2, i64 a4), (3, ptr (mXc a0 a1 a2)), (6, optr 0 1 0), (39, b true)]) (Γ' := [⟨1, some zMx⟩, ⟨0, none⟩, ⟨0, none⟩, ⟨0, none⟩, ⟨0, none⟩, ⟨0, none⟩, ⟨0, none⟩, ⟨0, none⟩, ⟨0, none⟩, ⟨0, none⟩]) ⟨aR, aR, aR, aR, aR, trivial⟩ ⟨⟨rfl, .inr rfl⟩, ⟨rfl, .inr rfl⟩, ⟨rfl, .inr rfl⟩, ⟨rfl, .inr rfl⟩, ⟨rfl, .inr rfl⟩, ⟨rfl, .inr rfl⟩, ⟨rfl, .inr rfl⟩, ⟨rfl, .inr rfl⟩, ⟨rfl, .inr rfl⟩, ⟨rfl, .inr rfl⟩, trivial⟩<|yT<|zQ<|yl rfl (agg zMx) (LOp.build (qs := []) zer27 zok27 und27 plc27 rfl trivial rfl)<|ys (agg zMx) zMx [⟨1, some zMx⟩, ⟨0, none⟩, ⟨0, none⟩, ⟨0, none⟩, ⟨0, none⟩, ⟨0, none⟩, ⟨0, none⟩, ⟨0, none⟩, ⟨0, none⟩, ⟨0, none⟩] siz27<|ya rfl nilsl<|ya rfl nilsl<|ya rfl (b false)<|zN ?_
  refine RunC.nil_cell (l' := [i64 0, i64 0, oref 1 1 0 0]) (Γ' := [⟨1, some [i64 0, i64 0, oref 1 1 0 0]⟩, ⟨1, some (([] : List F).map f32)⟩, ⟨0, none⟩, ⟨0, none⟩, ⟨0, none⟩, ⟨0, none⟩, ⟨0, none⟩, ⟨0, none⟩, ⟨0, none⟩, ⟨0, none⟩]) 0 2 1 rfl rfl rfl rfl rfl<|RunC.nil_slot (Γ' := [⟨1, some [i64 0, i64 0, oref 1 1 0 0]⟩, ⟨1, some (([] : List F).map f32)⟩, ⟨1, some (([] : List Int).map i64)⟩, ⟨0, none⟩, ⟨0, none⟩, ⟨0, none⟩, ⟨0, none⟩, ⟨0, none⟩, ⟨0, none⟩, ⟨0, none⟩]) 7 2 rfl rfl rfl<|RunC.nil_slot (Γ' := [⟨1, some [i64 0, i64 0, oref 1 1 0 0]⟩, ⟨1, some (([] : List F).map f32)⟩, ⟨1, some (([] : List Int).map i64)⟩, ⟨1, some (([] : List Int).map i64)⟩, ⟨0, none⟩, ⟨0, none⟩, ⟨0, none⟩, ⟨0, none⟩, ⟨0, none⟩, ⟨0, none⟩]) 8 3 rfl rfl rfl<|RunC.ret ?_
  have hq := oI h
  obtain ⟨hq0, hq⟩ := Prod.mk.inj hq
  obtain ⟨hq1, hq⟩ := Prod.mk.inj hq
  obtain ⟨hq2, hq⟩ := Prod.mk.inj hq
  obtain ⟨hq3, hq⟩ := Prod.mk.inj hq
  obtain ⟨hq4, hq⟩ := Prod.mk.inj hq
  subst q0
  subst q1
  subst q2
  subst q3
  subst q4
  subst q5
  exact yB (tup [agg [i64 0, i64 0, oref 1 1 0 (([] : List F).length)], oref 2 1 0 (([] : List Int).length), oref 3 1 0 (([] : List Int).length), b false]) [(1, 1), (2, 1), (3, 1)] (Res.eq (Res.four rfl (RV.cell agg27 siz27 rfl rfl rfl rfl) (RV.tmp rfl) (RV.tmp rfl) (RV.tmp rfl)) (by rw [(show ([] : List F).length = 0 from rfl), (show ([] : List Int).length = 0 from rfl)] <;> rfl)) (SelL.arr0 (f := f32) (fun _ => rfl) rfl (SelL.arr0 (f := i64) (fun _ => rfl) rfl (SelL.arr0 (f := i64) (fun _ => rfl) rfl trivial)))
def w_b10Far_b1 (a0 : List F) (a1 : List F) (a2 : F) (v1 : Int) : Option (LR (Int) (Unit) (Bool)) :=
 bsel (decide (v1 < (a0.length : Int))) (
  obind (at? a0 v1) fun (e2 : F) =>
  olet (fwiden e2) fun (x3 : F) =>
  obind (at? a1 v1) fun (e4 : F) =>
  olet (fwiden e4) fun (x5 : F) =>
  obind (w_b10Gap x3 x5) fun (r6 : F) =>
  bsel (fle .f64 r6 a2) (
   olet (IntKind.i64.wrap (v1 + 1)) fun (x7 : Int) =>
   some (LR.next x7)) (
   some (LR.ret true))) (
  some (LR.out ()))
def w_b10Far_s1 (a0 : List F) (a1 : List F) (a2 : F) : (Int) → Option (LR (Int) (Unit) (Bool)) := fun s => w_b10Far_b1 a0 a1 a2 s
def w_b10Far_k1  : Option (Bool) :=
 some false
def w_b10Far (a0 : List F) (a1 : List F) (a2 : F) : Option (Bool) :=
 bsel (!decide ((a0.length : Int) = (a1.length : Int))) (
  some true) (
  obind (loopM (w_b10Far_s1 a0 a1 a2) 0) fun z => osum z (fun _ => w_b10Far_k1) (fun r => some r))
theorem w_b10Far_ok (a0 : List F) (a1 : List F) (a2 : F) (q0 : Bool) (h : w_b10Far a0 a1 a2 = some q0) : Ev Tryz.prog 25 [(sFc a0), (sFc a1), f64 a2] [] (b q0) [] := by
 refine yE Tryz.func25 0 67 0 [(0, (sFc a0)), (1, (sFc a1)), (2, f64 a2)] [] rfl ?_
 unfold w_b10Far at h
 refine zQ<|ya rfl (b false)<|zN ?_
 refine yS<|yS ?_
 rcases oB h with ⟨hc1, h⟩ | ⟨hc1, h⟩
 ·refine yW<|ym rfl (sFc a0)<|yl rfl (i64 (a0.length : Int)) (LOp.len_sl und25 rfl rfl)<|ym rfl (sFc a1)<|yl rfl (i64 (a1.length : Int)) (LOp.len_sl und25 rfl rfl)<|yl rfl (b true) (LOp.eqb (LOp.neq rfl rfl rfl) hc1)<|zN ?_
  refine yT<|zQ<|ya rfl (b true)<|zN ?_
  refine RunC.ret ?_
  have hq := oI h
  subst q0
  exact bodyQ.pure (.inr rfl) rfl (Res.one rfl (RV.tmp rfl))
 ·refine yW<|ym rfl (sFc a0)<|yl rfl (i64 (a0.length : Int)) (LOp.len_sl und25 rfl rfl)<|ym rfl (sFc a1)<|yl rfl (i64 (a1.length : Int)) (LOp.len_sl und25 rfl rfl)<|yl rfl (b false) (LOp.eqb (LOp.neq rfl rfl rfl) hc1)<|zN ?_
  refine yF<|RunC.skip<|yS<|zQ<|ym rfl (sFc a0)<|yl rfl (i64 (a0.length : Int)) (LOp.len_sl und25 rfl rfl)<|ym rfl (i64 0)<|zN ?_
  obtain ⟨z2, hz_2, h⟩ := oS h
  refine RunC.cutN (fun τ Γ => WeakLe τ [] ∧ DeadLe Γ [] ∧ z2 = .inl ()) ?_ ?_
  ·refine RunC.block (RunC.loop (RunL.loopM (x := z2) (w_b10Far_s1 a0 a1 a2) (fun (s : Int) τ Γ => WeakLe τ [(0, (sFc a0)), (1, (sFc a1)), (2, f64 a2), (14, i64 (a0.length : Int)), (15, i64 s)] ∧ DeadLe Γ []) ?_ _ _ _ hz_2 ⟨⟨aR, aR, aR, aR, aR, trivial⟩, trivial⟩))
   rintro v1 τ2 Γ2 y2_ ⟨hw2, hd2⟩ h2_ ho2 hr2
   refine RunC.wl (τ' := [(0, (sFc a0)), (1, (sFc a1)), (2, f64 a2), (14, i64 (a0.length : Int)), (15, i64 v1)]) (Γ' := []) hw2 hd2 ?_
   replace h2_ : w_b10Far_b1 a0 a1 a2 v1 = some y2_ := h2_
   unfold w_b10Far_b1 at h2_
   refine yS ?_
   rcases oB h2_ with ⟨hc2, h2_⟩ | ⟨hc2, h2_⟩
   ·refine yW<|yl rfl (b true) (LOp.eqb (LOp.lss rfl rfl rfl) hc2)<|zN ?_
    refine yS<|yT<|RunC.skip<|yS<|RunC.block<|zQ<|ym rfl (i64 v1)<|ya rfl (i64 v1)<|zN ?_
    refine yS ?_
    obtain ⟨e2, he3, h2_⟩ := oS h2_
    obtain ⟨x3, hx4, h2_⟩ := oL h2_
    obtain ⟨e4, he5, h2_⟩ := oS h2_
    obtain ⟨x5, hx6, h2_⟩ := oL h2_
    obtain ⟨r6, hf7, h2_⟩ := oS h2_
    rcases oB h2_ with ⟨hc8, h2_⟩ | ⟨hc8, h2_⟩
    ·refine RunC.region_draw (Γ' := []) 14 mixed 
      (tm rfl (sFc a0) <|
      (tm rfl (i64 v1) <|
      (tl rfl (ptr [f32 e2]) (LOp.le (LOp.ix (f := f32) und25 siz41 rfl rfl rfl rfl he3) ALe.ptr) <|
      (tl rfl (f32 e2) (y2 agg41) <|
      (TR.d (r := f64 x3) (fs := []) rfl rfl (TOp.eqr (TOp.widen (src := 41) (dst := 48) ⟨_, pun41⟩ pun48 rfl (OpF.tmp rfl)) (congrArg (f .f64) hx4)) <|
      (tm rfl (sFc a1) <|
      (tm rfl (i64 v1) <|
      (tl rfl (ptr [f32 e4]) (LOp.le (LOp.ix (f := f32) und25 siz41 rfl rfl rfl rfl he5) ALe.ptr) <|
      (tl rfl (f32 e4) (y2 agg41) <|
      (TR.d (r := f64 x5) (fs := []) rfl rfl (TOp.eqr (TOp.widen (src := 41) (dst := 48) ⟨_, pun41⟩ pun48 rfl (OpF.tmp rfl)) (congrArg (f .f64) hx6)) <|
      (TR.d (r := f64 r6) (fs := []) rfl rfl (yc ent28 rfl rfl (bP bN0) (w_b10Gap_ok x3 x5 r6 hf7)) <|
      (tm rfl (f64 a2) <|
      (tl rfl (b true) (LOp.eqb (LOp.fle rfl (OpF.tmp rfl) (OpF.tmp rfl)) hc8) <|
      (tl rfl (b false) (LOp.eqb (LOp.not rfl rfl) rfl) <|
      TR.nil)))))))))))))) rfl (by kernel_rfl) rfl fills_nil rfl ?_
     iterate 14 refine ROps.dropS ?_
     refine ROps.drop0<|zN ?_
     refine RunC.wl (τ' := [(0, (sFc a0)), (1, (sFc a1)), (2, f64 a2), (14, i64 (a0.length : Int)), (15, i64 v1), (31, b false)]) (Γ' := []) ⟨aR, aR, aR, aR, aR, aR, trivial⟩ trivial<|yF<|RunC.skip ?_
     obtain ⟨x7, hx9, h2_⟩ := oL h2_
     refine yW<|yl rfl (i64 x7) (LOp.eqr (LOp.add rfl rfl rfl) (congrArg (ik .i64) hx9))<|ym rfl (i64 x7)<|zN ?_
     cases oI h2_
     exact ⟨_, rfl, ⟨aR, aR, aR, aR, aR, trivial⟩, trivial⟩
    ·refine RunC.region_draw (Γ' := []) 14 mixed 
      (tm rfl (sFc a0) <|
      (tm rfl (i64 v1) <|
      (tl rfl (ptr [f32 e2]) (LOp.le (LOp.ix (f := f32) und25 siz41 rfl rfl rfl rfl he3) ALe.ptr) <|
      (tl rfl (f32 e2) (y2 agg41) <|
      (TR.d (r := f64 x3) (fs := []) rfl rfl (TOp.eqr (TOp.widen (src := 41) (dst := 48) ⟨_, pun41⟩ pun48 rfl (OpF.tmp rfl)) (congrArg (f .f64) hx4)) <|
      (tm rfl (sFc a1) <|
      (tm rfl (i64 v1) <|
      (tl rfl (ptr [f32 e4]) (LOp.le (LOp.ix (f := f32) und25 siz41 rfl rfl rfl rfl he5) ALe.ptr) <|
      (tl rfl (f32 e4) (y2 agg41) <|
      (TR.d (r := f64 x5) (fs := []) rfl rfl (TOp.eqr (TOp.widen (src := 41) (dst := 48) ⟨_, pun41⟩ pun48 rfl (OpF.tmp rfl)) (congrArg (f .f64) hx6)) <|
      (TR.d (r := f64 r6) (fs := []) rfl rfl (yc ent28 rfl rfl (bP bN0) (w_b10Gap_ok x3 x5 r6 hf7)) <|
      (tm rfl (f64 a2) <|
      (tl rfl (b false) (LOp.eqb (LOp.fle rfl (OpF.tmp rfl) (OpF.tmp rfl)) hc8) <|
      (tl rfl (b true) (LOp.eqb (LOp.not rfl rfl) rfl) <|
      TR.nil)))))))))))))) rfl (by kernel_rfl) rfl fills_nil rfl ?_
     iterate 14 refine ROps.dropS ?_
     refine ROps.drop0<|zN ?_
     refine RunC.wl (τ' := [(0, (sFc a0)), (1, (sFc a1)), (2, f64 a2), (14, i64 (a0.length : Int)), (15, i64 v1), (31, b true)]) (Γ' := []) ⟨aR, aR, aR, aR, aR, aR, trivial⟩ trivial<|yT<|zQ<|ya rfl (b true)<|zN ?_
     refine RunC.ret ?_
     cases oI h2_
     have hx3_ := hr2 _ rfl
     subst hx3_
     have hq := oI h
     subst q0
     exact bodyQ.pure (.inr rfl) rfl (Res.one rfl (RV.tmp rfl))
   ·refine yW<|yl rfl (b false) (LOp.eqb (LOp.lss rfl rfl rfl) hc2)<|zN ?_
    refine yS<|yF<|RunC.exit ?_
    cases oI h2_
    have hx := ho2 _ rfl
    exact ⟨trivial, trivial, hx⟩
  ·rintro τ4 Γ4 ⟨hw4, hd4, rfl⟩
   refine RunC.wl hw4 hd4 ?_
   replace h : w_b10Far_k1 = some q0 := h
   unfold w_b10Far_k1 at h
   refine zQ<|ya rfl (b false)<|zN ?_
   refine RunC.ret ?_
   have hq := oI h
   subst q0
   exact bodyQ.pure (.inr rfl) rfl (Res.one rfl (RV.tmp rfl))
def w_b10FarMatrix (a0 : Int) (a1 : Int) (a2 : List F) (a3 : Int) (a4 : Int) (a5 : List F) (a6 : F) : Option (Bool) :=
 bsel (!decide (a0 = a3)) (
  some true) (
  bsel (!decide (a1 = a4)) (
   some true) (
   obind (w_b10Far a2 a5 a6) fun (r1 : Bool) =>
   some r1))
theorem w_b10FarMatrix_ok (a0 : Int) (a1 : Int) (a2 : List F) (a3 : Int) (a4 : Int) (a5 : List F) (a6 : F) (q0 : Bool) (h : w_b10FarMatrix a0 a1 a2 a3 a4 a5 a6 = some q0) : Ev Tryz.prog 22 [agg (mXc a0 a1 a2), agg (mXc a3 a4 a5), f64 a6] [] (b q0) [] := by
 refine yE Tryz.func22 0 55 0 [(0, agg (mXc a0 a1 a2)), (1, agg (mXc a3 a4 a5)), (2, f64 a6)] [] rfl ?_
 unfold w_b10FarMatrix at h
 refine zQ<|yd rfl (ptr (mXc a0 a1 a2)) (TOp.box_s rfl rfl rfl)<|yd rfl (ptr (mXc a3 a4 a5)) (TOp.box_s rfl rfl rfl)<|ya rfl (b false)<|zN ?_
 refine yS ?_
 rcases oB h with ⟨hc1, h⟩ | ⟨hc1, h⟩
 ·refine yW<|yl rfl (ptr (mXc a0 a1 a2)) (LOp.fap und27 rfl siz2 rfl rfl rfl)<|yl rfl (i64 a0) (y2 agg2)<|yl rfl (ptr (mXc a3 a4 a5)) (LOp.fap und27 rfl siz2 rfl rfl rfl)<|yl rfl (i64 a3) (y2 agg2)<|yl rfl (b true) (LOp.eqb (LOp.neq rfl rfl rfl) hc1)<|ym rfl (b true)<|ROps.s rfl rfl rfl<|ROps.s rfl rfl rfl<|ROps.s rfl rfl rfl<|ROps.s rfl rfl rfl<|ROps.s rfl rfl rfl<|yl rfl (b true) yq<|ym rfl (b true)<|ROps.s rfl rfl rfl<|ROps.s rfl rfl rfl<|ROps.s rfl rfl rfl<|ROps.s rfl rfl rfl<|ROps.s rfl rfl rfl<|ROps.s rfl rfl rfl<|yl rfl (b true) yq<|ya rfl (b true)<|zN ?_
  refine RunC.ret ?_
  have hq := oI h
  subst q0
  exact bodyQ.pure (.inr rfl) rfl (Res.one rfl (RV.tmp rfl))
 ·rcases oB h with ⟨hc2, h⟩ | ⟨hc2, h⟩
  ·refine yW<|yl rfl (ptr (mXc a0 a1 a2)) (LOp.fap und27 rfl siz2 rfl rfl rfl)<|yl rfl (i64 a0) (y2 agg2)<|yl rfl (ptr (mXc a3 a4 a5)) (LOp.fap und27 rfl siz2 rfl rfl rfl)<|yl rfl (i64 a3) (y2 agg2)<|yl rfl (b false) (LOp.eqb (LOp.neq rfl rfl rfl) hc1)<|ym rfl (b false)<|yl rfl (ptr [i64 a1, (sFc a2)]) (LOp.fap und27 rfl siz2 rfl rfl rfl)<|yl rfl (i64 a1) (y2 agg2)<|yl rfl (ptr [i64 a4, (sFc a5)]) (LOp.fap und27 rfl siz2 rfl rfl rfl)<|yl rfl (i64 a4) (y2 agg2)<|yl rfl (b true) (LOp.eqb (LOp.neq rfl rfl rfl) hc2)<|yl rfl (b true) yp<|ym rfl (b true)<|ROps.s rfl rfl rfl<|ROps.s rfl rfl rfl<|ROps.s rfl rfl rfl<|ROps.s rfl rfl rfl<|ROps.s rfl rfl rfl<|ROps.s rfl rfl rfl<|yl rfl (b true) yq<|ya rfl (b true)<|zN ?_
   refine RunC.ret ?_
   have hq := oI h
   subst q0
   exact bodyQ.pure (.inr rfl) rfl (Res.one rfl (RV.tmp rfl))
  ·obtain ⟨r1, hf3, h⟩ := oS h
   refine yW<|yl rfl (ptr (mXc a0 a1 a2)) (LOp.fap und27 rfl siz2 rfl rfl rfl)<|yl rfl (i64 a0) (y2 agg2)<|yl rfl (ptr (mXc a3 a4 a5)) (LOp.fap und27 rfl siz2 rfl rfl rfl)<|yl rfl (i64 a3) (y2 agg2)<|yl rfl (b false) (LOp.eqb (LOp.neq rfl rfl rfl) hc1)<|ym rfl (b false)<|yl rfl (ptr [i64 a1, (sFc a2)]) (LOp.fap und27 rfl siz2 rfl rfl rfl)<|yl rfl (i64 a1) (y2 agg2)<|yl rfl (ptr [i64 a4, (sFc a5)]) (LOp.fap und27 rfl siz2 rfl rfl rfl)<|yl rfl (i64 a4) (y2 agg2)<|yl rfl (b false) (LOp.eqb (LOp.neq rfl rfl rfl) hc2)<|yl rfl (b false) yp<|ym rfl (b false)<|yl rfl (ptr [(sFc a2)]) (LOp.fap und27 rfl siz25 rfl rfl rfl)<|yl rfl (sFc a2) (y2 agg25)<|yl rfl (ptr [(sFc a5)]) (LOp.fap und27 rfl siz25 rfl rfl rfl)<|yl rfl (sFc a5) (y2 agg25)<|ym rfl (f64 a6)<|yd rfl (b r1) (yc ent25 rfl rfl (bS (bS bN0)) (w_b10Far_ok a2 a5 a6 r1 hf3))<|yl rfl (b r1) yp<|ya rfl (b r1)<|zN ?_
   refine RunC.ret ?_
   have hq := oI h
   subst q0
   exact bodyQ.pure (.inr rfl) rfl (Res.one rfl (RV.tmp rfl))
def s_ValidMatrix (a0 : Int) (a1 : Int) (a2 : List F) : Option (Bool) :=
 obind (s_l02Is a0 a1 a2) fun (r1 : Bool) =>
 some r1
theorem s_ValidMatrix_ok (a0 : Int) (a1 : Int) (a2 : List F) (q0 : Bool) (h : s_ValidMatrix a0 a1 a2 = some q0) : Ev Tryz.prog 21 [agg (mXc a0 a1 a2)] [] (b q0) [] := by
 refine yE Tryz.func21 0 9 0 [(0, agg (mXc a0 a1 a2))] [] rfl ?_
 unfold s_ValidMatrix at h
 refine zQ<|yd rfl (ptr (mXc a0 a1 a2)) (TOp.box_s rfl rfl rfl)<|ya rfl (b false)<|zN ?_
 refine yS ?_
 obtain ⟨r1, hf1, h⟩ := oS h
 refine yW<|yd rfl (b r1) (TOp.callB (CallAs.func ent59 rfl rfl) (Bors.cons (Bor.ptr (bP (bP (bS bN)))) bN) rfl rfl (s_l02Is_ok a0 a1 a2 r1 hf1))<|ya rfl (b r1)<|zN ?_
 refine RunC.ret ?_
 have hq := oI h
 subst q0
 exact bodyQ.pure (.inr rfl) rfl (Res.one rfl (RV.tmp rfl))
end
end Go.Proofs.YtkdociaoknmgbaaGreat
