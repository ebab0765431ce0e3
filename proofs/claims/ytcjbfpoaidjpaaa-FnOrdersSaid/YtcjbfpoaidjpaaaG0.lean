/- Generated. -/
import Derived.Test.YtcjbfpoaidjpaaaTys
namespace Go.Proofs.Ytcjbfpoaidjpaaa
open Go Go.AM Go.AM.AV
set_option maxRecDepth 20000
set_option maxHeartbeats 4000000
set_option linter.unusedVariables false
set_option linter.unusedSimpArgs false
noncomputable def w_r8Long (a0 : List Int) (a1 : List Int) : Option (Bool) :=
 bsel (decide (48 < (a0.length : Int))) (
  some true) (
  some (decide (48 < (a1.length : Int))))
theorem w_r8Long_ok (a0 : List Int) (a1 : List Int) (q0 : Bool) (h : w_r8Long a0 a1 = some q0) : Ev Try.prog 7 [sl a0.length (a0.map (ik .u8)), sl a1.length (a1.map (ik .u8))] [] (b q0) [] := by
 refine Ev.start Try.func7 rfl rfl 0 (τ := [(0, sl a0.length (a0.map (ik .u8))), (1, sl a1.length (a1.map (ik .u8)))]) rfl (Γ' := []) rfl (n := 27) rfl (g := 0) rfl (fun _ => rfl) ?_
 unfold w_r8Long at h
 refine zQ ?_
 refine za (r := b false) ?_
 refine zN ?_
 refine RunC.seq ?_
 rcases bsel_some h with ⟨hc1, h⟩ | ⟨hc1, h⟩
 ·refine RunC.regionW ?_
  refine zm (r := sl a0.length (a0.map (ik .u8))) ?_
  refine zl (r := i64 (a0.length : Int)) (LOp.len_sl und22 rfl rfl) ?_
  refine zl (r := b true) (LOp.eqb (LOp.gtr rfl rfl rfl) hc1) ?_
  refine zm (r := b true) ?_
  iterate 3 (refine ROps.s rfl rfl rfl ?_)
  refine zl (r := b true) (LOp.pick_true rfl rfl rfl) ?_
  refine za (r := b true) ?_
  refine zN ?_
  refine RunC.ret ?_
  have hq := Option.some.inj h
  subst q0
  exact bodyQ.pure (.inr rfl) rfl (Res.one rfl (RV.tmp rfl))
 ·refine RunC.regionW ?_
  refine zm (r := sl a0.length (a0.map (ik .u8))) ?_
  refine zl (r := i64 (a0.length : Int)) (LOp.len_sl und22 rfl rfl) ?_
  refine zl (r := b false) (LOp.eqb (LOp.gtr rfl rfl rfl) hc1) ?_
  refine zm (r := b false) ?_
  refine zm (r := sl a1.length (a1.map (ik .u8))) ?_
  refine zl (r := i64 (a1.length : Int)) (LOp.len_sl und22 rfl rfl) ?_
  refine zl (r := b (decide (48 < (a1.length : Int)))) (LOp.gtr rfl rfl rfl) ?_
  refine zl (r := b (decide (48 < (a1.length : Int)))) (LOp.pick_false rfl rfl rfl) ?_
  refine za (r := b (decide (48 < (a1.length : Int)))) ?_
  refine zN ?_
  refine RunC.ret ?_
  have hq := Option.some.inj h
  subst q0
  exact bodyQ.pure (.inr rfl) rfl (Res.one rfl (RV.tmp rfl))
noncomputable def w_r8At (a0 : List Int) (a1 : Int) (a2 : Int) : Option (Int) :=
 bsel (decide (a2 ≤ 1)) (
  some 0) (
  bsel (decide ((a0.length : Int) ≤ a1)) (
   some 0) (
   obind (at? a0 a1) fun (e1 : Int) =>
   olet (IntKind.i64.wrap e1) fun (x2 : Int) =>
   need (!decide (a2 = 0)) <|
   olet (x2.tmod a2) fun (x3 : Int) =>
   some x3))
theorem w_r8At_ok (a0 : List Int) (a1 : Int) (a2 : Int) (q0 : Int) (h : w_r8At a0 a1 a2 = some q0) : Ev Try.prog 9 [sl a0.length (a0.map (ik .u8)), i64 a1, i64 a2] [] (i64 q0) [] := by
 refine Ev.start Try.func9 rfl rfl 0 (τ := [(0, sl a0.length (a0.map (ik .u8))), (1, i64 a1), (2, i64 a2)]) rfl (Γ' := []) rfl (n := 45) rfl (g := 0) rfl (fun _ => rfl) ?_
 unfold w_r8At at h
 refine zQ ?_
 refine za (r := i64 0) ?_
 refine zN ?_
 iterate 2 (refine RunC.seq ?_)
 rcases bsel_some h with ⟨hc1, h⟩ | ⟨hc1, h⟩
 ·refine RunC.regionW ?_
  refine zm (r := i64 a2) ?_
  refine zl (r := b true) (LOp.eqb (LOp.leq rfl rfl rfl) hc1) ?_
  refine zm (r := b true) ?_
  iterate 4 (refine ROps.s rfl rfl rfl ?_)
  refine zl (r := b true) (LOp.pick_true rfl rfl rfl) ?_
  refine zN ?_
  refine RunC.cond_true rfl rfl ?_
  refine zQ ?_
  refine za (r := i64 0) ?_
  refine zN ?_
  refine RunC.ret ?_
  have hq := Option.some.inj h
  subst q0
  exact bodyQ.pure (.inr rfl) rfl (Res.one rfl (RV.tmp rfl))
 ·rcases bsel_some h with ⟨hc2, h⟩ | ⟨hc2, h⟩
  ·refine RunC.regionW ?_
   refine zm (r := i64 a2) ?_
   refine zl (r := b false) (LOp.eqb (LOp.leq rfl rfl rfl) hc1) ?_
   refine zm (r := b false) ?_
   refine zm (r := i64 a1) ?_
   refine zm (r := sl a0.length (a0.map (ik .u8))) ?_
   refine zl (r := i64 (a0.length : Int)) (LOp.len_sl und22 rfl rfl) ?_
   refine zl (r := b true) (LOp.eqb (LOp.geq rfl rfl rfl) hc2) ?_
   refine zl (r := b true) (LOp.pick_false rfl rfl rfl) ?_
   refine zN ?_
   refine RunC.cond_true rfl rfl ?_
   refine zQ ?_
   refine za (r := i64 0) ?_
   refine zN ?_
   refine RunC.ret ?_
   have hq := Option.some.inj h
   subst q0
   exact bodyQ.pure (.inr rfl) rfl (Res.one rfl (RV.tmp rfl))
  ·refine RunC.regionW ?_
   refine zm (r := i64 a2) ?_
   refine zl (r := b false) (LOp.eqb (LOp.leq rfl rfl rfl) hc1) ?_
   refine zm (r := b false) ?_
   refine zm (r := i64 a1) ?_
   refine zm (r := sl a0.length (a0.map (ik .u8))) ?_
   refine zl (r := i64 (a0.length : Int)) (LOp.len_sl und22 rfl rfl) ?_
   refine zl (r := b false) (LOp.eqb (LOp.geq rfl rfl rfl) hc2) ?_
   refine zl (r := b false) (LOp.pick_false rfl rfl rfl) ?_
   refine zN ?_
   refine RunC.cond_false rfl rfl ?_
   refine RunC.skip ?_
   refine RunC.seq ?_
   obtain ⟨e1, he3, h⟩ := obind_some h
   obtain ⟨x2, hx4, h⟩ := olet_some h
   obtain ⟨hz5, h⟩ := need_some h
   obtain ⟨x3, hx6, h⟩ := olet_some h
   refine RunC.regionW ?_
   refine zm (r := sl a0.length (a0.map (ik .u8))) ?_
   refine zm (r := i64 a1) ?_
   refine zl (r := ptr [ik .u8 e1]) (LOp.le (LOp.ix (f := (ik .u8)) und22 siz5 rfl rfl rfl rfl he3) ALe.ptr) ?_
   refine zl (r := ik .u8 e1) (LOp.load1 agg5 rfl rfl) ?_
   refine zl (r := i64 x2) (LOp.eqr (LOp.i2i (src := 5) (dst := 2) ⟨_, pun5⟩ pun2 rfl rfl) (congrArg (ik .i64) hx4)) ?_
   refine zm (r := i64 a2) ?_
   refine zl (r := i64 x3) (LOp.eqr (LOp.rem rfl rfl rfl (nz hz5)) (congrArg (ik .i64) hx6)) ?_
   refine za (r := i64 x3) ?_
   refine zN ?_
   refine RunC.ret ?_
   have hq := Option.some.inj h
   subst q0
   exact bodyQ.pure (.inr rfl) rfl (Res.one rfl (RV.tmp rfl))
noncomputable def s_l00From (a0 : List Int) : Option ((List Int) × Int × Int) :=
 some (a0, 0, 0)
theorem s_l00From_ok (a0 : List Int) (q0 : List Int) (q1 : Int) (q2 : Int) (h : s_l00From a0 = some (q0, q1, q2)) : Ev Try.prog 53 [sl a0.length (a0.map (ik .u8))] [] (optr 0 0 0) [⟨0, some [sl q0.length (q0.map (ik .u8)), i64 q1, ik .u64 q2]⟩] := by
 refine Ev.start Try.func53 rfl rfl 1 (τ := [(0, sl a0.length (a0.map (ik .u8)))]) rfl (Γ' := [⟨0, none⟩]) rfl (n := 13) rfl (g := 0) rfl (fun _ => rfl) ?_
 unfold s_l00From at h
 refine zQ ?_
 refine za (r := x (.pointer none)) ?_
 refine zN ?_
 refine zQ ?_
 refine zm (r := sl a0.length (a0.map (ik .u8))) ?_
 refine zl (r := agg [sl a0.length (a0.map (ik .u8)), i64 0, ik .u64 0]) (LOp.build (qs := [(0, [sl a0.length (a0.map (ik .u8))])]) zer131 zok131 und131 plc131 rfl ⟨rfl, ⟨_, ALe.refl _, rfl⟩, trivial⟩ rfl) ?_
 refine ROps.d (r := optr 0 1 0) (fs := [(0, [sl a0.length (a0.map (ik .u8)), i64 0, ik .u64 0])]) (Γ' := [⟨1, some [sl a0.length (a0.map (ik .u8)), i64 0, ik .u64 0]⟩]) rfl rfl rfl (TOp.box_o (g := ⟨0, none⟩) 0 rfl rfl rfl rfl) rfl ?_
 refine za (r := optr 0 1 0) ?_
 refine zN ?_
 refine RunC.ret ?_
 have hq := Option.some.inj h
 obtain ⟨hq0, hq⟩ := Prod.mk.inj hq
 obtain ⟨hq1, hq⟩ := Prod.mk.inj hq
 subst q0
 subst q1
 subst q2
 exact bodyQ.mk (r' := optr 0 1 0) [(0, 1)] (.inr rfl) rfl (show List.Nodup [0] from by decide) rfl rfl (Res.one rfl (RV.tmp rfl)) (SelL.cells0 rfl (by first | rfl | simp [ren, rens, sigma, rens_f32, rens_f64, rens_i64, rens_ik, rens_str, rens_cp]) (lts_cons (lt_slk (fun _ => rfl)) (lts_cons rfl (lts_cons rfl lts_nil))) trivial)
noncomputable def s_l02Blank (a0 : Int) (a1 : Int) : Option (Int × Int × (List F)) :=
 some (a0, a1, ([] : List F))
theorem s_l02Blank_ok (a0 : Int) (a1 : Int) (q0 : Int) (q1 : Int) (q2 : List F) (h : s_l02Blank a0 a1 = some (q0, q1, q2)) : Ev Try.prog 124 [i64 a0, i64 a1] [] (agg (oXc q0 q1 0 0 q2.length)) [⟨0, some (q2.map f32)⟩] := by
 refine Ev.start Try.func124 rfl rfl 2 (τ := [(0, i64 a0), (1, i64 a1)]) rfl (Γ' := [⟨0, none⟩, ⟨0, none⟩]) rfl (n := 19) rfl (g := 0) rfl (fun _ => rfl) ?_
 unfold s_l02Blank at h
 refine zQ ?_
 refine ROps.d (r := optr 0 1 0) (fs := [(0, zMx)]) (Γ' := [⟨1, some zMx⟩, ⟨0, none⟩]) rfl rfl rfl (TOp.alloc_o (g := ⟨0, none⟩) 0 rfl zer26 zok26 rfl) rfl ?_
 refine zN ?_
 refine zQ ?_
 refine zm (r := i64 a0) ?_
 refine zm (r := i64 a1) ?_
 refine ROps.d (r := oref 1 1 0 0) (fs := [(1, (([] : List F).map f32))]) (Γ' := [⟨1, some zMx⟩, ⟨1, some (([] : List F).map f32)⟩]) rfl rfl rfl (TOp.buildSlice_o (g := ⟨0, none⟩) (za := f32 (some 0)) (qs := []) 1 rfl und24 siz36 zer36 rfl zel36 rfl rfl trivial rfl) rfl ?_
 refine zl (r := agg [i64 a0, i64 a1, oref 1 1 0 0]) (LOp.build (qs := [(0, [i64 a0]), (1, [i64 a1]), (2, [oref 1 1 0 0])]) zer26 zok26 und26 plc26 rfl ⟨rfl, ⟨_, ALe.refl _, rfl⟩, ⟨rfl, ⟨_, ALe.refl _, rfl⟩, ⟨rfl, ⟨_, ALe.refl _, rfl⟩, trivial⟩⟩⟩ rfl) ?_
 refine ROps.store_le (r := agg [i64 a0, i64 a1, oref 1 1 0 0]) (l' := [i64 a0, i64 a1, oref 1 1 0 0]) (Γ' := [⟨1, some [i64 a0, i64 a1, oref 1 1 0 0]⟩, ⟨1, some (([] : List F).map f32)⟩]) rfl siz26 rfl rfl rfl aR rfl rfl rfl rfl (Nat.le_of_ble_eq_true rfl) rfl rfl ?_
 refine zN ?_
 refine RunC.ret ?_
 have hq := Option.some.inj h
 obtain ⟨hq0, hq⟩ := Prod.mk.inj hq
 obtain ⟨hq1, hq⟩ := Prod.mk.inj hq
 subst q0
 subst q1
 subst q2
 exact bodyQ.mk (r' := agg [i64 a0, i64 a1, oref 1 1 0 (([] : List F).length)]) [(1, 1)] (.inr rfl) rfl (show List.Nodup [1] from by decide) rfl rfl (Res.eq (Res.one rfl (RV.cell agg26 siz26 rfl rfl rfl rfl)) (by rw [(show ([] : List F).length = 0 from rfl)] <;> rfl)) (SelL.arr0 (f := f32) (fun _ => rfl) rfl trivial)
noncomputable def s_l00Src_next_0p0_C0_k1 (a0 : List Int) (a1 : Int) (a2 : Int) (v3 : Int) : Option (Int × Int × Int) :=
 olet (IntKind.i64.wrap (a1 + 1)) fun (x4 : Int) =>
 olet (IntKind.u64.wrap (a2 * 6364136223846793005)) fun (x5 : Int) =>
 olet (IntKind.u64.wrap v3) fun (x6 : Int) =>
 olet (IntKind.u64.wrap (x5 + x6)) fun (x7 : Int) =>
 olet (IntKind.u64.wrap (x7 + 1442695040888963407)) fun (x8 : Int) =>
 bsel (decide (x4 ≤ (a0.length : Int))) (
  some (v3, x4, x8)) (
  need (decide ((0 : Int) ≤ 40)) <|
  olet (ishr .u64 x8 40) fun (x9 : Int) =>
  olet (iand .u64 x9 255) fun (x10 : Int) =>
  olet (IntKind.i64.wrap x10) fun (x11 : Int) =>
  some (x11, x4, x8))
noncomputable def s_l00Src_next_0p0_C0 (a0 : List Int) (a1 : Int) (a2 : Int) : Option (Int × Int × Int) :=
 bsel (decide (a1 < (a0.length : Int))) (
  obind (at? a0 a1) fun (e1 : Int) =>
  olet (IntKind.i64.wrap e1) fun (x2 : Int) =>
  s_l00Src_next_0p0_C0_k1 a0 a1 a2 x2) (
  s_l00Src_next_0p0_C0_k1 a0 a1 a2 0)
theorem s_l00Src_next_0p0_C0_ok (a0 : List Int) (a1 : Int) (a2 : Int) (q0 : Int) (q1 : Int) (q2 : Int) (h : s_l00Src_next_0p0_C0 a0 a1 a2 = some (q0, q1, q2)) : Ev Try.prog 156 [optr 0 0 0] [⟨0, some [sl a0.length (a0.map (ik .u8)), i64 a1, ik .u64 a2]⟩] (i64 q0) [⟨0, some [sl a0.length (a0.map (ik .u8)), i64 q1, ik .u64 q2]⟩] := by
 refine Ev.start Try.func156 rfl rfl 0 (τ := [(0, optr 0 0 0)]) rfl (Γ' := [⟨0, some [sl a0.length (a0.map (ik .u8)), i64 a1, ik .u64 a2]⟩]) rfl (n := 124) rfl (g := 1) rfl (by decide) ?_
 unfold s_l00Src_next_0p0_C0 at h
 iterate 2 (refine zQ ?_; refine za (r := i64 0) ?_; refine zN ?_)
 refine RunC.seq ?_
 refine RunC.cutN (fun τ Γ => ∃ (v3 : Int), WeakLe τ [(0, optr 0 0 0), (3, i64 v3)] ∧ DeadLe Γ [⟨0, some [sl a0.length (a0.map (ik .u8)), i64 a1, ik .u64 a2]⟩] ∧ s_l00Src_next_0p0_C0_k1 a0 a1 a2 v3 = some (q0, q1, q2)) ?_ ?_
 ·refine RunC.seq ?_
  rcases bsel_some h with ⟨hc1, h⟩ | ⟨hc1, h⟩
  ·refine RunC.region_draw (Γ' := [⟨0, some [sl a0.length (a0.map (ik .u8)), i64 a1, ik .u64 a2]⟩]) 10 mixed 
    (TR.l (r := optr 0 0 0) rfl rfl (LOp.move rfl rfl) <|
    (TR.l (r := optr 0 0 0) rfl rfl (LOp.nilCheck_optr rfl rfl) <|
    (TR.l (r := optr 0 0 1) rfl rfl (LOp.fao und131 rfl siz3 rfl rfl rfl) <|
    (TR.d (r := i64 a1) (fs := []) rfl rfl (TOp.load1_o rfl rfl agg3 rfl rfl) <|
    (TR.l (r := optr 0 0 0) rfl rfl (LOp.move rfl rfl) <|
    (TR.l (r := optr 0 0 0) rfl rfl (LOp.nilCheck_optr rfl rfl) <|
    (TR.l (r := optr 0 0 0) rfl rfl (LOp.fao und131 rfl siz22 rfl rfl rfl) <|
    (TR.d (r := sl a0.length (a0.map (ik .u8))) (fs := []) rfl rfl (TOp.load1_o rfl rfl agg22 rfl rfl) <|
    (TR.l (r := i64 (a0.length : Int)) rfl rfl (LOp.len_sl und22 rfl rfl) <|
    (TR.l (r := b true) rfl rfl (LOp.eqb (LOp.lss rfl rfl rfl) hc1) <|
    TR.nil)))))))))) rfl (by kernel_rfl) rfl fills_nil rfl ?_
   iterate 10 refine ROps.dropS ?_
   refine ROps.drop0 ?_
   refine zN ?_
   refine RunC.cond_true rfl rfl ?_
   obtain ⟨e1, he2, h⟩ := obind_some h
   obtain ⟨x2, hx3, h⟩ := olet_some h
   refine RunC.region_draw (Γ' := [⟨0, some [sl a0.length (a0.map (ik .u8)), i64 a1, ik .u64 a2]⟩]) 12 mixed 
    (TR.l (r := optr 0 0 0) rfl rfl (LOp.move rfl rfl) <|
    (TR.l (r := optr 0 0 0) rfl rfl (LOp.nilCheck_optr rfl rfl) <|
    (TR.l (r := optr 0 0 0) rfl rfl (LOp.fao und131 rfl siz22 rfl rfl rfl) <|
    (TR.d (r := sl a0.length (a0.map (ik .u8))) (fs := []) rfl rfl (TOp.load1_o rfl rfl agg22 rfl rfl) <|
    (TR.l (r := optr 0 0 0) rfl rfl (LOp.move rfl rfl) <|
    (TR.l (r := optr 0 0 0) rfl rfl (LOp.nilCheck_optr rfl rfl) <|
    (TR.l (r := optr 0 0 1) rfl rfl (LOp.fao und131 rfl siz3 rfl rfl rfl) <|
    (TR.d (r := i64 a1) (fs := []) rfl rfl (TOp.load1_o rfl rfl agg3 rfl rfl) <|
    (TR.l (r := ptr [ik .u8 e1]) rfl rfl (LOp.le (LOp.ix (f := (ik .u8)) und22 siz5 rfl rfl rfl rfl he2) ALe.ptr) <|
    (TR.l (r := ik .u8 e1) rfl rfl (LOp.load1 agg5 rfl rfl) <|
    (TR.l (r := i64 x2) rfl rfl (LOp.eqr (LOp.i2i (src := 5) (dst := 3) ⟨_, pun5⟩ pun3 rfl rfl) (congrArg (ik .i64) hx3)) <|
    (TR.l (r := i64 x2) rfl rfl (LOp.assign rfl rfl) <|
    TR.nil)))))))))))) rfl (by kernel_rfl) rfl fills_nil rfl ?_
   iterate 12 refine ROps.dropS ?_
   refine ROps.drop0 ?_
   refine zN ?_
   exact ⟨x2, ⟨aR, aR, trivial⟩, ⟨⟨rfl, .inr rfl⟩, trivial⟩, h⟩
  ·refine RunC.region_draw (Γ' := [⟨0, some [sl a0.length (a0.map (ik .u8)), i64 a1, ik .u64 a2]⟩]) 10 mixed 
    (TR.l (r := optr 0 0 0) rfl rfl (LOp.move rfl rfl) <|
    (TR.l (r := optr 0 0 0) rfl rfl (LOp.nilCheck_optr rfl rfl) <|
    (TR.l (r := optr 0 0 1) rfl rfl (LOp.fao und131 rfl siz3 rfl rfl rfl) <|
    (TR.d (r := i64 a1) (fs := []) rfl rfl (TOp.load1_o rfl rfl agg3 rfl rfl) <|
    (TR.l (r := optr 0 0 0) rfl rfl (LOp.move rfl rfl) <|
    (TR.l (r := optr 0 0 0) rfl rfl (LOp.nilCheck_optr rfl rfl) <|
    (TR.l (r := optr 0 0 0) rfl rfl (LOp.fao und131 rfl siz22 rfl rfl rfl) <|
    (TR.d (r := sl a0.length (a0.map (ik .u8))) (fs := []) rfl rfl (TOp.load1_o rfl rfl agg22 rfl rfl) <|
    (TR.l (r := i64 (a0.length : Int)) rfl rfl (LOp.len_sl und22 rfl rfl) <|
    (TR.l (r := b false) rfl rfl (LOp.eqb (LOp.lss rfl rfl rfl) hc1) <|
    TR.nil)))))))))) rfl (by kernel_rfl) rfl fills_nil rfl ?_
   iterate 10 refine ROps.dropS ?_
   refine ROps.drop0 ?_
   refine zN ?_
   refine RunC.cond_false rfl rfl ?_
   refine RunC.skip ?_
   exact ⟨0, ⟨aR, aR, trivial⟩, ⟨⟨rfl, .inr rfl⟩, trivial⟩, h⟩
 ·rintro τ2 Γ2 ⟨v3, hw2, hd2, h⟩
  refine RunC.wl hw2 hd2 ?_
  unfold s_l00Src_next_0p0_C0_k1 at h
  refine RunC.seq ?_
  obtain ⟨x4, hx4, h⟩ := olet_some h
  refine RunC.regionW ?_
  refine zm (r := optr 0 0 0) ?_
  refine zl (r := optr 0 0 0) (LOp.nilCheck_optr rfl rfl) ?_
  refine zl (r := optr 0 0 1) (LOp.fao und131 rfl siz3 rfl rfl rfl) ?_
  refine ROps.d (r := i64 a1) (fs := []) (Γ' := [⟨0, some [sl a0.length (a0.map (ik .u8)), i64 a1, ik .u64 a2]⟩]) rfl rfl rfl (TOp.load1_o rfl rfl agg3 rfl rfl) rfl ?_
  refine zl (r := i64 x4) (LOp.eqr (LOp.add rfl rfl rfl) (congrArg (ik .i64) hx4)) ?_
  refine zl (r := optr 0 0 0) (LOp.nilCheck_optr rfl rfl) ?_
  refine zl (r := optr 0 0 1) (LOp.fao und131 rfl siz3 rfl rfl rfl) ?_
  refine ROps.store_le (r := i64 x4) (l' := [sl a0.length (a0.map (ik .u8)), i64 x4, ik .u64 a2]) (Γ' := [⟨0, some [sl a0.length (a0.map (ik .u8)), i64 x4, ik .u64 a2]⟩]) rfl siz3 rfl rfl rfl aR rfl rfl rfl rfl (Nat.le_of_ble_eq_true rfl) rfl rfl ?_
  refine zN ?_
  refine RunC.seq ?_
  obtain ⟨x5, hx5, h⟩ := olet_some h
  obtain ⟨x6, hx6, h⟩ := olet_some h
  obtain ⟨x7, hx7, h⟩ := olet_some h
  obtain ⟨x8, hx8, h⟩ := olet_some h
  refine RunC.regionW ?_
  iterate 2 (refine zm (r := optr 0 0 0) ?_)
  refine zl (r := optr 0 0 0) (LOp.nilCheck_optr rfl rfl) ?_
  refine zl (r := optr 0 0 2) (LOp.fao und131 rfl siz129 rfl rfl rfl) ?_
  refine ROps.d (r := ik .u64 a2) (fs := []) (Γ' := [⟨0, some [sl a0.length (a0.map (ik .u8)), i64 x4, ik .u64 a2]⟩]) rfl rfl rfl (TOp.load1_o rfl rfl agg129 rfl rfl) rfl ?_
  refine zl (r := ik .u64 x5) (LOp.eqr (LOp.mul rfl rfl rfl) (congrArg (ik .u64) hx5)) ?_
  refine zm (r := i64 v3) ?_
  refine zl (r := ik .u64 x6) (LOp.eqr (LOp.i2i (src := 3) (dst := 129) ⟨_, pun3⟩ pun129 rfl rfl) (congrArg (ik .u64) hx6)) ?_
  refine zl (r := ik .u64 x7) (LOp.eqr (LOp.add rfl rfl rfl) (congrArg (ik .u64) hx7)) ?_
  refine zl (r := ik .u64 x8) (LOp.eqr (LOp.add rfl rfl rfl) (congrArg (ik .u64) hx8)) ?_
  refine zl (r := optr 0 0 0) (LOp.nilCheck_optr rfl rfl) ?_
  refine zl (r := optr 0 0 2) (LOp.fao und131 rfl siz129 rfl rfl rfl) ?_
  refine ROps.store_le (r := ik .u64 x8) (l' := [sl a0.length (a0.map (ik .u8)), i64 x4, ik .u64 x8]) (Γ' := [⟨0, some [sl a0.length (a0.map (ik .u8)), i64 x4, ik .u64 x8]⟩]) rfl siz129 rfl rfl rfl aR rfl rfl rfl rfl (Nat.le_of_ble_eq_true rfl) rfl rfl ?_
  refine zN ?_
  refine RunC.wl (τ' := [(0, optr 0 0 0), (3, i64 v3)]) (Γ' := [⟨0, some [sl a0.length (a0.map (ik .u8)), i64 x4, ik .u64 x8]⟩]) ⟨aR, aR, trivial⟩ ⟨⟨rfl, .inr rfl⟩, trivial⟩ ?_
  iterate 2 (refine RunC.seq ?_)
  rcases bsel_some h with ⟨hc9, h⟩ | ⟨hc9, h⟩
  ·refine RunC.region_draw (Γ' := [⟨0, some [sl a0.length (a0.map (ik .u8)), i64 x4, ik .u64 x8]⟩]) 10 mixed 
    (TR.l (r := optr 0 0 0) rfl rfl (LOp.move rfl rfl) <|
    (TR.l (r := optr 0 0 0) rfl rfl (LOp.nilCheck_optr rfl rfl) <|
    (TR.l (r := optr 0 0 1) rfl rfl (LOp.fao und131 rfl siz3 rfl rfl rfl) <|
    (TR.d (r := i64 x4) (fs := []) rfl rfl (TOp.load1_o rfl rfl agg3 rfl rfl) <|
    (TR.l (r := optr 0 0 0) rfl rfl (LOp.move rfl rfl) <|
    (TR.l (r := optr 0 0 0) rfl rfl (LOp.nilCheck_optr rfl rfl) <|
    (TR.l (r := optr 0 0 0) rfl rfl (LOp.fao und131 rfl siz22 rfl rfl rfl) <|
    (TR.d (r := sl a0.length (a0.map (ik .u8))) (fs := []) rfl rfl (TOp.load1_o rfl rfl agg22 rfl rfl) <|
    (TR.l (r := i64 (a0.length : Int)) rfl rfl (LOp.len_sl und22 rfl rfl) <|
    (TR.l (r := b true) rfl rfl (LOp.eqb (LOp.leq rfl rfl rfl) hc9) <|
    TR.nil)))))))))) rfl (by kernel_rfl) rfl fills_nil rfl ?_
   iterate 10 refine ROps.dropS ?_
   refine ROps.drop0 ?_
   refine zN ?_
   refine RunC.cond_true rfl rfl ?_
   refine zQ ?_
   refine zm (r := i64 v3) ?_
   refine za (r := i64 v3) ?_
   refine zN ?_
   refine RunC.ret ?_
   have hq := Option.some.inj h
   obtain ⟨hq0, hq⟩ := Prod.mk.inj hq
   obtain ⟨hq1, hq⟩ := Prod.mk.inj hq
   subst q0
   subst q1
   subst q2
   exact bodyQ.mk (r' := i64 v3) [(0, 0)] (.inr rfl) rfl (show List.Nodup [0] from by decide) rfl rfl (Res.one rfl (RV.tmp rfl)) (SelL.cells rfl (by first | rfl | simp [ren, rens, sigma, rens_f32, rens_f64, rens_i64, rens_ik, rens_str, rens_cp]) (lts_cons (lt_slk (fun _ => rfl)) (lts_cons rfl (lts_cons rfl lts_nil))) trivial)
  ·refine RunC.region_draw (Γ' := [⟨0, some [sl a0.length (a0.map (ik .u8)), i64 x4, ik .u64 x8]⟩]) 10 mixed 
    (TR.l (r := optr 0 0 0) rfl rfl (LOp.move rfl rfl) <|
    (TR.l (r := optr 0 0 0) rfl rfl (LOp.nilCheck_optr rfl rfl) <|
    (TR.l (r := optr 0 0 1) rfl rfl (LOp.fao und131 rfl siz3 rfl rfl rfl) <|
    (TR.d (r := i64 x4) (fs := []) rfl rfl (TOp.load1_o rfl rfl agg3 rfl rfl) <|
    (TR.l (r := optr 0 0 0) rfl rfl (LOp.move rfl rfl) <|
    (TR.l (r := optr 0 0 0) rfl rfl (LOp.nilCheck_optr rfl rfl) <|
    (TR.l (r := optr 0 0 0) rfl rfl (LOp.fao und131 rfl siz22 rfl rfl rfl) <|
    (TR.d (r := sl a0.length (a0.map (ik .u8))) (fs := []) rfl rfl (TOp.load1_o rfl rfl agg22 rfl rfl) <|
    (TR.l (r := i64 (a0.length : Int)) rfl rfl (LOp.len_sl und22 rfl rfl) <|
    (TR.l (r := b false) rfl rfl (LOp.eqb (LOp.leq rfl rfl rfl) hc9) <|
    TR.nil)))))))))) rfl (by kernel_rfl) rfl fills_nil rfl ?_
   iterate 10 refine ROps.dropS ?_
   refine ROps.drop0 ?_
   refine zN ?_
   refine RunC.cond_false rfl rfl ?_
   refine RunC.skip ?_
   refine RunC.seq ?_
   obtain ⟨hz10, h⟩ := need_some h
   obtain ⟨x9, hx11, h⟩ := olet_some h
   obtain ⟨x10, hx12, h⟩ := olet_some h
   obtain ⟨x11, hx13, h⟩ := olet_some h
   refine RunC.regionW ?_
   refine zm (r := optr 0 0 0) ?_
   refine zl (r := optr 0 0 0) (LOp.nilCheck_optr rfl rfl) ?_
   refine zl (r := optr 0 0 2) (LOp.fao und131 rfl siz129 rfl rfl rfl) ?_
   refine ROps.d (r := ik .u64 x8) (fs := []) (Γ' := [⟨0, some [sl a0.length (a0.map (ik .u8)), i64 x4, ik .u64 x8]⟩]) rfl rfl rfl (TOp.load1_o rfl rfl agg129 rfl rfl) rfl ?_
   refine zl (r := ik .u64 x9) (LOp.eqr (LOp.shr rfl rfl rfl (of_decide_eq_true hz10)) (congrArg (ik .u64) hx11)) ?_
   refine zl (r := ik .u64 x10) (LOp.eqr (LOp.iand rfl rfl rfl) (congrArg (ik .u64) hx12)) ?_
   refine zl (r := i64 x11) (LOp.eqr (LOp.i2i (src := 129) (dst := 2) ⟨_, pun129⟩ pun2 rfl rfl) (congrArg (ik .i64) hx13)) ?_
   refine za (r := i64 x11) ?_
   refine zN ?_
   refine RunC.ret ?_
   have hq := Option.some.inj h
   obtain ⟨hq0, hq⟩ := Prod.mk.inj hq
   obtain ⟨hq1, hq⟩ := Prod.mk.inj hq
   subst q0
   subst q1
   subst q2
   exact bodyQ.mk (r' := i64 x11) [(0, 0)] (.inr rfl) rfl (show List.Nodup [0] from by decide) rfl rfl (Res.one rfl (RV.tmp rfl)) (SelL.cells rfl (by first | rfl | simp [ren, rens, sigma, rens_f32, rens_f64, rens_i64, rens_ik, rens_str, rens_cp]) (lts_cons (lt_slk (fun _ => rfl)) (lts_cons rfl (lts_cons rfl lts_nil))) trivial)
noncomputable def s_l00Src_pick_0p0_C0_k1 (a0 : Int) (v9 : Int) (v10 : Int) (v11 : Int) : Option (Int × Int × Int) :=
 need (!decide (a0 = 0)) <|
 olet (v11.tmod a0) fun (x12 : Int) =>
 some (x12, v9, v10)
noncomputable def s_l00Src_pick_0p0_C0 (a0 : Int) (a1 : List Int) (a2 : Int) (a3 : Int) : Option (Int × Int × Int) :=
 bsel (decide (a0 ≤ 1)) (
  some (0, a2, a3)) (
  obind3 (s_l00Src_next_0p0_C0 a1 a2 a3) fun (r1 : Int) (r2 : Int) (r3 : Int) =>
  bsel (decide (200 < a0)) (
   olet (IntKind.i64.wrap (r1 * 256)) fun (x4 : Int) =>
   obind3 (s_l00Src_next_0p0_C0 a1 r2 r3) fun (r5 : Int) (r6 : Int) (r7 : Int) =>
   olet (IntKind.i64.wrap (x4 + r5)) fun (x8 : Int) =>
   s_l00Src_pick_0p0_C0_k1 a0 r6 r7 x8) (
   s_l00Src_pick_0p0_C0_k1 a0 r2 r3 r1))
theorem s_l00Src_pick_0p0_C0_ok (a0 : Int) (a1 : List Int) (a2 : Int) (a3 : Int) (q0 : Int) (q1 : Int) (q2 : Int) (h : s_l00Src_pick_0p0_C0 a0 a1 a2 a3 = some (q0, q1, q2)) : Ev Try.prog 112 [optr 0 0 0, i64 a0] [⟨0, some [sl a1.length (a1.map (ik .u8)), i64 a2, ik .u64 a3]⟩] (i64 q0) [⟨0, some [sl a1.length (a1.map (ik .u8)), i64 q1, ik .u64 q2]⟩] := by
 refine Ev.start Try.func112 rfl rfl 0 (τ := [(0, optr 0 0 0), (1, i64 a0)]) rfl (Γ' := [⟨0, some [sl a1.length (a1.map (ik .u8)), i64 a2, ik .u64 a3]⟩]) rfl (n := 40) rfl (g := 1) rfl (by decide) ?_
 unfold s_l00Src_pick_0p0_C0 at h
 refine zQ ?_
 refine za (r := i64 0) ?_
 refine zN ?_
 iterate 2 (refine RunC.seq ?_)
 rcases bsel_some h with ⟨hc1, h⟩ | ⟨hc1, h⟩
 ·refine RunC.regionW ?_
  refine zm (r := i64 a0) ?_
  refine zl (r := b true) (LOp.eqb (LOp.leq rfl rfl rfl) hc1) ?_
  refine zN ?_
  refine RunC.cond_true rfl rfl ?_
  refine zQ ?_
  refine za (r := i64 0) ?_
  refine zN ?_
  refine RunC.ret ?_
  have hq := Option.some.inj h
  obtain ⟨hq0, hq⟩ := Prod.mk.inj hq
  obtain ⟨hq1, hq⟩ := Prod.mk.inj hq
  subst q0
  subst q1
  subst q2
  exact bodyQ.mk (r' := i64 0) [(0, 0)] (.inr rfl) rfl (show List.Nodup [0] from by decide) rfl rfl (Res.one rfl (RV.tmp rfl)) (SelL.cells rfl (by first | rfl | simp [ren, rens, sigma, rens_f32, rens_f64, rens_i64, rens_ik, rens_str, rens_cp]) (lts_cons (lt_slk (fun _ => rfl)) (lts_cons rfl (lts_cons rfl lts_nil))) trivial)
 ·refine RunC.regionW ?_
  refine zm (r := i64 a0) ?_
  refine zl (r := b false) (LOp.eqb (LOp.leq rfl rfl rfl) hc1) ?_
  refine zN ?_
  refine RunC.cond_false rfl rfl ?_
  refine RunC.skip ?_
  refine RunC.seq ?_
  obtain ⟨r1, r2, r3, hf2, h⟩ := obind3_some h
  refine RunC.regionW ?_
  refine zm (r := optr 0 0 0) ?_
  refine ROps.callO (A := [optr 0 0 0]) (args := [optr 0 0 0]) (Γc := [⟨0, some [sl a1.length (a1.map (ik .u8)), i64 a2, ik .u64 a3]⟩]) (Γc' := [⟨0, some [sl a1.length (a1.map (ik .u8)), i64 r2, ik .u64 r3]⟩]) (r' := i64 r1) (Γ' := [⟨0, some [sl a1.length (a1.map (ik .u8)), i64 r2, ik .u64 r3]⟩]) [(0, 0)] [] rfl (CallAs.func ent156 rfl rfl) rfl rfl (SelOk.of (show List.Nodup [0] from by decide) (SelL.cells0 rfl (by simp [ren, rens, sigma, rens_f32, rens_f64, rens_i64, rens_ik, rens_str, rens_cp]) (lts_cons (lt_slk (fun _ => rfl)) (lts_cons rfl (lts_cons rfl lts_nil))) trivial)) (live_of ⟨⟨_, _, rfl⟩, trivial⟩) (by simp [ren, rens, sigma, rens_f32, rens_f64, rens_i64, rens_ik, rens_str, rens_cp]) rfl (s_l00Src_next_0p0_C0_ok a1 a2 a3 r1 r2 r3 hf2) rfl (news_of trivial) (show List.Nodup [0] from by decide) (by simp [ren, rens, sigma]) (by simp [backOb, sigma, ren, rens, rens_f32, rens_f64, rens_i64, rens_ik, rens_str, rens_cp]) ?_
  refine za (r := i64 r1) ?_
  refine zN ?_
  refine RunC.seq ?_
  refine RunC.cutN (fun τ Γ => ∃ (v9 : Int) (v10 : Int) (v11 : Int), WeakLe τ [(1, i64 a0), (5, i64 v11)] ∧ DeadLe Γ [⟨0, some [sl a1.length (a1.map (ik .u8)), i64 v9, ik .u64 v10]⟩] ∧ s_l00Src_pick_0p0_C0_k1 a0 v9 v10 v11 = some (q0, q1, q2)) ?_ ?_
  ·refine RunC.seq ?_
   rcases bsel_some h with ⟨hc3, h⟩ | ⟨hc3, h⟩
   ·refine RunC.regionW ?_
    refine zm (r := i64 a0) ?_
    refine zl (r := b true) (LOp.eqb (LOp.gtr rfl rfl rfl) hc3) ?_
    refine zN ?_
    refine RunC.cond_true rfl rfl ?_
    obtain ⟨x4, hx4, h⟩ := olet_some h
    obtain ⟨r5, r6, r7, hf5, h⟩ := obind3_some h
    obtain ⟨x8, hx6, h⟩ := olet_some h
    refine RunC.regionW ?_
    refine zm (r := i64 r1) ?_
    refine zl (r := i64 x4) (LOp.eqr (LOp.mul rfl rfl rfl) (congrArg (ik .i64) hx4)) ?_
    refine zm (r := optr 0 0 0) ?_
    refine ROps.callO (A := [optr 0 0 0]) (args := [optr 0 0 0]) (Γc := [⟨0, some [sl a1.length (a1.map (ik .u8)), i64 r2, ik .u64 r3]⟩]) (Γc' := [⟨0, some [sl a1.length (a1.map (ik .u8)), i64 r6, ik .u64 r7]⟩]) (r' := i64 r5) (Γ' := [⟨0, some [sl a1.length (a1.map (ik .u8)), i64 r6, ik .u64 r7]⟩]) [(0, 0)] [] rfl (CallAs.func ent156 rfl rfl) rfl rfl (SelOk.of (show List.Nodup [0] from by decide) (SelL.cells0 rfl (by simp [ren, rens, sigma, rens_f32, rens_f64, rens_i64, rens_ik, rens_str, rens_cp]) (lts_cons (lt_slk (fun _ => rfl)) (lts_cons rfl (lts_cons rfl lts_nil))) trivial)) (live_of ⟨⟨_, _, rfl⟩, trivial⟩) (by simp [ren, rens, sigma, rens_f32, rens_f64, rens_i64, rens_ik, rens_str, rens_cp]) rfl (s_l00Src_next_0p0_C0_ok a1 r2 r3 r5 r6 r7 hf5) rfl (news_of trivial) (show List.Nodup [0] from by decide) (by simp [ren, rens, sigma]) (by simp [backOb, sigma, ren, rens, rens_f32, rens_f64, rens_i64, rens_ik, rens_str, rens_cp]) ?_
    refine zl (r := i64 x8) (LOp.eqr (LOp.add rfl rfl rfl) (congrArg (ik .i64) hx6)) ?_
    refine za (r := i64 x8) ?_
    refine zN ?_
    exact ⟨r6, r7, x8, ⟨aR, aR, trivial⟩, ⟨⟨rfl, .inr rfl⟩, trivial⟩, h⟩
   ·refine RunC.regionW ?_
    refine zm (r := i64 a0) ?_
    refine zl (r := b false) (LOp.eqb (LOp.gtr rfl rfl rfl) hc3) ?_
    refine zN ?_
    refine RunC.cond_false rfl rfl ?_
    refine RunC.skip ?_
    exact ⟨r2, r3, r1, ⟨aR, aR, trivial⟩, ⟨⟨rfl, .inr rfl⟩, trivial⟩, h⟩
  ·rintro τ2 Γ2 ⟨v9, v10, v11, hw2, hd2, h⟩
   refine RunC.wl hw2 hd2 ?_
   unfold s_l00Src_pick_0p0_C0_k1 at h
   refine RunC.seq ?_
   obtain ⟨hz7, h⟩ := need_some h
   obtain ⟨x12, hx8, h⟩ := olet_some h
   refine RunC.regionW ?_
   refine zm (r := i64 v11) ?_
   refine zm (r := i64 a0) ?_
   refine zl (r := i64 x12) (LOp.eqr (LOp.rem rfl rfl rfl (nz hz7)) (congrArg (ik .i64) hx8)) ?_
   refine za (r := i64 x12) ?_
   refine zN ?_
   refine RunC.ret ?_
   have hq := Option.some.inj h
   obtain ⟨hq0, hq⟩ := Prod.mk.inj hq
   obtain ⟨hq1, hq⟩ := Prod.mk.inj hq
   subst q0
   subst q1
   subst q2
   exact bodyQ.mk (r' := i64 x12) [(0, 0)] (.inr rfl) rfl (show List.Nodup [0] from by decide) rfl rfl (Res.one rfl (RV.tmp rfl)) (SelL.cells rfl (by first | rfl | simp [ren, rens, sigma, rens_f32, rens_f64, rens_i64, rens_ik, rens_str, rens_cp]) (lts_cons (lt_slk (fun _ => rfl)) (lts_cons rfl (lts_cons rfl lts_nil))) trivial)
noncomputable def s_l02DrawSides_0p0_C0_b1 (a2 : List Int) (L7 : List F) (v8 : Int) (v9 : Int) (v10 : Int) : Option (LR ((List F) × Int × Int × Int) ((List F) × Int × Int) (Int × Int × Int × Int × (List F))) :=
 bsel (decide (0 < v10)) (
  obind3 (s_l00Src_pick_0p0_C0 33 a2 v8 v9) fun (r17 : Int) (r18 : Int) (r19 : Int) =>
  olet (IntKind.i64.wrap (r17 - 16)) fun (x20 : Int) =>
  olet (fint .f32 x20) fun (x21 : F) =>
  olet (fop .quo .f32 x21 (some 1082130432)) fun (x22 : F) =>
  need (apok 4 L7.length 1) <|
  olet (IntKind.i64.wrap (v10 - 1)) fun (x23 : Int) =>
  some (LR.next ((L7 ++ ([x22] : List F)), r18, r19, x23))) (
  some (LR.out (L7, v8, v9)))
noncomputable def s_l02DrawSides_0p0_C0_s1 (a2 : List Int) : ((List F) × Int × Int × Int) → Option (LR ((List F) × Int × Int × Int) ((List F) × Int × Int) (Int × Int × Int × Int × (List F))) := fun s => s_l02DrawSides_0p0_C0_b1 a2 s.1 s.2.1 s.2.2.1 s.2.2.2
noncomputable def s_l02DrawSides_0p0_C0_k1 (r1 : Int) (r2 : Int) (L26 : List F) (v27 : Int) (v28 : Int) : Option (Int × Int × Int × Int × (List F)) :=
 some (r1, r2, v27, v28, L26)
noncomputable def s_l02DrawSides_0p0_C0 (a0 : Int) (a1 : Int) (a2 : List Int) (a3 : Int) (a4 : Int) : Option (Int × Int × Int × Int × (List F)) :=
 obind3 (s_l02Blank a0 a1) fun (r1 : Int) (r2 : Int) (r3 : List F) =>
 olet (IntKind.i64.wrap (a0 * a1)) fun (x4 : Int) =>
 obind (loopM (s_l02DrawSides_0p0_C0_s1 a2) (r3, a3, a4, x4)) fun z => osum z (fun e => s_l02DrawSides_0p0_C0_k1 r1 r2 e.1 e.2.1 e.2.2) (fun r => some r)
theorem s_l02DrawSides_0p0_C0_ok (a0 : Int) (a1 : Int) (a2 : List Int) (a3 : Int) (a4 : Int) (q0 : Int) (q1 : Int) (q2 : Int) (q3 : Int) (q4 : List F) (h : s_l02DrawSides_0p0_C0 a0 a1 a2 a3 a4 = some (q0, q1, q2, q3, q4)) : Ev Try.prog 55 [optr 0 0 0, i64 a0, i64 a1] [⟨0, some [sl a2.length (a2.map (ik .u8)), i64 a3, ik .u64 a4]⟩] (agg (oXc q0 q1 1 0 q4.length)) [⟨0, some [sl a2.length (a2.map (ik .u8)), i64 q2, ik .u64 q3]⟩, ⟨0, some (q4.map f32)⟩] := by
 refine Ev.start Try.func55 rfl rfl 4 (τ := [(0, optr 0 0 0), (1, i64 a0), (2, i64 a1)]) rfl (Γ' := [⟨0, some [sl a2.length (a2.map (ik .u8)), i64 a3, ik .u64 a4]⟩, ⟨0, none⟩, ⟨0, none⟩, ⟨0, none⟩, ⟨0, none⟩]) rfl (n := 60) rfl (g := 1) rfl (by decide) ?_
 unfold s_l02DrawSides_0p0_C0 at h
 refine zQ ?_
 refine ROps.d (r := optr 1 1 0) (fs := [(1, zMx)]) (Γ' := [⟨0, some [sl a2.length (a2.map (ik .u8)), i64 a3, ik .u64 a4]⟩, ⟨1, some zMx⟩, ⟨0, none⟩, ⟨0, none⟩, ⟨0, none⟩]) rfl rfl rfl (TOp.alloc_o (g := ⟨0, none⟩) 1 rfl zer26 zok26 rfl) rfl ?_
 refine zN ?_
 refine RunC.seq ?_
 obtain ⟨r1, r2, r3, hf1, h⟩ := obind3_some h
 refine RunC.regionW ?_
 refine zm (r := i64 a0) ?_
 refine zm (r := i64 a1) ?_
 refine ROps.d (r := agg (oXc r1 r2 2 1 r3.length)) (fs := [(2, (r3.map f32))]) (Γ' := [⟨0, some [sl a2.length (a2.map (ik .u8)), i64 a3, ik .u64 a4]⟩, ⟨1, some zMx⟩, ⟨1, some (r3.map f32)⟩, ⟨0, none⟩, ⟨0, none⟩]) rfl rfl rfl (TOp.callBN (ls := [(r3.map f32)]) [2] (CallAs.func ent124 rfl rfl) (Bors.cons (Bor.pure rfl) (Bors.cons (Bor.pure rfl) Bors.nil)) rfl (s_l02Blank_ok a0 a1 r1 r2 r3 hf1) (and_all (lts0_map (f := f32) (fun _ => rfl) _) rfl) (and_all (noss_map (f := f32) (fun _ => rfl) _) rfl) rfl (by decide) (ns_of ⟨⟨_, rfl⟩, trivial⟩)) rfl ?_
 refine ROps.d (r := optr 3 1 0) (fs := [(3, zMx)]) (Γ' := [⟨0, some [sl a2.length (a2.map (ik .u8)), i64 a3, ik .u64 a4]⟩, ⟨1, some zMx⟩, ⟨1, some (r3.map f32)⟩, ⟨1, some zMx⟩, ⟨0, none⟩]) rfl rfl rfl (TOp.alloc_o (g := ⟨0, none⟩) 3 rfl zer26 zok26 rfl) rfl ?_
 refine ROps.store_le (r := agg (oXc r1 r2 2 1 r3.length)) (l' := (oXc r1 r2 2 1 r3.length)) (Γ' := [⟨0, some [sl a2.length (a2.map (ik .u8)), i64 a3, ik .u64 a4]⟩, ⟨1, some zMx⟩, ⟨1, some (r3.map f32)⟩, ⟨1, some (oXc r1 r2 2 1 r3.length)⟩, ⟨0, none⟩]) rfl siz26 rfl rfl rfl aR rfl rfl rfl rfl (Nat.le_of_ble_eq_true rfl) rfl rfl ?_
 refine zN ?_
 iterate 2 (refine RunC.seq ?_)
 obtain ⟨x4, hx2, h⟩ := olet_some h
 refine RunC.regionW ?_
 refine zm (r := i64 a0) ?_
 refine zm (r := i64 a1) ?_
 refine zl (r := i64 x4) (LOp.eqr (LOp.mul rfl rfl rfl) (congrArg (ik .i64) hx2)) ?_
 refine za (r := i64 x4) ?_
 refine zN ?_
 obtain ⟨z2, hz_2, h⟩ := obind_some h
 refine RunC.cutN (fun τ Γ => ∃ (L26 : List F) (v27 : Int) (v28 : Int) (u24 : Nat) (u25 : Nat), WeakLe τ [(6, optr 1 1 0), (7, optr 3 1 0)] ∧ DeadLe Γ [⟨0, some [sl a2.length (a2.map (ik .u8)), i64 v27, ik .u64 v28]⟩, ⟨1, some zMx⟩, ⟨u24, some (L26.map f32)⟩, ⟨1, some (oXc r1 r2 2 u24 L26.length)⟩, ⟨u25, none⟩] ∧ z2 = .inl (L26, v27, v28)) ?_ ?_
 ·refine RunC.block (RunC.loop (RunL.loopM (x := z2) (s_l02DrawSides_0p0_C0_s1 a2) (fun (s : (List F) × Int × Int × Int) τ Γ => ∃ (u5 : Nat) (u6 : Nat), WeakLe τ [(0, optr 0 0 0), (6, optr 1 1 0), (7, optr 3 1 0), (8, i64 s.2.2.2)] ∧ DeadLe Γ [⟨0, some [sl a2.length (a2.map (ik .u8)), i64 s.2.1, ik .u64 s.2.2.1]⟩, ⟨1, some zMx⟩, ⟨u5, some (s.1.map f32)⟩, ⟨1, some [i64 r1, i64 r2, oref 2 u5 0 s.1.length]⟩, ⟨u6, none⟩]) ?_ _ _ _ hz_2 ⟨1, 0, ⟨aR, aR, aR, aR, trivial⟩, ⟨⟨rfl, .inr rfl⟩, ⟨rfl, .inr rfl⟩, ⟨rfl, .inr rfl⟩, ⟨rfl, .inr (by first | rfl | simp)⟩, ⟨rfl, .inl rfl⟩, trivial⟩⟩))
  rintro ⟨L7, v8, v9, v10⟩ τ2 Γ2 y2_ ⟨u5, u6, hw2, hd2⟩ h2_ ho2 hr2
  refine RunC.wl (τ' := [(0, optr 0 0 0), (6, optr 1 1 0), (7, optr 3 1 0), (8, i64 v10)]) (Γ' := [⟨0, some [sl a2.length (a2.map (ik .u8)), i64 v8, ik .u64 v9]⟩, ⟨1, some zMx⟩, ⟨u5, some (L7.map f32)⟩, ⟨1, some (oXc r1 r2 2 u5 L7.length)⟩, ⟨u6, none⟩]) hw2 hd2 ?_
  replace h2_ : s_l02DrawSides_0p0_C0_b1 a2 L7 v8 v9 v10 = some y2_ := h2_
  unfold s_l02DrawSides_0p0_C0_b1 at h2_
  iterate 2 (refine RunC.seq ?_)
  rcases bsel_some h2_ with ⟨hc3, h2_⟩ | ⟨hc3, h2_⟩
  ·refine RunC.regionW ?_
   refine zm (r := i64 v10) ?_
   refine zl (r := b true) (LOp.eqb (LOp.gtr rfl rfl rfl) hc3) ?_
   refine zN ?_
   refine RunC.cond_true rfl rfl ?_
   refine RunC.skip ?_
   refine RunC.seq ?_
   refine RunC.block ?_
   obtain ⟨r17, r18, r19, hf9, h2_⟩ := obind3_some h2_
   obtain ⟨x20, hx10, h2_⟩ := olet_some h2_
   obtain ⟨x21, hx11, h2_⟩ := olet_some h2_
   obtain ⟨x22, hx12, h2_⟩ := olet_some h2_
   obtain ⟨hm13, h2_⟩ := need_some h2_
   refine RunC.cutN (fun τ Γ => WeakLe τ [(0, optr 0 0 0), (6, optr 1 1 0), (7, optr 3 1 0), (8, i64 v10), (15, i64 v10), (16, b true), (19, optr 3 1 2), (20, oref 2 u5 0 L7.length), (21, optr 0 0 0), (22, i64 r17), (23, i64 x20), (24, f32 x21), (25, f32 x22), (26, oref 4 (u6 + 1) 0 1), (27, oref 2 (u5 + 1) 0 (L7.length + 1)), (28, optr 3 1 2)] ∧ DeadLe Γ [⟨0, some [sl a2.length (a2.map (ik .u8)), i64 r18, ik .u64 r19]⟩, ⟨1, some zMx⟩, ⟨(u5 + 1), some ((L7 ++ ([x22] : List F)).map f32)⟩, ⟨1, some [i64 r1, i64 r2, oref 2 (u5 + 1) 0 (L7.length + 1)]⟩, ⟨(u6 + 1), some (([x22] : List F).map f32)⟩]) ?_ ?_
   ·refine RunC.any (n := 11) rfl mixed ?_
    refine RAny.more (i0 := 0) (l := [2]) (by kernel_rfl) (RAnys.cons rfl ?_ (RAnys.cons rfl ?_ RAnys.nil))
    ·refine zl (r := optr 3 1 2) (LOp.fao und26 rfl siz24 rfl rfl rfl) ?_
     refine zN ?_
     refine RAny.more (i0 := 1) (l := [2]) (by kernel_rfl) (RAnys.cons rfl ?_ (RAnys.cons rfl ?_ RAnys.nil))
     ·refine ROps.d (r := oref 2 u5 0 L7.length) (fs := []) (Γ' := [⟨0, some [sl a2.length (a2.map (ik .u8)), i64 v8, ik .u64 v9]⟩, ⟨1, some zMx⟩, ⟨u5, some (L7.map f32)⟩, ⟨1, some (oXc r1 r2 2 u5 L7.length)⟩, ⟨u6, none⟩]) rfl rfl rfl (TOp.load1_o rfl rfl agg24 rfl rfl) rfl ?_
      refine zN ?_
      refine RAny.more (i0 := 2) (l := []) (by kernel_rfl) (RAnys.cons rfl ?_ RAnys.nil)
      refine zm (r := optr 0 0 0) ?_
      refine zN ?_
      refine RAny.more (i0 := 3) (l := []) (by kernel_rfl) (RAnys.cons rfl ?_ RAnys.nil)
      refine ROps.callO (A := [optr 0 0 0, i64 33]) (args := [optr 0 0 0, i64 33]) (Γc := [⟨0, some [sl a2.length (a2.map (ik .u8)), i64 v8, ik .u64 v9]⟩]) (Γc' := [⟨0, some [sl a2.length (a2.map (ik .u8)), i64 r18, ik .u64 r19]⟩]) (r' := i64 r17) (Γ' := [⟨0, some [sl a2.length (a2.map (ik .u8)), i64 r18, ik .u64 r19]⟩, ⟨1, some zMx⟩, ⟨u5, some (L7.map f32)⟩, ⟨1, some (oXc r1 r2 2 u5 L7.length)⟩, ⟨u6, none⟩]) [(0, 0)] [] rfl (CallAs.func ent112 rfl rfl) rfl rfl (SelOk.of (show List.Nodup [0] from by decide) (SelL.cells0 rfl (by simp [ren, rens, sigma, rens_f32, rens_f64, rens_i64, rens_ik, rens_str, rens_cp]) (lts_cons (lt_slk (fun _ => rfl)) (lts_cons rfl (lts_cons rfl lts_nil))) trivial)) (live_of ⟨⟨_, _, rfl⟩, trivial⟩) (by simp [ren, rens, sigma, rens_f32, rens_f64, rens_i64, rens_ik, rens_str, rens_cp]) rfl (s_l00Src_pick_0p0_C0_ok 33 a2 v8 v9 r17 r18 r19 hf9) rfl (news_of trivial) (show List.Nodup [0] from by decide) (by simp [ren, rens, sigma]) (by simp [backOb, sigma, ren, rens, rens_f32, rens_f64, rens_i64, rens_ik, rens_str, rens_cp]) ?_
      refine zN ?_
      refine RAny.more (i0 := 4) (l := []) (by kernel_rfl) (RAnys.cons rfl ?_ RAnys.nil)
      refine zl (r := i64 x20) (LOp.eqr (LOp.sub rfl rfl rfl) (congrArg (ik .i64) hx10)) ?_
      refine zN ?_
      refine RAny.more (i0 := 5) (l := []) (by kernel_rfl) (RAnys.cons rfl ?_ RAnys.nil)
      refine zl (r := f32 x21) (LOp.eqr (LOp.i2f (src := 2) (dst := 36) ⟨_, pun2⟩ pun36 rfl rfl) (congrArg (f .f32) hx11)) ?_
      refine zN ?_
      refine RAny.more (i0 := 6) (l := []) (by kernel_rfl) (RAnys.cons rfl ?_ RAnys.nil)
      refine ROps.d (r := f32 x22) (fs := []) (Γ' := [⟨0, some [sl a2.length (a2.map (ik .u8)), i64 r18, ik .u64 r19]⟩, ⟨1, some zMx⟩, ⟨u5, some (L7.map f32)⟩, ⟨1, some (oXc r1 r2 2 u5 L7.length)⟩, ⟨u6, none⟩]) rfl rfl rfl (TOp.eqr (TOp.fop (.inr (.inr (.inr rfl))) rfl (OpF.tmp rfl) (OpF.const rfl (by kernel_rfl) (by kernel_rfl))) (congrArg (f .f32) hx12)) rfl ?_
      refine zN ?_
      refine RAny.more (i0 := 7) (l := []) (by kernel_rfl) (RAnys.cons rfl ?_ RAnys.nil)
      refine ROps.d (r := oref 4 (u6 + 1) 0 1) (fs := [(4, (([x22] : List F).map f32))]) (Γ' := [⟨0, some [sl a2.length (a2.map (ik .u8)), i64 r18, ik .u64 r19]⟩, ⟨1, some zMx⟩, ⟨u5, some (L7.map f32)⟩, ⟨1, some (oXc r1 r2 2 u5 L7.length)⟩, ⟨(u6 + 1), some (([x22] : List F).map f32)⟩]) rfl rfl rfl (TOp.buildSlice_o (g := ⟨u6, none⟩) (za := f32 (some 0)) (qs := [(0, [f32 x22])]) 4 rfl und24 siz36 zer36 rfl zel36 rfl rfl ⟨rfl, ⟨_, ALe.refl _, rfl⟩, trivial⟩ rfl) rfl ?_
      refine zN ?_
      refine RAny.more (i0 := 8) (l := []) (by kernel_rfl) (RAnys.cons rfl ?_ RAnys.nil)
      refine ROps.app (f := f32) (xs := L7) (ys := ([x22] : List F)) (Γ' := [⟨0, some [sl a2.length (a2.map (ik .u8)), i64 r18, ik .u64 r19]⟩, ⟨1, some zMx⟩, ⟨(u5 + 1), some ((L7 ++ ([x22] : List F)).map f32)⟩, ⟨1, some (oXc r1 r2 2 u5 L7.length)⟩, ⟨(u6 + 1), some (([x22] : List F).map f32)⟩]) rfl pun24 inf36 rfl rfl rfl rfl rfl rfl rfl rfl rfl (by simp) (ReadAs.own rfl (by simp)) (ones_map (fun _ => rfl)) (ap_by hm13) (ap_mx hm13) rfl ?_
      refine zN ?_
      refine RAny.more (i0 := 9) (l := []) (by kernel_rfl) (RAnys.cons rfl ?_ RAnys.nil)
      refine zl (r := optr 3 1 2) (LOp.fao und26 rfl siz24 rfl rfl rfl) ?_
      refine zN ?_
      refine RAny.more (i0 := 10) (l := []) (by kernel_rfl) (RAnys.cons rfl ?_ RAnys.nil)
      refine ROps.store_le (r := oref 2 (u5 + 1) 0 (L7.length + 1)) (l' := [i64 r1, i64 r2, oref 2 (u5 + 1) 0 (L7.length + 1)]) (Γ' := [⟨0, some [sl a2.length (a2.map (ik .u8)), i64 r18, ik .u64 r19]⟩, ⟨1, some zMx⟩, ⟨(u5 + 1), some ((L7 ++ ([x22] : List F)).map f32)⟩, ⟨1, some [i64 r1, i64 r2, oref 2 (u5 + 1) 0 (L7.length + 1)]⟩, ⟨(u6 + 1), some (([x22] : List F).map f32)⟩]) rfl siz24 rfl rfl rfl aR rfl rfl rfl rfl (Nat.le_of_ble_eq_true rfl) rfl rfl ?_
      refine zN ?_
      refine RAny.done (by kernel_rfl) ?_
      exact ⟨⟨aR, aR, aR, aR, aR, aR, aR, aR, aR, aR, aR, aR, aR, aR, aR, aR, trivial⟩, ⟨⟨rfl, .inr rfl⟩, ⟨rfl, .inr rfl⟩, ⟨rfl, .inr rfl⟩, ⟨rfl, .inr rfl⟩, ⟨rfl, .inr rfl⟩, trivial⟩⟩
     ·refine zm (r := optr 0 0 0) ?_
      refine zN ?_
      refine RAny.more (i0 := 1) (l := [3]) (by kernel_rfl) (RAnys.cons rfl ?_ (RAnys.cons rfl ?_ RAnys.nil))
      ·refine ROps.d (r := oref 2 u5 0 L7.length) (fs := []) (Γ' := [⟨0, some [sl a2.length (a2.map (ik .u8)), i64 v8, ik .u64 v9]⟩, ⟨1, some zMx⟩, ⟨u5, some (L7.map f32)⟩, ⟨1, some (oXc r1 r2 2 u5 L7.length)⟩, ⟨u6, none⟩]) rfl rfl rfl (TOp.load1_o rfl rfl agg24 rfl rfl) rfl ?_
       refine zN ?_
       refine RAny.more (i0 := 3) (l := []) (by kernel_rfl) (RAnys.cons rfl ?_ RAnys.nil)
       refine ROps.callO (A := [optr 0 0 0, i64 33]) (args := [optr 0 0 0, i64 33]) (Γc := [⟨0, some [sl a2.length (a2.map (ik .u8)), i64 v8, ik .u64 v9]⟩]) (Γc' := [⟨0, some [sl a2.length (a2.map (ik .u8)), i64 r18, ik .u64 r19]⟩]) (r' := i64 r17) (Γ' := [⟨0, some [sl a2.length (a2.map (ik .u8)), i64 r18, ik .u64 r19]⟩, ⟨1, some zMx⟩, ⟨u5, some (L7.map f32)⟩, ⟨1, some (oXc r1 r2 2 u5 L7.length)⟩, ⟨u6, none⟩]) [(0, 0)] [] rfl (CallAs.func ent112 rfl rfl) rfl rfl (SelOk.of (show List.Nodup [0] from by decide) (SelL.cells0 rfl (by simp [ren, rens, sigma, rens_f32, rens_f64, rens_i64, rens_ik, rens_str, rens_cp]) (lts_cons (lt_slk (fun _ => rfl)) (lts_cons rfl (lts_cons rfl lts_nil))) trivial)) (live_of ⟨⟨_, _, rfl⟩, trivial⟩) (by simp [ren, rens, sigma, rens_f32, rens_f64, rens_i64, rens_ik, rens_str, rens_cp]) rfl (s_l00Src_pick_0p0_C0_ok 33 a2 v8 v9 r17 r18 r19 hf9) rfl (news_of trivial) (show List.Nodup [0] from by decide) (by simp [ren, rens, sigma]) (by simp [backOb, sigma, ren, rens, rens_f32, rens_f64, rens_i64, rens_ik, rens_str, rens_cp]) ?_
       refine zN ?_
       refine RAny.more (i0 := 4) (l := []) (by kernel_rfl) (RAnys.cons rfl ?_ RAnys.nil)
       refine zl (r := i64 x20) (LOp.eqr (LOp.sub rfl rfl rfl) (congrArg (ik .i64) hx10)) ?_
       refine zN ?_
       refine RAny.more (i0 := 5) (l := []) (by kernel_rfl) (RAnys.cons rfl ?_ RAnys.nil)
       refine zl (r := f32 x21) (LOp.eqr (LOp.i2f (src := 2) (dst := 36) ⟨_, pun2⟩ pun36 rfl rfl) (congrArg (f .f32) hx11)) ?_
       refine zN ?_
       refine RAny.more (i0 := 6) (l := []) (by kernel_rfl) (RAnys.cons rfl ?_ RAnys.nil)
       refine ROps.d (r := f32 x22) (fs := []) (Γ' := [⟨0, some [sl a2.length (a2.map (ik .u8)), i64 r18, ik .u64 r19]⟩, ⟨1, some zMx⟩, ⟨u5, some (L7.map f32)⟩, ⟨1, some (oXc r1 r2 2 u5 L7.length)⟩, ⟨u6, none⟩]) rfl rfl rfl (TOp.eqr (TOp.fop (.inr (.inr (.inr rfl))) rfl (OpF.tmp rfl) (OpF.const rfl (by kernel_rfl) (by kernel_rfl))) (congrArg (f .f32) hx12)) rfl ?_
       refine zN ?_
       refine RAny.more (i0 := 7) (l := []) (by kernel_rfl) (RAnys.cons rfl ?_ RAnys.nil)
       refine ROps.d (r := oref 4 (u6 + 1) 0 1) (fs := [(4, (([x22] : List F).map f32))]) (Γ' := [⟨0, some [sl a2.length (a2.map (ik .u8)), i64 r18, ik .u64 r19]⟩, ⟨1, some zMx⟩, ⟨u5, some (L7.map f32)⟩, ⟨1, some (oXc r1 r2 2 u5 L7.length)⟩, ⟨(u6 + 1), some (([x22] : List F).map f32)⟩]) rfl rfl rfl (TOp.buildSlice_o (g := ⟨u6, none⟩) (za := f32 (some 0)) (qs := [(0, [f32 x22])]) 4 rfl und24 siz36 zer36 rfl zel36 rfl rfl ⟨rfl, ⟨_, ALe.refl _, rfl⟩, trivial⟩ rfl) rfl ?_
       refine zN ?_
       refine RAny.more (i0 := 8) (l := []) (by kernel_rfl) (RAnys.cons rfl ?_ RAnys.nil)
       refine ROps.app (f := f32) (xs := L7) (ys := ([x22] : List F)) (Γ' := [⟨0, some [sl a2.length (a2.map (ik .u8)), i64 r18, ik .u64 r19]⟩, ⟨1, some zMx⟩, ⟨(u5 + 1), some ((L7 ++ ([x22] : List F)).map f32)⟩, ⟨1, some (oXc r1 r2 2 u5 L7.length)⟩, ⟨(u6 + 1), some (([x22] : List F).map f32)⟩]) rfl pun24 inf36 rfl rfl rfl rfl rfl rfl rfl rfl rfl (by simp) (ReadAs.own rfl (by simp)) (ones_map (fun _ => rfl)) (ap_by hm13) (ap_mx hm13) rfl ?_
       refine zN ?_
       refine RAny.more (i0 := 9) (l := []) (by kernel_rfl) (RAnys.cons rfl ?_ RAnys.nil)
       refine zl (r := optr 3 1 2) (LOp.fao und26 rfl siz24 rfl rfl rfl) ?_
       refine zN ?_
       refine RAny.more (i0 := 10) (l := []) (by kernel_rfl) (RAnys.cons rfl ?_ RAnys.nil)
       refine ROps.store_le (r := oref 2 (u5 + 1) 0 (L7.length + 1)) (l' := [i64 r1, i64 r2, oref 2 (u5 + 1) 0 (L7.length + 1)]) (Γ' := [⟨0, some [sl a2.length (a2.map (ik .u8)), i64 r18, ik .u64 r19]⟩, ⟨1, some zMx⟩, ⟨(u5 + 1), some ((L7 ++ ([x22] : List F)).map f32)⟩, ⟨1, some [i64 r1, i64 r2, oref 2 (u5 + 1) 0 (L7.length + 1)]⟩, ⟨(u6 + 1), some (([x22] : List F).map f32)⟩]) rfl siz24 rfl rfl rfl aR rfl rfl rfl rfl (Nat.le_of_ble_eq_true rfl) rfl rfl ?_
       refine zN ?_
       refine RAny.done (by kernel_rfl) ?_
       exact ⟨⟨aR, aR, aR, aR, aR, aR, aR, aR, aR, aR, aR, aR, aR, aR, aR, aR, trivial⟩, ⟨⟨rfl, .inr rfl⟩, ⟨rfl, .inr rfl⟩, ⟨rfl, .inr rfl⟩, ⟨rfl, .inr rfl⟩, ⟨rfl, .inr rfl⟩, trivial⟩⟩
      ·refine ROps.callO (A := [optr 0 0 0, i64 33]) (args := [optr 0 0 0, i64 33]) (Γc := [⟨0, some [sl a2.length (a2.map (ik .u8)), i64 v8, ik .u64 v9]⟩]) (Γc' := [⟨0, some [sl a2.length (a2.map (ik .u8)), i64 r18, ik .u64 r19]⟩]) (r' := i64 r17) (Γ' := [⟨0, some [sl a2.length (a2.map (ik .u8)), i64 r18, ik .u64 r19]⟩, ⟨1, some zMx⟩, ⟨u5, some (L7.map f32)⟩, ⟨1, some (oXc r1 r2 2 u5 L7.length)⟩, ⟨u6, none⟩]) [(0, 0)] [] rfl (CallAs.func ent112 rfl rfl) rfl rfl (SelOk.of (show List.Nodup [0] from by decide) (SelL.cells0 rfl (by simp [ren, rens, sigma, rens_f32, rens_f64, rens_i64, rens_ik, rens_str, rens_cp]) (lts_cons (lt_slk (fun _ => rfl)) (lts_cons rfl (lts_cons rfl lts_nil))) trivial)) (live_of ⟨⟨_, _, rfl⟩, trivial⟩) (by simp [ren, rens, sigma, rens_f32, rens_f64, rens_i64, rens_ik, rens_str, rens_cp]) rfl (s_l00Src_pick_0p0_C0_ok 33 a2 v8 v9 r17 r18 r19 hf9) rfl (news_of trivial) (show List.Nodup [0] from by decide) (by simp [ren, rens, sigma]) (by simp [backOb, sigma, ren, rens, rens_f32, rens_f64, rens_i64, rens_ik, rens_str, rens_cp]) ?_
       refine zN ?_
       refine RAny.more (i0 := 1) (l := [4]) (by kernel_rfl) (RAnys.cons rfl ?_ (RAnys.cons rfl ?_ RAnys.nil))
       ·refine ROps.d (r := oref 2 u5 0 L7.length) (fs := []) (Γ' := [⟨0, some [sl a2.length (a2.map (ik .u8)), i64 r18, ik .u64 r19]⟩, ⟨1, some zMx⟩, ⟨u5, some (L7.map f32)⟩, ⟨1, some (oXc r1 r2 2 u5 L7.length)⟩, ⟨u6, none⟩]) rfl rfl rfl (TOp.load1_o rfl rfl agg24 rfl rfl) rfl ?_
        refine zN ?_
        refine RAny.more (i0 := 4) (l := []) (by kernel_rfl) (RAnys.cons rfl ?_ RAnys.nil)
        refine zl (r := i64 x20) (LOp.eqr (LOp.sub rfl rfl rfl) (congrArg (ik .i64) hx10)) ?_
        refine zN ?_
        refine RAny.more (i0 := 5) (l := []) (by kernel_rfl) (RAnys.cons rfl ?_ RAnys.nil)
        refine zl (r := f32 x21) (LOp.eqr (LOp.i2f (src := 2) (dst := 36) ⟨_, pun2⟩ pun36 rfl rfl) (congrArg (f .f32) hx11)) ?_
        refine zN ?_
        refine RAny.more (i0 := 6) (l := []) (by kernel_rfl) (RAnys.cons rfl ?_ RAnys.nil)
        refine ROps.d (r := f32 x22) (fs := []) (Γ' := [⟨0, some [sl a2.length (a2.map (ik .u8)), i64 r18, ik .u64 r19]⟩, ⟨1, some zMx⟩, ⟨u5, some (L7.map f32)⟩, ⟨1, some (oXc r1 r2 2 u5 L7.length)⟩, ⟨u6, none⟩]) rfl rfl rfl (TOp.eqr (TOp.fop (.inr (.inr (.inr rfl))) rfl (OpF.tmp rfl) (OpF.const rfl (by kernel_rfl) (by kernel_rfl))) (congrArg (f .f32) hx12)) rfl ?_
        refine zN ?_
        refine RAny.more (i0 := 7) (l := []) (by kernel_rfl) (RAnys.cons rfl ?_ RAnys.nil)
        refine ROps.d (r := oref 4 (u6 + 1) 0 1) (fs := [(4, (([x22] : List F).map f32))]) (Γ' := [⟨0, some [sl a2.length (a2.map (ik .u8)), i64 r18, ik .u64 r19]⟩, ⟨1, some zMx⟩, ⟨u5, some (L7.map f32)⟩, ⟨1, some (oXc r1 r2 2 u5 L7.length)⟩, ⟨(u6 + 1), some (([x22] : List F).map f32)⟩]) rfl rfl rfl (TOp.buildSlice_o (g := ⟨u6, none⟩) (za := f32 (some 0)) (qs := [(0, [f32 x22])]) 4 rfl und24 siz36 zer36 rfl zel36 rfl rfl ⟨rfl, ⟨_, ALe.refl _, rfl⟩, trivial⟩ rfl) rfl ?_
        refine zN ?_
        refine RAny.more (i0 := 8) (l := []) (by kernel_rfl) (RAnys.cons rfl ?_ RAnys.nil)
        refine ROps.app (f := f32) (xs := L7) (ys := ([x22] : List F)) (Γ' := [⟨0, some [sl a2.length (a2.map (ik .u8)), i64 r18, ik .u64 r19]⟩, ⟨1, some zMx⟩, ⟨(u5 + 1), some ((L7 ++ ([x22] : List F)).map f32)⟩, ⟨1, some (oXc r1 r2 2 u5 L7.length)⟩, ⟨(u6 + 1), some (([x22] : List F).map f32)⟩]) rfl pun24 inf36 rfl rfl rfl rfl rfl rfl rfl rfl rfl (by simp) (ReadAs.own rfl (by simp)) (ones_map (fun _ => rfl)) (ap_by hm13) (ap_mx hm13) rfl ?_
        refine zN ?_
        refine RAny.more (i0 := 9) (l := []) (by kernel_rfl) (RAnys.cons rfl ?_ RAnys.nil)
        refine zl (r := optr 3 1 2) (LOp.fao und26 rfl siz24 rfl rfl rfl) ?_
        refine zN ?_
        refine RAny.more (i0 := 10) (l := []) (by kernel_rfl) (RAnys.cons rfl ?_ RAnys.nil)
        refine ROps.store_le (r := oref 2 (u5 + 1) 0 (L7.length + 1)) (l' := [i64 r1, i64 r2, oref 2 (u5 + 1) 0 (L7.length + 1)]) (Γ' := [⟨0, some [sl a2.length (a2.map (ik .u8)), i64 r18, ik .u64 r19]⟩, ⟨1, some zMx⟩, ⟨(u5 + 1), some ((L7 ++ ([x22] : List F)).map f32)⟩, ⟨1, some [i64 r1, i64 r2, oref 2 (u5 + 1) 0 (L7.length + 1)]⟩, ⟨(u6 + 1), some (([x22] : List F).map f32)⟩]) rfl siz24 rfl rfl rfl aR rfl rfl rfl rfl (Nat.le_of_ble_eq_true rfl) rfl rfl ?_
        refine zN ?_
        refine RAny.done (by kernel_rfl) ?_
        exact ⟨⟨aR, aR, aR, aR, aR, aR, aR, aR, aR, aR, aR, aR, aR, aR, aR, aR, trivial⟩, ⟨⟨rfl, .inr rfl⟩, ⟨rfl, .inr rfl⟩, ⟨rfl, .inr rfl⟩, ⟨rfl, .inr rfl⟩, ⟨rfl, .inr rfl⟩, trivial⟩⟩
       ·refine zl (r := i64 x20) (LOp.eqr (LOp.sub rfl rfl rfl) (congrArg (ik .i64) hx10)) ?_
        refine zN ?_
        refine RAny.more (i0 := 1) (l := [5]) (by kernel_rfl) (RAnys.cons rfl ?_ (RAnys.cons rfl ?_ RAnys.nil))
        ·refine ROps.d (r := oref 2 u5 0 L7.length) (fs := []) (Γ' := [⟨0, some [sl a2.length (a2.map (ik .u8)), i64 r18, ik .u64 r19]⟩, ⟨1, some zMx⟩, ⟨u5, some (L7.map f32)⟩, ⟨1, some (oXc r1 r2 2 u5 L7.length)⟩, ⟨u6, none⟩]) rfl rfl rfl (TOp.load1_o rfl rfl agg24 rfl rfl) rfl ?_
         refine zN ?_
         refine RAny.more (i0 := 5) (l := []) (by kernel_rfl) (RAnys.cons rfl ?_ RAnys.nil)
         refine zl (r := f32 x21) (LOp.eqr (LOp.i2f (src := 2) (dst := 36) ⟨_, pun2⟩ pun36 rfl rfl) (congrArg (f .f32) hx11)) ?_
         refine zN ?_
         refine RAny.more (i0 := 6) (l := []) (by kernel_rfl) (RAnys.cons rfl ?_ RAnys.nil)
         refine ROps.d (r := f32 x22) (fs := []) (Γ' := [⟨0, some [sl a2.length (a2.map (ik .u8)), i64 r18, ik .u64 r19]⟩, ⟨1, some zMx⟩, ⟨u5, some (L7.map f32)⟩, ⟨1, some (oXc r1 r2 2 u5 L7.length)⟩, ⟨u6, none⟩]) rfl rfl rfl (TOp.eqr (TOp.fop (.inr (.inr (.inr rfl))) rfl (OpF.tmp rfl) (OpF.const rfl (by kernel_rfl) (by kernel_rfl))) (congrArg (f .f32) hx12)) rfl ?_
         refine zN ?_
         refine RAny.more (i0 := 7) (l := []) (by kernel_rfl) (RAnys.cons rfl ?_ RAnys.nil)
         refine ROps.d (r := oref 4 (u6 + 1) 0 1) (fs := [(4, (([x22] : List F).map f32))]) (Γ' := [⟨0, some [sl a2.length (a2.map (ik .u8)), i64 r18, ik .u64 r19]⟩, ⟨1, some zMx⟩, ⟨u5, some (L7.map f32)⟩, ⟨1, some (oXc r1 r2 2 u5 L7.length)⟩, ⟨(u6 + 1), some (([x22] : List F).map f32)⟩]) rfl rfl rfl (TOp.buildSlice_o (g := ⟨u6, none⟩) (za := f32 (some 0)) (qs := [(0, [f32 x22])]) 4 rfl und24 siz36 zer36 rfl zel36 rfl rfl ⟨rfl, ⟨_, ALe.refl _, rfl⟩, trivial⟩ rfl) rfl ?_
         refine zN ?_
         refine RAny.more (i0 := 8) (l := []) (by kernel_rfl) (RAnys.cons rfl ?_ RAnys.nil)
         refine ROps.app (f := f32) (xs := L7) (ys := ([x22] : List F)) (Γ' := [⟨0, some [sl a2.length (a2.map (ik .u8)), i64 r18, ik .u64 r19]⟩, ⟨1, some zMx⟩, ⟨(u5 + 1), some ((L7 ++ ([x22] : List F)).map f32)⟩, ⟨1, some (oXc r1 r2 2 u5 L7.length)⟩, ⟨(u6 + 1), some (([x22] : List F).map f32)⟩]) rfl pun24 inf36 rfl rfl rfl rfl rfl rfl rfl rfl rfl (by simp) (ReadAs.own rfl (by simp)) (ones_map (fun _ => rfl)) (ap_by hm13) (ap_mx hm13) rfl ?_
         refine zN ?_
         refine RAny.more (i0 := 9) (l := []) (by kernel_rfl) (RAnys.cons rfl ?_ RAnys.nil)
         refine zl (r := optr 3 1 2) (LOp.fao und26 rfl siz24 rfl rfl rfl) ?_
         refine zN ?_
         refine RAny.more (i0 := 10) (l := []) (by kernel_rfl) (RAnys.cons rfl ?_ RAnys.nil)
         refine ROps.store_le (r := oref 2 (u5 + 1) 0 (L7.length + 1)) (l' := [i64 r1, i64 r2, oref 2 (u5 + 1) 0 (L7.length + 1)]) (Γ' := [⟨0, some [sl a2.length (a2.map (ik .u8)), i64 r18, ik .u64 r19]⟩, ⟨1, some zMx⟩, ⟨(u5 + 1), some ((L7 ++ ([x22] : List F)).map f32)⟩, ⟨1, some [i64 r1, i64 r2, oref 2 (u5 + 1) 0 (L7.length + 1)]⟩, ⟨(u6 + 1), some (([x22] : List F).map f32)⟩]) rfl siz24 rfl rfl rfl aR rfl rfl rfl rfl (Nat.le_of_ble_eq_true rfl) rfl rfl ?_
         refine zN ?_
         refine RAny.done (by kernel_rfl) ?_
         exact ⟨⟨aR, aR, aR, aR, aR, aR, aR, aR, aR, aR, aR, aR, aR, aR, aR, aR, trivial⟩, ⟨⟨rfl, .inr rfl⟩, ⟨rfl, .inr rfl⟩, ⟨rfl, .inr rfl⟩, ⟨rfl, .inr rfl⟩, ⟨rfl, .inr rfl⟩, trivial⟩⟩
        ·refine zl (r := f32 x21) (LOp.eqr (LOp.i2f (src := 2) (dst := 36) ⟨_, pun2⟩ pun36 rfl rfl) (congrArg (f .f32) hx11)) ?_
         refine zN ?_
         refine RAny.more (i0 := 1) (l := [6]) (by kernel_rfl) (RAnys.cons rfl ?_ (RAnys.cons rfl ?_ RAnys.nil))
         ·refine ROps.d (r := oref 2 u5 0 L7.length) (fs := []) (Γ' := [⟨0, some [sl a2.length (a2.map (ik .u8)), i64 r18, ik .u64 r19]⟩, ⟨1, some zMx⟩, ⟨u5, some (L7.map f32)⟩, ⟨1, some (oXc r1 r2 2 u5 L7.length)⟩, ⟨u6, none⟩]) rfl rfl rfl (TOp.load1_o rfl rfl agg24 rfl rfl) rfl ?_
          refine zN ?_
          refine RAny.more (i0 := 6) (l := []) (by kernel_rfl) (RAnys.cons rfl ?_ RAnys.nil)
          refine ROps.d (r := f32 x22) (fs := []) (Γ' := [⟨0, some [sl a2.length (a2.map (ik .u8)), i64 r18, ik .u64 r19]⟩, ⟨1, some zMx⟩, ⟨u5, some (L7.map f32)⟩, ⟨1, some (oXc r1 r2 2 u5 L7.length)⟩, ⟨u6, none⟩]) rfl rfl rfl (TOp.eqr (TOp.fop (.inr (.inr (.inr rfl))) rfl (OpF.tmp rfl) (OpF.const rfl (by kernel_rfl) (by kernel_rfl))) (congrArg (f .f32) hx12)) rfl ?_
          refine zN ?_
          refine RAny.more (i0 := 7) (l := []) (by kernel_rfl) (RAnys.cons rfl ?_ RAnys.nil)
          refine ROps.d (r := oref 4 (u6 + 1) 0 1) (fs := [(4, (([x22] : List F).map f32))]) (Γ' := [⟨0, some [sl a2.length (a2.map (ik .u8)), i64 r18, ik .u64 r19]⟩, ⟨1, some zMx⟩, ⟨u5, some (L7.map f32)⟩, ⟨1, some (oXc r1 r2 2 u5 L7.length)⟩, ⟨(u6 + 1), some (([x22] : List F).map f32)⟩]) rfl rfl rfl (TOp.buildSlice_o (g := ⟨u6, none⟩) (za := f32 (some 0)) (qs := [(0, [f32 x22])]) 4 rfl und24 siz36 zer36 rfl zel36 rfl rfl ⟨rfl, ⟨_, ALe.refl _, rfl⟩, trivial⟩ rfl) rfl ?_
          refine zN ?_
          refine RAny.more (i0 := 8) (l := []) (by kernel_rfl) (RAnys.cons rfl ?_ RAnys.nil)
          refine ROps.app (f := f32) (xs := L7) (ys := ([x22] : List F)) (Γ' := [⟨0, some [sl a2.length (a2.map (ik .u8)), i64 r18, ik .u64 r19]⟩, ⟨1, some zMx⟩, ⟨(u5 + 1), some ((L7 ++ ([x22] : List F)).map f32)⟩, ⟨1, some (oXc r1 r2 2 u5 L7.length)⟩, ⟨(u6 + 1), some (([x22] : List F).map f32)⟩]) rfl pun24 inf36 rfl rfl rfl rfl rfl rfl rfl rfl rfl (by simp) (ReadAs.own rfl (by simp)) (ones_map (fun _ => rfl)) (ap_by hm13) (ap_mx hm13) rfl ?_
          refine zN ?_
          refine RAny.more (i0 := 9) (l := []) (by kernel_rfl) (RAnys.cons rfl ?_ RAnys.nil)
          refine zl (r := optr 3 1 2) (LOp.fao und26 rfl siz24 rfl rfl rfl) ?_
          refine zN ?_
          refine RAny.more (i0 := 10) (l := []) (by kernel_rfl) (RAnys.cons rfl ?_ RAnys.nil)
          refine ROps.store_le (r := oref 2 (u5 + 1) 0 (L7.length + 1)) (l' := [i64 r1, i64 r2, oref 2 (u5 + 1) 0 (L7.length + 1)]) (Γ' := [⟨0, some [sl a2.length (a2.map (ik .u8)), i64 r18, ik .u64 r19]⟩, ⟨1, some zMx⟩, ⟨(u5 + 1), some ((L7 ++ ([x22] : List F)).map f32)⟩, ⟨1, some [i64 r1, i64 r2, oref 2 (u5 + 1) 0 (L7.length + 1)]⟩, ⟨(u6 + 1), some (([x22] : List F).map f32)⟩]) rfl siz24 rfl rfl rfl aR rfl rfl rfl rfl (Nat.le_of_ble_eq_true rfl) rfl rfl ?_
          refine zN ?_
          refine RAny.done (by kernel_rfl) ?_
          exact ⟨⟨aR, aR, aR, aR, aR, aR, aR, aR, aR, aR, aR, aR, aR, aR, aR, aR, trivial⟩, ⟨⟨rfl, .inr rfl⟩, ⟨rfl, .inr rfl⟩, ⟨rfl, .inr rfl⟩, ⟨rfl, .inr rfl⟩, ⟨rfl, .inr rfl⟩, trivial⟩⟩
         ·refine ROps.d (r := f32 x22) (fs := []) (Γ' := [⟨0, some [sl a2.length (a2.map (ik .u8)), i64 r18, ik .u64 r19]⟩, ⟨1, some zMx⟩, ⟨u5, some (L7.map f32)⟩, ⟨1, some (oXc r1 r2 2 u5 L7.length)⟩, ⟨u6, none⟩]) rfl rfl rfl (TOp.eqr (TOp.fop (.inr (.inr (.inr rfl))) rfl (OpF.tmp rfl) (OpF.const rfl (by kernel_rfl) (by kernel_rfl))) (congrArg (f .f32) hx12)) rfl ?_
          refine zN ?_
          refine RAny.more (i0 := 1) (l := [7]) (by kernel_rfl) (RAnys.cons rfl ?_ (RAnys.cons rfl ?_ RAnys.nil))
          ·refine ROps.d (r := oref 2 u5 0 L7.length) (fs := []) (Γ' := [⟨0, some [sl a2.length (a2.map (ik .u8)), i64 r18, ik .u64 r19]⟩, ⟨1, some zMx⟩, ⟨u5, some (L7.map f32)⟩, ⟨1, some (oXc r1 r2 2 u5 L7.length)⟩, ⟨u6, none⟩]) rfl rfl rfl (TOp.load1_o rfl rfl agg24 rfl rfl) rfl ?_
           refine zN ?_
           refine RAny.more (i0 := 7) (l := []) (by kernel_rfl) (RAnys.cons rfl ?_ RAnys.nil)
           refine ROps.d (r := oref 4 (u6 + 1) 0 1) (fs := [(4, (([x22] : List F).map f32))]) (Γ' := [⟨0, some [sl a2.length (a2.map (ik .u8)), i64 r18, ik .u64 r19]⟩, ⟨1, some zMx⟩, ⟨u5, some (L7.map f32)⟩, ⟨1, some (oXc r1 r2 2 u5 L7.length)⟩, ⟨(u6 + 1), some (([x22] : List F).map f32)⟩]) rfl rfl rfl (TOp.buildSlice_o (g := ⟨u6, none⟩) (za := f32 (some 0)) (qs := [(0, [f32 x22])]) 4 rfl und24 siz36 zer36 rfl zel36 rfl rfl ⟨rfl, ⟨_, ALe.refl _, rfl⟩, trivial⟩ rfl) rfl ?_
           refine zN ?_
           refine RAny.more (i0 := 8) (l := []) (by kernel_rfl) (RAnys.cons rfl ?_ RAnys.nil)
           refine ROps.app (f := f32) (xs := L7) (ys := ([x22] : List F)) (Γ' := [⟨0, some [sl a2.length (a2.map (ik .u8)), i64 r18, ik .u64 r19]⟩, ⟨1, some zMx⟩, ⟨(u5 + 1), some ((L7 ++ ([x22] : List F)).map f32)⟩, ⟨1, some (oXc r1 r2 2 u5 L7.length)⟩, ⟨(u6 + 1), some (([x22] : List F).map f32)⟩]) rfl pun24 inf36 rfl rfl rfl rfl rfl rfl rfl rfl rfl (by simp) (ReadAs.own rfl (by simp)) (ones_map (fun _ => rfl)) (ap_by hm13) (ap_mx hm13) rfl ?_
           refine zN ?_
           refine RAny.more (i0 := 9) (l := []) (by kernel_rfl) (RAnys.cons rfl ?_ RAnys.nil)
           refine zl (r := optr 3 1 2) (LOp.fao und26 rfl siz24 rfl rfl rfl) ?_
           refine zN ?_
           refine RAny.more (i0 := 10) (l := []) (by kernel_rfl) (RAnys.cons rfl ?_ RAnys.nil)
           refine ROps.store_le (r := oref 2 (u5 + 1) 0 (L7.length + 1)) (l' := [i64 r1, i64 r2, oref 2 (u5 + 1) 0 (L7.length + 1)]) (Γ' := [⟨0, some [sl a2.length (a2.map (ik .u8)), i64 r18, ik .u64 r19]⟩, ⟨1, some zMx⟩, ⟨(u5 + 1), some ((L7 ++ ([x22] : List F)).map f32)⟩, ⟨1, some [i64 r1, i64 r2, oref 2 (u5 + 1) 0 (L7.length + 1)]⟩, ⟨(u6 + 1), some (([x22] : List F).map f32)⟩]) rfl siz24 rfl rfl rfl aR rfl rfl rfl rfl (Nat.le_of_ble_eq_true rfl) rfl rfl ?_
           refine zN ?_
           refine RAny.done (by kernel_rfl) ?_
           exact ⟨⟨aR, aR, aR, aR, aR, aR, aR, aR, aR, aR, aR, aR, aR, aR, aR, aR, trivial⟩, ⟨⟨rfl, .inr rfl⟩, ⟨rfl, .inr rfl⟩, ⟨rfl, .inr rfl⟩, ⟨rfl, .inr rfl⟩, ⟨rfl, .inr rfl⟩, trivial⟩⟩
          ·refine ROps.d (r := oref 4 (u6 + 1) 0 1) (fs := [(4, (([x22] : List F).map f32))]) (Γ' := [⟨0, some [sl a2.length (a2.map (ik .u8)), i64 r18, ik .u64 r19]⟩, ⟨1, some zMx⟩, ⟨u5, some (L7.map f32)⟩, ⟨1, some (oXc r1 r2 2 u5 L7.length)⟩, ⟨(u6 + 1), some (([x22] : List F).map f32)⟩]) rfl rfl rfl (TOp.buildSlice_o (g := ⟨u6, none⟩) (za := f32 (some 0)) (qs := [(0, [f32 x22])]) 4 rfl und24 siz36 zer36 rfl zel36 rfl rfl ⟨rfl, ⟨_, ALe.refl _, rfl⟩, trivial⟩ rfl) rfl ?_
           refine zN ?_
           refine RAny.more (i0 := 1) (l := []) (by kernel_rfl) (RAnys.cons rfl ?_ RAnys.nil)
           refine ROps.d (r := oref 2 u5 0 L7.length) (fs := []) (Γ' := [⟨0, some [sl a2.length (a2.map (ik .u8)), i64 r18, ik .u64 r19]⟩, ⟨1, some zMx⟩, ⟨u5, some (L7.map f32)⟩, ⟨1, some (oXc r1 r2 2 u5 L7.length)⟩, ⟨(u6 + 1), some (([x22] : List F).map f32)⟩]) rfl rfl rfl (TOp.load1_o rfl rfl agg24 rfl rfl) rfl ?_
           refine zN ?_
           refine RAny.more (i0 := 8) (l := []) (by kernel_rfl) (RAnys.cons rfl ?_ RAnys.nil)
           refine ROps.app (f := f32) (xs := L7) (ys := ([x22] : List F)) (Γ' := [⟨0, some [sl a2.length (a2.map (ik .u8)), i64 r18, ik .u64 r19]⟩, ⟨1, some zMx⟩, ⟨(u5 + 1), some ((L7 ++ ([x22] : List F)).map f32)⟩, ⟨1, some (oXc r1 r2 2 u5 L7.length)⟩, ⟨(u6 + 1), some (([x22] : List F).map f32)⟩]) rfl pun24 inf36 rfl rfl rfl rfl rfl rfl rfl rfl rfl (by simp) (ReadAs.own rfl (by simp)) (ones_map (fun _ => rfl)) (ap_by hm13) (ap_mx hm13) rfl ?_
           refine zN ?_
           refine RAny.more (i0 := 9) (l := []) (by kernel_rfl) (RAnys.cons rfl ?_ RAnys.nil)
           refine zl (r := optr 3 1 2) (LOp.fao und26 rfl siz24 rfl rfl rfl) ?_
           refine zN ?_
           refine RAny.more (i0 := 10) (l := []) (by kernel_rfl) (RAnys.cons rfl ?_ RAnys.nil)
           refine ROps.store_le (r := oref 2 (u5 + 1) 0 (L7.length + 1)) (l' := [i64 r1, i64 r2, oref 2 (u5 + 1) 0 (L7.length + 1)]) (Γ' := [⟨0, some [sl a2.length (a2.map (ik .u8)), i64 r18, ik .u64 r19]⟩, ⟨1, some zMx⟩, ⟨(u5 + 1), some ((L7 ++ ([x22] : List F)).map f32)⟩, ⟨1, some [i64 r1, i64 r2, oref 2 (u5 + 1) 0 (L7.length + 1)]⟩, ⟨(u6 + 1), some (([x22] : List F).map f32)⟩]) rfl siz24 rfl rfl rfl aR rfl rfl rfl rfl (Nat.le_of_ble_eq_true rfl) rfl rfl ?_
           refine zN ?_
           refine RAny.done (by kernel_rfl) ?_
           exact ⟨⟨aR, aR, aR, aR, aR, aR, aR, aR, aR, aR, aR, aR, aR, aR, aR, aR, trivial⟩, ⟨⟨rfl, .inr rfl⟩, ⟨rfl, .inr rfl⟩, ⟨rfl, .inr rfl⟩, ⟨rfl, .inr rfl⟩, ⟨rfl, .inr rfl⟩, trivial⟩⟩
    ·refine zm (r := optr 0 0 0) ?_
     refine zN ?_
     refine RAny.more (i0 := 0) (l := [3]) (by kernel_rfl) (RAnys.cons rfl ?_ (RAnys.cons rfl ?_ RAnys.nil))
     ·refine zl (r := optr 3 1 2) (LOp.fao und26 rfl siz24 rfl rfl rfl) ?_
      refine zN ?_
      refine RAny.more (i0 := 1) (l := [3]) (by kernel_rfl) (RAnys.cons rfl ?_ (RAnys.cons rfl ?_ RAnys.nil))
      ·refine ROps.d (r := oref 2 u5 0 L7.length) (fs := []) (Γ' := [⟨0, some [sl a2.length (a2.map (ik .u8)), i64 v8, ik .u64 v9]⟩, ⟨1, some zMx⟩, ⟨u5, some (L7.map f32)⟩, ⟨1, some (oXc r1 r2 2 u5 L7.length)⟩, ⟨u6, none⟩]) rfl rfl rfl (TOp.load1_o rfl rfl agg24 rfl rfl) rfl ?_
       refine zN ?_
       refine RAny.more (i0 := 3) (l := []) (by kernel_rfl) (RAnys.cons rfl ?_ RAnys.nil)
       refine ROps.callO (A := [optr 0 0 0, i64 33]) (args := [optr 0 0 0, i64 33]) (Γc := [⟨0, some [sl a2.length (a2.map (ik .u8)), i64 v8, ik .u64 v9]⟩]) (Γc' := [⟨0, some [sl a2.length (a2.map (ik .u8)), i64 r18, ik .u64 r19]⟩]) (r' := i64 r17) (Γ' := [⟨0, some [sl a2.length (a2.map (ik .u8)), i64 r18, ik .u64 r19]⟩, ⟨1, some zMx⟩, ⟨u5, some (L7.map f32)⟩, ⟨1, some (oXc r1 r2 2 u5 L7.length)⟩, ⟨u6, none⟩]) [(0, 0)] [] rfl (CallAs.func ent112 rfl rfl) rfl rfl (SelOk.of (show List.Nodup [0] from by decide) (SelL.cells0 rfl (by simp [ren, rens, sigma, rens_f32, rens_f64, rens_i64, rens_ik, rens_str, rens_cp]) (lts_cons (lt_slk (fun _ => rfl)) (lts_cons rfl (lts_cons rfl lts_nil))) trivial)) (live_of ⟨⟨_, _, rfl⟩, trivial⟩) (by simp [ren, rens, sigma, rens_f32, rens_f64, rens_i64, rens_ik, rens_str, rens_cp]) rfl (s_l00Src_pick_0p0_C0_ok 33 a2 v8 v9 r17 r18 r19 hf9) rfl (news_of trivial) (show List.Nodup [0] from by decide) (by simp [ren, rens, sigma]) (by simp [backOb, sigma, ren, rens, rens_f32, rens_f64, rens_i64, rens_ik, rens_str, rens_cp]) ?_
       refine zN ?_
       refine RAny.more (i0 := 4) (l := []) (by kernel_rfl) (RAnys.cons rfl ?_ RAnys.nil)
       refine zl (r := i64 x20) (LOp.eqr (LOp.sub rfl rfl rfl) (congrArg (ik .i64) hx10)) ?_
       refine zN ?_
       refine RAny.more (i0 := 5) (l := []) (by kernel_rfl) (RAnys.cons rfl ?_ RAnys.nil)
       refine zl (r := f32 x21) (LOp.eqr (LOp.i2f (src := 2) (dst := 36) ⟨_, pun2⟩ pun36 rfl rfl) (congrArg (f .f32) hx11)) ?_
       refine zN ?_
       refine RAny.more (i0 := 6) (l := []) (by kernel_rfl) (RAnys.cons rfl ?_ RAnys.nil)
       refine ROps.d (r := f32 x22) (fs := []) (Γ' := [⟨0, some [sl a2.length (a2.map (ik .u8)), i64 r18, ik .u64 r19]⟩, ⟨1, some zMx⟩, ⟨u5, some (L7.map f32)⟩, ⟨1, some (oXc r1 r2 2 u5 L7.length)⟩, ⟨u6, none⟩]) rfl rfl rfl (TOp.eqr (TOp.fop (.inr (.inr (.inr rfl))) rfl (OpF.tmp rfl) (OpF.const rfl (by kernel_rfl) (by kernel_rfl))) (congrArg (f .f32) hx12)) rfl ?_
       refine zN ?_
       refine RAny.more (i0 := 7) (l := []) (by kernel_rfl) (RAnys.cons rfl ?_ RAnys.nil)
       refine ROps.d (r := oref 4 (u6 + 1) 0 1) (fs := [(4, (([x22] : List F).map f32))]) (Γ' := [⟨0, some [sl a2.length (a2.map (ik .u8)), i64 r18, ik .u64 r19]⟩, ⟨1, some zMx⟩, ⟨u5, some (L7.map f32)⟩, ⟨1, some (oXc r1 r2 2 u5 L7.length)⟩, ⟨(u6 + 1), some (([x22] : List F).map f32)⟩]) rfl rfl rfl (TOp.buildSlice_o (g := ⟨u6, none⟩) (za := f32 (some 0)) (qs := [(0, [f32 x22])]) 4 rfl und24 siz36 zer36 rfl zel36 rfl rfl ⟨rfl, ⟨_, ALe.refl _, rfl⟩, trivial⟩ rfl) rfl ?_
       refine zN ?_
       refine RAny.more (i0 := 8) (l := []) (by kernel_rfl) (RAnys.cons rfl ?_ RAnys.nil)
       refine ROps.app (f := f32) (xs := L7) (ys := ([x22] : List F)) (Γ' := [⟨0, some [sl a2.length (a2.map (ik .u8)), i64 r18, ik .u64 r19]⟩, ⟨1, some zMx⟩, ⟨(u5 + 1), some ((L7 ++ ([x22] : List F)).map f32)⟩, ⟨1, some (oXc r1 r2 2 u5 L7.length)⟩, ⟨(u6 + 1), some (([x22] : List F).map f32)⟩]) rfl pun24 inf36 rfl rfl rfl rfl rfl rfl rfl rfl rfl (by simp) (ReadAs.own rfl (by simp)) (ones_map (fun _ => rfl)) (ap_by hm13) (ap_mx hm13) rfl ?_
       refine zN ?_
       refine RAny.more (i0 := 9) (l := []) (by kernel_rfl) (RAnys.cons rfl ?_ RAnys.nil)
       refine zl (r := optr 3 1 2) (LOp.fao und26 rfl siz24 rfl rfl rfl) ?_
       refine zN ?_
       refine RAny.more (i0 := 10) (l := []) (by kernel_rfl) (RAnys.cons rfl ?_ RAnys.nil)
       refine ROps.store_le (r := oref 2 (u5 + 1) 0 (L7.length + 1)) (l' := [i64 r1, i64 r2, oref 2 (u5 + 1) 0 (L7.length + 1)]) (Γ' := [⟨0, some [sl a2.length (a2.map (ik .u8)), i64 r18, ik .u64 r19]⟩, ⟨1, some zMx⟩, ⟨(u5 + 1), some ((L7 ++ ([x22] : List F)).map f32)⟩, ⟨1, some [i64 r1, i64 r2, oref 2 (u5 + 1) 0 (L7.length + 1)]⟩, ⟨(u6 + 1), some (([x22] : List F).map f32)⟩]) rfl siz24 rfl rfl rfl aR rfl rfl rfl rfl (Nat.le_of_ble_eq_true rfl) rfl rfl ?_
       refine zN ?_
       refine RAny.done (by kernel_rfl) ?_
       exact ⟨⟨aR, aR, aR, aR, aR, aR, aR, aR, aR, aR, aR, aR, aR, aR, aR, aR, trivial⟩, ⟨⟨rfl, .inr rfl⟩, ⟨rfl, .inr rfl⟩, ⟨rfl, .inr rfl⟩, ⟨rfl, .inr rfl⟩, ⟨rfl, .inr rfl⟩, trivial⟩⟩
      ·refine ROps.callO (A := [optr 0 0 0, i64 33]) (args := [optr 0 0 0, i64 33]) (Γc := [⟨0, some [sl a2.length (a2.map (ik .u8)), i64 v8, ik .u64 v9]⟩]) (Γc' := [⟨0, some [sl a2.length (a2.map (ik .u8)), i64 r18, ik .u64 r19]⟩]) (r' := i64 r17) (Γ' := [⟨0, some [sl a2.length (a2.map (ik .u8)), i64 r18, ik .u64 r19]⟩, ⟨1, some zMx⟩, ⟨u5, some (L7.map f32)⟩, ⟨1, some (oXc r1 r2 2 u5 L7.length)⟩, ⟨u6, none⟩]) [(0, 0)] [] rfl (CallAs.func ent112 rfl rfl) rfl rfl (SelOk.of (show List.Nodup [0] from by decide) (SelL.cells0 rfl (by simp [ren, rens, sigma, rens_f32, rens_f64, rens_i64, rens_ik, rens_str, rens_cp]) (lts_cons (lt_slk (fun _ => rfl)) (lts_cons rfl (lts_cons rfl lts_nil))) trivial)) (live_of ⟨⟨_, _, rfl⟩, trivial⟩) (by simp [ren, rens, sigma, rens_f32, rens_f64, rens_i64, rens_ik, rens_str, rens_cp]) rfl (s_l00Src_pick_0p0_C0_ok 33 a2 v8 v9 r17 r18 r19 hf9) rfl (news_of trivial) (show List.Nodup [0] from by decide) (by simp [ren, rens, sigma]) (by simp [backOb, sigma, ren, rens, rens_f32, rens_f64, rens_i64, rens_ik, rens_str, rens_cp]) ?_
       refine zN ?_
       refine RAny.more (i0 := 1) (l := [4]) (by kernel_rfl) (RAnys.cons rfl ?_ (RAnys.cons rfl ?_ RAnys.nil))
       ·refine ROps.d (r := oref 2 u5 0 L7.length) (fs := []) (Γ' := [⟨0, some [sl a2.length (a2.map (ik .u8)), i64 r18, ik .u64 r19]⟩, ⟨1, some zMx⟩, ⟨u5, some (L7.map f32)⟩, ⟨1, some (oXc r1 r2 2 u5 L7.length)⟩, ⟨u6, none⟩]) rfl rfl rfl (TOp.load1_o rfl rfl agg24 rfl rfl) rfl ?_
        refine zN ?_
        refine RAny.more (i0 := 4) (l := []) (by kernel_rfl) (RAnys.cons rfl ?_ RAnys.nil)
        refine zl (r := i64 x20) (LOp.eqr (LOp.sub rfl rfl rfl) (congrArg (ik .i64) hx10)) ?_
        refine zN ?_
        refine RAny.more (i0 := 5) (l := []) (by kernel_rfl) (RAnys.cons rfl ?_ RAnys.nil)
        refine zl (r := f32 x21) (LOp.eqr (LOp.i2f (src := 2) (dst := 36) ⟨_, pun2⟩ pun36 rfl rfl) (congrArg (f .f32) hx11)) ?_
        refine zN ?_
        refine RAny.more (i0 := 6) (l := []) (by kernel_rfl) (RAnys.cons rfl ?_ RAnys.nil)
        refine ROps.d (r := f32 x22) (fs := []) (Γ' := [⟨0, some [sl a2.length (a2.map (ik .u8)), i64 r18, ik .u64 r19]⟩, ⟨1, some zMx⟩, ⟨u5, some (L7.map f32)⟩, ⟨1, some (oXc r1 r2 2 u5 L7.length)⟩, ⟨u6, none⟩]) rfl rfl rfl (TOp.eqr (TOp.fop (.inr (.inr (.inr rfl))) rfl (OpF.tmp rfl) (OpF.const rfl (by kernel_rfl) (by kernel_rfl))) (congrArg (f .f32) hx12)) rfl ?_
        refine zN ?_
        refine RAny.more (i0 := 7) (l := []) (by kernel_rfl) (RAnys.cons rfl ?_ RAnys.nil)
        refine ROps.d (r := oref 4 (u6 + 1) 0 1) (fs := [(4, (([x22] : List F).map f32))]) (Γ' := [⟨0, some [sl a2.length (a2.map (ik .u8)), i64 r18, ik .u64 r19]⟩, ⟨1, some zMx⟩, ⟨u5, some (L7.map f32)⟩, ⟨1, some (oXc r1 r2 2 u5 L7.length)⟩, ⟨(u6 + 1), some (([x22] : List F).map f32)⟩]) rfl rfl rfl (TOp.buildSlice_o (g := ⟨u6, none⟩) (za := f32 (some 0)) (qs := [(0, [f32 x22])]) 4 rfl und24 siz36 zer36 rfl zel36 rfl rfl ⟨rfl, ⟨_, ALe.refl _, rfl⟩, trivial⟩ rfl) rfl ?_
        refine zN ?_
        refine RAny.more (i0 := 8) (l := []) (by kernel_rfl) (RAnys.cons rfl ?_ RAnys.nil)
        refine ROps.app (f := f32) (xs := L7) (ys := ([x22] : List F)) (Γ' := [⟨0, some [sl a2.length (a2.map (ik .u8)), i64 r18, ik .u64 r19]⟩, ⟨1, some zMx⟩, ⟨(u5 + 1), some ((L7 ++ ([x22] : List F)).map f32)⟩, ⟨1, some (oXc r1 r2 2 u5 L7.length)⟩, ⟨(u6 + 1), some (([x22] : List F).map f32)⟩]) rfl pun24 inf36 rfl rfl rfl rfl rfl rfl rfl rfl rfl (by simp) (ReadAs.own rfl (by simp)) (ones_map (fun _ => rfl)) (ap_by hm13) (ap_mx hm13) rfl ?_
        refine zN ?_
        refine RAny.more (i0 := 9) (l := []) (by kernel_rfl) (RAnys.cons rfl ?_ RAnys.nil)
        refine zl (r := optr 3 1 2) (LOp.fao und26 rfl siz24 rfl rfl rfl) ?_
        refine zN ?_
        refine RAny.more (i0 := 10) (l := []) (by kernel_rfl) (RAnys.cons rfl ?_ RAnys.nil)
        refine ROps.store_le (r := oref 2 (u5 + 1) 0 (L7.length + 1)) (l' := [i64 r1, i64 r2, oref 2 (u5 + 1) 0 (L7.length + 1)]) (Γ' := [⟨0, some [sl a2.length (a2.map (ik .u8)), i64 r18, ik .u64 r19]⟩, ⟨1, some zMx⟩, ⟨(u5 + 1), some ((L7 ++ ([x22] : List F)).map f32)⟩, ⟨1, some [i64 r1, i64 r2, oref 2 (u5 + 1) 0 (L7.length + 1)]⟩, ⟨(u6 + 1), some (([x22] : List F).map f32)⟩]) rfl siz24 rfl rfl rfl aR rfl rfl rfl rfl (Nat.le_of_ble_eq_true rfl) rfl rfl ?_
        refine zN ?_
        refine RAny.done (by kernel_rfl) ?_
        exact ⟨⟨aR, aR, aR, aR, aR, aR, aR, aR, aR, aR, aR, aR, aR, aR, aR, aR, trivial⟩, ⟨⟨rfl, .inr rfl⟩, ⟨rfl, .inr rfl⟩, ⟨rfl, .inr rfl⟩, ⟨rfl, .inr rfl⟩, ⟨rfl, .inr rfl⟩, trivial⟩⟩
       ·refine zl (r := i64 x20) (LOp.eqr (LOp.sub rfl rfl rfl) (congrArg (ik .i64) hx10)) ?_
        refine zN ?_
        refine RAny.more (i0 := 1) (l := [5]) (by kernel_rfl) (RAnys.cons rfl ?_ (RAnys.cons rfl ?_ RAnys.nil))
        ·refine ROps.d (r := oref 2 u5 0 L7.length) (fs := []) (Γ' := [⟨0, some [sl a2.length (a2.map (ik .u8)), i64 r18, ik .u64 r19]⟩, ⟨1, some zMx⟩, ⟨u5, some (L7.map f32)⟩, ⟨1, some (oXc r1 r2 2 u5 L7.length)⟩, ⟨u6, none⟩]) rfl rfl rfl (TOp.load1_o rfl rfl agg24 rfl rfl) rfl ?_
         refine zN ?_
         refine RAny.more (i0 := 5) (l := []) (by kernel_rfl) (RAnys.cons rfl ?_ RAnys.nil)
         refine zl (r := f32 x21) (LOp.eqr (LOp.i2f (src := 2) (dst := 36) ⟨_, pun2⟩ pun36 rfl rfl) (congrArg (f .f32) hx11)) ?_
         refine zN ?_
         refine RAny.more (i0 := 6) (l := []) (by kernel_rfl) (RAnys.cons rfl ?_ RAnys.nil)
         refine ROps.d (r := f32 x22) (fs := []) (Γ' := [⟨0, some [sl a2.length (a2.map (ik .u8)), i64 r18, ik .u64 r19]⟩, ⟨1, some zMx⟩, ⟨u5, some (L7.map f32)⟩, ⟨1, some (oXc r1 r2 2 u5 L7.length)⟩, ⟨u6, none⟩]) rfl rfl rfl (TOp.eqr (TOp.fop (.inr (.inr (.inr rfl))) rfl (OpF.tmp rfl) (OpF.const rfl (by kernel_rfl) (by kernel_rfl))) (congrArg (f .f32) hx12)) rfl ?_
         refine zN ?_
         refine RAny.more (i0 := 7) (l := []) (by kernel_rfl) (RAnys.cons rfl ?_ RAnys.nil)
         refine ROps.d (r := oref 4 (u6 + 1) 0 1) (fs := [(4, (([x22] : List F).map f32))]) (Γ' := [⟨0, some [sl a2.length (a2.map (ik .u8)), i64 r18, ik .u64 r19]⟩, ⟨1, some zMx⟩, ⟨u5, some (L7.map f32)⟩, ⟨1, some (oXc r1 r2 2 u5 L7.length)⟩, ⟨(u6 + 1), some (([x22] : List F).map f32)⟩]) rfl rfl rfl (TOp.buildSlice_o (g := ⟨u6, none⟩) (za := f32 (some 0)) (qs := [(0, [f32 x22])]) 4 rfl und24 siz36 zer36 rfl zel36 rfl rfl ⟨rfl, ⟨_, ALe.refl _, rfl⟩, trivial⟩ rfl) rfl ?_
         refine zN ?_
         refine RAny.more (i0 := 8) (l := []) (by kernel_rfl) (RAnys.cons rfl ?_ RAnys.nil)
         refine ROps.app (f := f32) (xs := L7) (ys := ([x22] : List F)) (Γ' := [⟨0, some [sl a2.length (a2.map (ik .u8)), i64 r18, ik .u64 r19]⟩, ⟨1, some zMx⟩, ⟨(u5 + 1), some ((L7 ++ ([x22] : List F)).map f32)⟩, ⟨1, some (oXc r1 r2 2 u5 L7.length)⟩, ⟨(u6 + 1), some (([x22] : List F).map f32)⟩]) rfl pun24 inf36 rfl rfl rfl rfl rfl rfl rfl rfl rfl (by simp) (ReadAs.own rfl (by simp)) (ones_map (fun _ => rfl)) (ap_by hm13) (ap_mx hm13) rfl ?_
         refine zN ?_
         refine RAny.more (i0 := 9) (l := []) (by kernel_rfl) (RAnys.cons rfl ?_ RAnys.nil)
         refine zl (r := optr 3 1 2) (LOp.fao und26 rfl siz24 rfl rfl rfl) ?_
         refine zN ?_
         refine RAny.more (i0 := 10) (l := []) (by kernel_rfl) (RAnys.cons rfl ?_ RAnys.nil)
         refine ROps.store_le (r := oref 2 (u5 + 1) 0 (L7.length + 1)) (l' := [i64 r1, i64 r2, oref 2 (u5 + 1) 0 (L7.length + 1)]) (Γ' := [⟨0, some [sl a2.length (a2.map (ik .u8)), i64 r18, ik .u64 r19]⟩, ⟨1, some zMx⟩, ⟨(u5 + 1), some ((L7 ++ ([x22] : List F)).map f32)⟩, ⟨1, some [i64 r1, i64 r2, oref 2 (u5 + 1) 0 (L7.length + 1)]⟩, ⟨(u6 + 1), some (([x22] : List F).map f32)⟩]) rfl siz24 rfl rfl rfl aR rfl rfl rfl rfl (Nat.le_of_ble_eq_true rfl) rfl rfl ?_
         refine zN ?_
         refine RAny.done (by kernel_rfl) ?_
         exact ⟨⟨aR, aR, aR, aR, aR, aR, aR, aR, aR, aR, aR, aR, aR, aR, aR, aR, trivial⟩, ⟨⟨rfl, .inr rfl⟩, ⟨rfl, .inr rfl⟩, ⟨rfl, .inr rfl⟩, ⟨rfl, .inr rfl⟩, ⟨rfl, .inr rfl⟩, trivial⟩⟩
        ·refine zl (r := f32 x21) (LOp.eqr (LOp.i2f (src := 2) (dst := 36) ⟨_, pun2⟩ pun36 rfl rfl) (congrArg (f .f32) hx11)) ?_
         refine zN ?_
         refine RAny.more (i0 := 1) (l := [6]) (by kernel_rfl) (RAnys.cons rfl ?_ (RAnys.cons rfl ?_ RAnys.nil))
         ·refine ROps.d (r := oref 2 u5 0 L7.length) (fs := []) (Γ' := [⟨0, some [sl a2.length (a2.map (ik .u8)), i64 r18, ik .u64 r19]⟩, ⟨1, some zMx⟩, ⟨u5, some (L7.map f32)⟩, ⟨1, some (oXc r1 r2 2 u5 L7.length)⟩, ⟨u6, none⟩]) rfl rfl rfl (TOp.load1_o rfl rfl agg24 rfl rfl) rfl ?_
          refine zN ?_
          refine RAny.more (i0 := 6) (l := []) (by kernel_rfl) (RAnys.cons rfl ?_ RAnys.nil)
          refine ROps.d (r := f32 x22) (fs := []) (Γ' := [⟨0, some [sl a2.length (a2.map (ik .u8)), i64 r18, ik .u64 r19]⟩, ⟨1, some zMx⟩, ⟨u5, some (L7.map f32)⟩, ⟨1, some (oXc r1 r2 2 u5 L7.length)⟩, ⟨u6, none⟩]) rfl rfl rfl (TOp.eqr (TOp.fop (.inr (.inr (.inr rfl))) rfl (OpF.tmp rfl) (OpF.const rfl (by kernel_rfl) (by kernel_rfl))) (congrArg (f .f32) hx12)) rfl ?_
          refine zN ?_
          refine RAny.more (i0 := 7) (l := []) (by kernel_rfl) (RAnys.cons rfl ?_ RAnys.nil)
          refine ROps.d (r := oref 4 (u6 + 1) 0 1) (fs := [(4, (([x22] : List F).map f32))]) (Γ' := [⟨0, some [sl a2.length (a2.map (ik .u8)), i64 r18, ik .u64 r19]⟩, ⟨1, some zMx⟩, ⟨u5, some (L7.map f32)⟩, ⟨1, some (oXc r1 r2 2 u5 L7.length)⟩, ⟨(u6 + 1), some (([x22] : List F).map f32)⟩]) rfl rfl rfl (TOp.buildSlice_o (g := ⟨u6, none⟩) (za := f32 (some 0)) (qs := [(0, [f32 x22])]) 4 rfl und24 siz36 zer36 rfl zel36 rfl rfl ⟨rfl, ⟨_, ALe.refl _, rfl⟩, trivial⟩ rfl) rfl ?_
          refine zN ?_
          refine RAny.more (i0 := 8) (l := []) (by kernel_rfl) (RAnys.cons rfl ?_ RAnys.nil)
          refine ROps.app (f := f32) (xs := L7) (ys := ([x22] : List F)) (Γ' := [⟨0, some [sl a2.length (a2.map (ik .u8)), i64 r18, ik .u64 r19]⟩, ⟨1, some zMx⟩, ⟨(u5 + 1), some ((L7 ++ ([x22] : List F)).map f32)⟩, ⟨1, some (oXc r1 r2 2 u5 L7.length)⟩, ⟨(u6 + 1), some (([x22] : List F).map f32)⟩]) rfl pun24 inf36 rfl rfl rfl rfl rfl rfl rfl rfl rfl (by simp) (ReadAs.own rfl (by simp)) (ones_map (fun _ => rfl)) (ap_by hm13) (ap_mx hm13) rfl ?_
          refine zN ?_
          refine RAny.more (i0 := 9) (l := []) (by kernel_rfl) (RAnys.cons rfl ?_ RAnys.nil)
          refine zl (r := optr 3 1 2) (LOp.fao und26 rfl siz24 rfl rfl rfl) ?_
          refine zN ?_
          refine RAny.more (i0 := 10) (l := []) (by kernel_rfl) (RAnys.cons rfl ?_ RAnys.nil)
          refine ROps.store_le (r := oref 2 (u5 + 1) 0 (L7.length + 1)) (l' := [i64 r1, i64 r2, oref 2 (u5 + 1) 0 (L7.length + 1)]) (Γ' := [⟨0, some [sl a2.length (a2.map (ik .u8)), i64 r18, ik .u64 r19]⟩, ⟨1, some zMx⟩, ⟨(u5 + 1), some ((L7 ++ ([x22] : List F)).map f32)⟩, ⟨1, some [i64 r1, i64 r2, oref 2 (u5 + 1) 0 (L7.length + 1)]⟩, ⟨(u6 + 1), some (([x22] : List F).map f32)⟩]) rfl siz24 rfl rfl rfl aR rfl rfl rfl rfl (Nat.le_of_ble_eq_true rfl) rfl rfl ?_
          refine zN ?_
          refine RAny.done (by kernel_rfl) ?_
          exact ⟨⟨aR, aR, aR, aR, aR, aR, aR, aR, aR, aR, aR, aR, aR, aR, aR, aR, trivial⟩, ⟨⟨rfl, .inr rfl⟩, ⟨rfl, .inr rfl⟩, ⟨rfl, .inr rfl⟩, ⟨rfl, .inr rfl⟩, ⟨rfl, .inr rfl⟩, trivial⟩⟩
         ·refine ROps.d (r := f32 x22) (fs := []) (Γ' := [⟨0, some [sl a2.length (a2.map (ik .u8)), i64 r18, ik .u64 r19]⟩, ⟨1, some zMx⟩, ⟨u5, some (L7.map f32)⟩, ⟨1, some (oXc r1 r2 2 u5 L7.length)⟩, ⟨u6, none⟩]) rfl rfl rfl (TOp.eqr (TOp.fop (.inr (.inr (.inr rfl))) rfl (OpF.tmp rfl) (OpF.const rfl (by kernel_rfl) (by kernel_rfl))) (congrArg (f .f32) hx12)) rfl ?_
          refine zN ?_
          refine RAny.more (i0 := 1) (l := [7]) (by kernel_rfl) (RAnys.cons rfl ?_ (RAnys.cons rfl ?_ RAnys.nil))
          ·refine ROps.d (r := oref 2 u5 0 L7.length) (fs := []) (Γ' := [⟨0, some [sl a2.length (a2.map (ik .u8)), i64 r18, ik .u64 r19]⟩, ⟨1, some zMx⟩, ⟨u5, some (L7.map f32)⟩, ⟨1, some (oXc r1 r2 2 u5 L7.length)⟩, ⟨u6, none⟩]) rfl rfl rfl (TOp.load1_o rfl rfl agg24 rfl rfl) rfl ?_
           refine zN ?_
           refine RAny.more (i0 := 7) (l := []) (by kernel_rfl) (RAnys.cons rfl ?_ RAnys.nil)
           refine ROps.d (r := oref 4 (u6 + 1) 0 1) (fs := [(4, (([x22] : List F).map f32))]) (Γ' := [⟨0, some [sl a2.length (a2.map (ik .u8)), i64 r18, ik .u64 r19]⟩, ⟨1, some zMx⟩, ⟨u5, some (L7.map f32)⟩, ⟨1, some (oXc r1 r2 2 u5 L7.length)⟩, ⟨(u6 + 1), some (([x22] : List F).map f32)⟩]) rfl rfl rfl (TOp.buildSlice_o (g := ⟨u6, none⟩) (za := f32 (some 0)) (qs := [(0, [f32 x22])]) 4 rfl und24 siz36 zer36 rfl zel36 rfl rfl ⟨rfl, ⟨_, ALe.refl _, rfl⟩, trivial⟩ rfl) rfl ?_
           refine zN ?_
           refine RAny.more (i0 := 8) (l := []) (by kernel_rfl) (RAnys.cons rfl ?_ RAnys.nil)
           refine ROps.app (f := f32) (xs := L7) (ys := ([x22] : List F)) (Γ' := [⟨0, some [sl a2.length (a2.map (ik .u8)), i64 r18, ik .u64 r19]⟩, ⟨1, some zMx⟩, ⟨(u5 + 1), some ((L7 ++ ([x22] : List F)).map f32)⟩, ⟨1, some (oXc r1 r2 2 u5 L7.length)⟩, ⟨(u6 + 1), some (([x22] : List F).map f32)⟩]) rfl pun24 inf36 rfl rfl rfl rfl rfl rfl rfl rfl rfl (by simp) (ReadAs.own rfl (by simp)) (ones_map (fun _ => rfl)) (ap_by hm13) (ap_mx hm13) rfl ?_
           refine zN ?_
           refine RAny.more (i0 := 9) (l := []) (by kernel_rfl) (RAnys.cons rfl ?_ RAnys.nil)
           refine zl (r := optr 3 1 2) (LOp.fao und26 rfl siz24 rfl rfl rfl) ?_
           refine zN ?_
           refine RAny.more (i0 := 10) (l := []) (by kernel_rfl) (RAnys.cons rfl ?_ RAnys.nil)
           refine ROps.store_le (r := oref 2 (u5 + 1) 0 (L7.length + 1)) (l' := [i64 r1, i64 r2, oref 2 (u5 + 1) 0 (L7.length + 1)]) (Γ' := [⟨0, some [sl a2.length (a2.map (ik .u8)), i64 r18, ik .u64 r19]⟩, ⟨1, some zMx⟩, ⟨(u5 + 1), some ((L7 ++ ([x22] : List F)).map f32)⟩, ⟨1, some [i64 r1, i64 r2, oref 2 (u5 + 1) 0 (L7.length + 1)]⟩, ⟨(u6 + 1), some (([x22] : List F).map f32)⟩]) rfl siz24 rfl rfl rfl aR rfl rfl rfl rfl (Nat.le_of_ble_eq_true rfl) rfl rfl ?_
           refine zN ?_
           refine RAny.done (by kernel_rfl) ?_
           exact ⟨⟨aR, aR, aR, aR, aR, aR, aR, aR, aR, aR, aR, aR, aR, aR, aR, aR, trivial⟩, ⟨⟨rfl, .inr rfl⟩, ⟨rfl, .inr rfl⟩, ⟨rfl, .inr rfl⟩, ⟨rfl, .inr rfl⟩, ⟨rfl, .inr rfl⟩, trivial⟩⟩
          ·refine ROps.d (r := oref 4 (u6 + 1) 0 1) (fs := [(4, (([x22] : List F).map f32))]) (Γ' := [⟨0, some [sl a2.length (a2.map (ik .u8)), i64 r18, ik .u64 r19]⟩, ⟨1, some zMx⟩, ⟨u5, some (L7.map f32)⟩, ⟨1, some (oXc r1 r2 2 u5 L7.length)⟩, ⟨(u6 + 1), some (([x22] : List F).map f32)⟩]) rfl rfl rfl (TOp.buildSlice_o (g := ⟨u6, none⟩) (za := f32 (some 0)) (qs := [(0, [f32 x22])]) 4 rfl und24 siz36 zer36 rfl zel36 rfl rfl ⟨rfl, ⟨_, ALe.refl _, rfl⟩, trivial⟩ rfl) rfl ?_
           refine zN ?_
           refine RAny.more (i0 := 1) (l := []) (by kernel_rfl) (RAnys.cons rfl ?_ RAnys.nil)
           refine ROps.d (r := oref 2 u5 0 L7.length) (fs := []) (Γ' := [⟨0, some [sl a2.length (a2.map (ik .u8)), i64 r18, ik .u64 r19]⟩, ⟨1, some zMx⟩, ⟨u5, some (L7.map f32)⟩, ⟨1, some (oXc r1 r2 2 u5 L7.length)⟩, ⟨(u6 + 1), some (([x22] : List F).map f32)⟩]) rfl rfl rfl (TOp.load1_o rfl rfl agg24 rfl rfl) rfl ?_
           refine zN ?_
           refine RAny.more (i0 := 8) (l := []) (by kernel_rfl) (RAnys.cons rfl ?_ RAnys.nil)
           refine ROps.app (f := f32) (xs := L7) (ys := ([x22] : List F)) (Γ' := [⟨0, some [sl a2.length (a2.map (ik .u8)), i64 r18, ik .u64 r19]⟩, ⟨1, some zMx⟩, ⟨(u5 + 1), some ((L7 ++ ([x22] : List F)).map f32)⟩, ⟨1, some (oXc r1 r2 2 u5 L7.length)⟩, ⟨(u6 + 1), some (([x22] : List F).map f32)⟩]) rfl pun24 inf36 rfl rfl rfl rfl rfl rfl rfl rfl rfl (by simp) (ReadAs.own rfl (by simp)) (ones_map (fun _ => rfl)) (ap_by hm13) (ap_mx hm13) rfl ?_
           refine zN ?_
           refine RAny.more (i0 := 9) (l := []) (by kernel_rfl) (RAnys.cons rfl ?_ RAnys.nil)
           refine zl (r := optr 3 1 2) (LOp.fao und26 rfl siz24 rfl rfl rfl) ?_
           refine zN ?_
           refine RAny.more (i0 := 10) (l := []) (by kernel_rfl) (RAnys.cons rfl ?_ RAnys.nil)
           refine ROps.store_le (r := oref 2 (u5 + 1) 0 (L7.length + 1)) (l' := [i64 r1, i64 r2, oref 2 (u5 + 1) 0 (L7.length + 1)]) (Γ' := [⟨0, some [sl a2.length (a2.map (ik .u8)), i64 r18, ik .u64 r19]⟩, ⟨1, some zMx⟩, ⟨(u5 + 1), some ((L7 ++ ([x22] : List F)).map f32)⟩, ⟨1, some [i64 r1, i64 r2, oref 2 (u5 + 1) 0 (L7.length + 1)]⟩, ⟨(u6 + 1), some (([x22] : List F).map f32)⟩]) rfl siz24 rfl rfl rfl aR rfl rfl rfl rfl (Nat.le_of_ble_eq_true rfl) rfl rfl ?_
           refine zN ?_
           refine RAny.done (by kernel_rfl) ?_
           exact ⟨⟨aR, aR, aR, aR, aR, aR, aR, aR, aR, aR, aR, aR, aR, aR, aR, aR, trivial⟩, ⟨⟨rfl, .inr rfl⟩, ⟨rfl, .inr rfl⟩, ⟨rfl, .inr rfl⟩, ⟨rfl, .inr rfl⟩, ⟨rfl, .inr rfl⟩, trivial⟩⟩
     ·refine ROps.callO (A := [optr 0 0 0, i64 33]) (args := [optr 0 0 0, i64 33]) (Γc := [⟨0, some [sl a2.length (a2.map (ik .u8)), i64 v8, ik .u64 v9]⟩]) (Γc' := [⟨0, some [sl a2.length (a2.map (ik .u8)), i64 r18, ik .u64 r19]⟩]) (r' := i64 r17) (Γ' := [⟨0, some [sl a2.length (a2.map (ik .u8)), i64 r18, ik .u64 r19]⟩, ⟨1, some zMx⟩, ⟨u5, some (L7.map f32)⟩, ⟨1, some (oXc r1 r2 2 u5 L7.length)⟩, ⟨u6, none⟩]) [(0, 0)] [] rfl (CallAs.func ent112 rfl rfl) rfl rfl (SelOk.of (show List.Nodup [0] from by decide) (SelL.cells0 rfl (by simp [ren, rens, sigma, rens_f32, rens_f64, rens_i64, rens_ik, rens_str, rens_cp]) (lts_cons (lt_slk (fun _ => rfl)) (lts_cons rfl (lts_cons rfl lts_nil))) trivial)) (live_of ⟨⟨_, _, rfl⟩, trivial⟩) (by simp [ren, rens, sigma, rens_f32, rens_f64, rens_i64, rens_ik, rens_str, rens_cp]) rfl (s_l00Src_pick_0p0_C0_ok 33 a2 v8 v9 r17 r18 r19 hf9) rfl (news_of trivial) (show List.Nodup [0] from by decide) (by simp [ren, rens, sigma]) (by simp [backOb, sigma, ren, rens, rens_f32, rens_f64, rens_i64, rens_ik, rens_str, rens_cp]) ?_
      refine zN ?_
      refine RAny.more (i0 := 0) (l := [4]) (by kernel_rfl) (RAnys.cons rfl ?_ (RAnys.cons rfl ?_ RAnys.nil))
      ·refine zl (r := optr 3 1 2) (LOp.fao und26 rfl siz24 rfl rfl rfl) ?_
       refine zN ?_
       refine RAny.more (i0 := 1) (l := [4]) (by kernel_rfl) (RAnys.cons rfl ?_ (RAnys.cons rfl ?_ RAnys.nil))
       ·refine ROps.d (r := oref 2 u5 0 L7.length) (fs := []) (Γ' := [⟨0, some [sl a2.length (a2.map (ik .u8)), i64 r18, ik .u64 r19]⟩, ⟨1, some zMx⟩, ⟨u5, some (L7.map f32)⟩, ⟨1, some (oXc r1 r2 2 u5 L7.length)⟩, ⟨u6, none⟩]) rfl rfl rfl (TOp.load1_o rfl rfl agg24 rfl rfl) rfl ?_
        refine zN ?_
        refine RAny.more (i0 := 4) (l := []) (by kernel_rfl) (RAnys.cons rfl ?_ RAnys.nil)
        refine zl (r := i64 x20) (LOp.eqr (LOp.sub rfl rfl rfl) (congrArg (ik .i64) hx10)) ?_
        refine zN ?_
        refine RAny.more (i0 := 5) (l := []) (by kernel_rfl) (RAnys.cons rfl ?_ RAnys.nil)
        refine zl (r := f32 x21) (LOp.eqr (LOp.i2f (src := 2) (dst := 36) ⟨_, pun2⟩ pun36 rfl rfl) (congrArg (f .f32) hx11)) ?_
        refine zN ?_
        refine RAny.more (i0 := 6) (l := []) (by kernel_rfl) (RAnys.cons rfl ?_ RAnys.nil)
        refine ROps.d (r := f32 x22) (fs := []) (Γ' := [⟨0, some [sl a2.length (a2.map (ik .u8)), i64 r18, ik .u64 r19]⟩, ⟨1, some zMx⟩, ⟨u5, some (L7.map f32)⟩, ⟨1, some (oXc r1 r2 2 u5 L7.length)⟩, ⟨u6, none⟩]) rfl rfl rfl (TOp.eqr (TOp.fop (.inr (.inr (.inr rfl))) rfl (OpF.tmp rfl) (OpF.const rfl (by kernel_rfl) (by kernel_rfl))) (congrArg (f .f32) hx12)) rfl ?_
        refine zN ?_
        refine RAny.more (i0 := 7) (l := []) (by kernel_rfl) (RAnys.cons rfl ?_ RAnys.nil)
        refine ROps.d (r := oref 4 (u6 + 1) 0 1) (fs := [(4, (([x22] : List F).map f32))]) (Γ' := [⟨0, some [sl a2.length (a2.map (ik .u8)), i64 r18, ik .u64 r19]⟩, ⟨1, some zMx⟩, ⟨u5, some (L7.map f32)⟩, ⟨1, some (oXc r1 r2 2 u5 L7.length)⟩, ⟨(u6 + 1), some (([x22] : List F).map f32)⟩]) rfl rfl rfl (TOp.buildSlice_o (g := ⟨u6, none⟩) (za := f32 (some 0)) (qs := [(0, [f32 x22])]) 4 rfl und24 siz36 zer36 rfl zel36 rfl rfl ⟨rfl, ⟨_, ALe.refl _, rfl⟩, trivial⟩ rfl) rfl ?_
        refine zN ?_
        refine RAny.more (i0 := 8) (l := []) (by kernel_rfl) (RAnys.cons rfl ?_ RAnys.nil)
        refine ROps.app (f := f32) (xs := L7) (ys := ([x22] : List F)) (Γ' := [⟨0, some [sl a2.length (a2.map (ik .u8)), i64 r18, ik .u64 r19]⟩, ⟨1, some zMx⟩, ⟨(u5 + 1), some ((L7 ++ ([x22] : List F)).map f32)⟩, ⟨1, some (oXc r1 r2 2 u5 L7.length)⟩, ⟨(u6 + 1), some (([x22] : List F).map f32)⟩]) rfl pun24 inf36 rfl rfl rfl rfl rfl rfl rfl rfl rfl (by simp) (ReadAs.own rfl (by simp)) (ones_map (fun _ => rfl)) (ap_by hm13) (ap_mx hm13) rfl ?_
        refine zN ?_
        refine RAny.more (i0 := 9) (l := []) (by kernel_rfl) (RAnys.cons rfl ?_ RAnys.nil)
        refine zl (r := optr 3 1 2) (LOp.fao und26 rfl siz24 rfl rfl rfl) ?_
        refine zN ?_
        refine RAny.more (i0 := 10) (l := []) (by kernel_rfl) (RAnys.cons rfl ?_ RAnys.nil)
        refine ROps.store_le (r := oref 2 (u5 + 1) 0 (L7.length + 1)) (l' := [i64 r1, i64 r2, oref 2 (u5 + 1) 0 (L7.length + 1)]) (Γ' := [⟨0, some [sl a2.length (a2.map (ik .u8)), i64 r18, ik .u64 r19]⟩, ⟨1, some zMx⟩, ⟨(u5 + 1), some ((L7 ++ ([x22] : List F)).map f32)⟩, ⟨1, some [i64 r1, i64 r2, oref 2 (u5 + 1) 0 (L7.length + 1)]⟩, ⟨(u6 + 1), some (([x22] : List F).map f32)⟩]) rfl siz24 rfl rfl rfl aR rfl rfl rfl rfl (Nat.le_of_ble_eq_true rfl) rfl rfl ?_
        refine zN ?_
        refine RAny.done (by kernel_rfl) ?_
        exact ⟨⟨aR, aR, aR, aR, aR, aR, aR, aR, aR, aR, aR, aR, aR, aR, aR, aR, trivial⟩, ⟨⟨rfl, .inr rfl⟩, ⟨rfl, .inr rfl⟩, ⟨rfl, .inr rfl⟩, ⟨rfl, .inr rfl⟩, ⟨rfl, .inr rfl⟩, trivial⟩⟩
       ·refine zl (r := i64 x20) (LOp.eqr (LOp.sub rfl rfl rfl) (congrArg (ik .i64) hx10)) ?_
        refine zN ?_
        refine RAny.more (i0 := 1) (l := [5]) (by kernel_rfl) (RAnys.cons rfl ?_ (RAnys.cons rfl ?_ RAnys.nil))
        ·refine ROps.d (r := oref 2 u5 0 L7.length) (fs := []) (Γ' := [⟨0, some [sl a2.length (a2.map (ik .u8)), i64 r18, ik .u64 r19]⟩, ⟨1, some zMx⟩, ⟨u5, some (L7.map f32)⟩, ⟨1, some (oXc r1 r2 2 u5 L7.length)⟩, ⟨u6, none⟩]) rfl rfl rfl (TOp.load1_o rfl rfl agg24 rfl rfl) rfl ?_
         refine zN ?_
         refine RAny.more (i0 := 5) (l := []) (by kernel_rfl) (RAnys.cons rfl ?_ RAnys.nil)
         refine zl (r := f32 x21) (LOp.eqr (LOp.i2f (src := 2) (dst := 36) ⟨_, pun2⟩ pun36 rfl rfl) (congrArg (f .f32) hx11)) ?_
         refine zN ?_
         refine RAny.more (i0 := 6) (l := []) (by kernel_rfl) (RAnys.cons rfl ?_ RAnys.nil)
         refine ROps.d (r := f32 x22) (fs := []) (Γ' := [⟨0, some [sl a2.length (a2.map (ik .u8)), i64 r18, ik .u64 r19]⟩, ⟨1, some zMx⟩, ⟨u5, some (L7.map f32)⟩, ⟨1, some (oXc r1 r2 2 u5 L7.length)⟩, ⟨u6, none⟩]) rfl rfl rfl (TOp.eqr (TOp.fop (.inr (.inr (.inr rfl))) rfl (OpF.tmp rfl) (OpF.const rfl (by kernel_rfl) (by kernel_rfl))) (congrArg (f .f32) hx12)) rfl ?_
         refine zN ?_
         refine RAny.more (i0 := 7) (l := []) (by kernel_rfl) (RAnys.cons rfl ?_ RAnys.nil)
         refine ROps.d (r := oref 4 (u6 + 1) 0 1) (fs := [(4, (([x22] : List F).map f32))]) (Γ' := [⟨0, some [sl a2.length (a2.map (ik .u8)), i64 r18, ik .u64 r19]⟩, ⟨1, some zMx⟩, ⟨u5, some (L7.map f32)⟩, ⟨1, some (oXc r1 r2 2 u5 L7.length)⟩, ⟨(u6 + 1), some (([x22] : List F).map f32)⟩]) rfl rfl rfl (TOp.buildSlice_o (g := ⟨u6, none⟩) (za := f32 (some 0)) (qs := [(0, [f32 x22])]) 4 rfl und24 siz36 zer36 rfl zel36 rfl rfl ⟨rfl, ⟨_, ALe.refl _, rfl⟩, trivial⟩ rfl) rfl ?_
         refine zN ?_
         refine RAny.more (i0 := 8) (l := []) (by kernel_rfl) (RAnys.cons rfl ?_ RAnys.nil)
         refine ROps.app (f := f32) (xs := L7) (ys := ([x22] : List F)) (Γ' := [⟨0, some [sl a2.length (a2.map (ik .u8)), i64 r18, ik .u64 r19]⟩, ⟨1, some zMx⟩, ⟨(u5 + 1), some ((L7 ++ ([x22] : List F)).map f32)⟩, ⟨1, some (oXc r1 r2 2 u5 L7.length)⟩, ⟨(u6 + 1), some (([x22] : List F).map f32)⟩]) rfl pun24 inf36 rfl rfl rfl rfl rfl rfl rfl rfl rfl (by simp) (ReadAs.own rfl (by simp)) (ones_map (fun _ => rfl)) (ap_by hm13) (ap_mx hm13) rfl ?_
         refine zN ?_
         refine RAny.more (i0 := 9) (l := []) (by kernel_rfl) (RAnys.cons rfl ?_ RAnys.nil)
         refine zl (r := optr 3 1 2) (LOp.fao und26 rfl siz24 rfl rfl rfl) ?_
         refine zN ?_
         refine RAny.more (i0 := 10) (l := []) (by kernel_rfl) (RAnys.cons rfl ?_ RAnys.nil)
         refine ROps.store_le (r := oref 2 (u5 + 1) 0 (L7.length + 1)) (l' := [i64 r1, i64 r2, oref 2 (u5 + 1) 0 (L7.length + 1)]) (Γ' := [⟨0, some [sl a2.length (a2.map (ik .u8)), i64 r18, ik .u64 r19]⟩, ⟨1, some zMx⟩, ⟨(u5 + 1), some ((L7 ++ ([x22] : List F)).map f32)⟩, ⟨1, some [i64 r1, i64 r2, oref 2 (u5 + 1) 0 (L7.length + 1)]⟩, ⟨(u6 + 1), some (([x22] : List F).map f32)⟩]) rfl siz24 rfl rfl rfl aR rfl rfl rfl rfl (Nat.le_of_ble_eq_true rfl) rfl rfl ?_
         refine zN ?_
         refine RAny.done (by kernel_rfl) ?_
         exact ⟨⟨aR, aR, aR, aR, aR, aR, aR, aR, aR, aR, aR, aR, aR, aR, aR, aR, trivial⟩, ⟨⟨rfl, .inr rfl⟩, ⟨rfl, .inr rfl⟩, ⟨rfl, .inr rfl⟩, ⟨rfl, .inr rfl⟩, ⟨rfl, .inr rfl⟩, trivial⟩⟩
        ·refine zl (r := f32 x21) (LOp.eqr (LOp.i2f (src := 2) (dst := 36) ⟨_, pun2⟩ pun36 rfl rfl) (congrArg (f .f32) hx11)) ?_
         refine zN ?_
         refine RAny.more (i0 := 1) (l := [6]) (by kernel_rfl) (RAnys.cons rfl ?_ (RAnys.cons rfl ?_ RAnys.nil))
         ·refine ROps.d (r := oref 2 u5 0 L7.length) (fs := []) (Γ' := [⟨0, some [sl a2.length (a2.map (ik .u8)), i64 r18, ik .u64 r19]⟩, ⟨1, some zMx⟩, ⟨u5, some (L7.map f32)⟩, ⟨1, some (oXc r1 r2 2 u5 L7.length)⟩, ⟨u6, none⟩]) rfl rfl rfl (TOp.load1_o rfl rfl agg24 rfl rfl) rfl ?_
          refine zN ?_
          refine RAny.more (i0 := 6) (l := []) (by kernel_rfl) (RAnys.cons rfl ?_ RAnys.nil)
          refine ROps.d (r := f32 x22) (fs := []) (Γ' := [⟨0, some [sl a2.length (a2.map (ik .u8)), i64 r18, ik .u64 r19]⟩, ⟨1, some zMx⟩, ⟨u5, some (L7.map f32)⟩, ⟨1, some (oXc r1 r2 2 u5 L7.length)⟩, ⟨u6, none⟩]) rfl rfl rfl (TOp.eqr (TOp.fop (.inr (.inr (.inr rfl))) rfl (OpF.tmp rfl) (OpF.const rfl (by kernel_rfl) (by kernel_rfl))) (congrArg (f .f32) hx12)) rfl ?_
          refine zN ?_
          refine RAny.more (i0 := 7) (l := []) (by kernel_rfl) (RAnys.cons rfl ?_ RAnys.nil)
          refine ROps.d (r := oref 4 (u6 + 1) 0 1) (fs := [(4, (([x22] : List F).map f32))]) (Γ' := [⟨0, some [sl a2.length (a2.map (ik .u8)), i64 r18, ik .u64 r19]⟩, ⟨1, some zMx⟩, ⟨u5, some (L7.map f32)⟩, ⟨1, some (oXc r1 r2 2 u5 L7.length)⟩, ⟨(u6 + 1), some (([x22] : List F).map f32)⟩]) rfl rfl rfl (TOp.buildSlice_o (g := ⟨u6, none⟩) (za := f32 (some 0)) (qs := [(0, [f32 x22])]) 4 rfl und24 siz36 zer36 rfl zel36 rfl rfl ⟨rfl, ⟨_, ALe.refl _, rfl⟩, trivial⟩ rfl) rfl ?_
          refine zN ?_
          refine RAny.more (i0 := 8) (l := []) (by kernel_rfl) (RAnys.cons rfl ?_ RAnys.nil)
          refine ROps.app (f := f32) (xs := L7) (ys := ([x22] : List F)) (Γ' := [⟨0, some [sl a2.length (a2.map (ik .u8)), i64 r18, ik .u64 r19]⟩, ⟨1, some zMx⟩, ⟨(u5 + 1), some ((L7 ++ ([x22] : List F)).map f32)⟩, ⟨1, some (oXc r1 r2 2 u5 L7.length)⟩, ⟨(u6 + 1), some (([x22] : List F).map f32)⟩]) rfl pun24 inf36 rfl rfl rfl rfl rfl rfl rfl rfl rfl (by simp) (ReadAs.own rfl (by simp)) (ones_map (fun _ => rfl)) (ap_by hm13) (ap_mx hm13) rfl ?_
          refine zN ?_
          refine RAny.more (i0 := 9) (l := []) (by kernel_rfl) (RAnys.cons rfl ?_ RAnys.nil)
          refine zl (r := optr 3 1 2) (LOp.fao und26 rfl siz24 rfl rfl rfl) ?_
          refine zN ?_
          refine RAny.more (i0 := 10) (l := []) (by kernel_rfl) (RAnys.cons rfl ?_ RAnys.nil)
          refine ROps.store_le (r := oref 2 (u5 + 1) 0 (L7.length + 1)) (l' := [i64 r1, i64 r2, oref 2 (u5 + 1) 0 (L7.length + 1)]) (Γ' := [⟨0, some [sl a2.length (a2.map (ik .u8)), i64 r18, ik .u64 r19]⟩, ⟨1, some zMx⟩, ⟨(u5 + 1), some ((L7 ++ ([x22] : List F)).map f32)⟩, ⟨1, some [i64 r1, i64 r2, oref 2 (u5 + 1) 0 (L7.length + 1)]⟩, ⟨(u6 + 1), some (([x22] : List F).map f32)⟩]) rfl siz24 rfl rfl rfl aR rfl rfl rfl rfl (Nat.le_of_ble_eq_true rfl) rfl rfl ?_
          refine zN ?_
          refine RAny.done (by kernel_rfl) ?_
          exact ⟨⟨aR, aR, aR, aR, aR, aR, aR, aR, aR, aR, aR, aR, aR, aR, aR, aR, trivial⟩, ⟨⟨rfl, .inr rfl⟩, ⟨rfl, .inr rfl⟩, ⟨rfl, .inr rfl⟩, ⟨rfl, .inr rfl⟩, ⟨rfl, .inr rfl⟩, trivial⟩⟩
         ·refine ROps.d (r := f32 x22) (fs := []) (Γ' := [⟨0, some [sl a2.length (a2.map (ik .u8)), i64 r18, ik .u64 r19]⟩, ⟨1, some zMx⟩, ⟨u5, some (L7.map f32)⟩, ⟨1, some (oXc r1 r2 2 u5 L7.length)⟩, ⟨u6, none⟩]) rfl rfl rfl (TOp.eqr (TOp.fop (.inr (.inr (.inr rfl))) rfl (OpF.tmp rfl) (OpF.const rfl (by kernel_rfl) (by kernel_rfl))) (congrArg (f .f32) hx12)) rfl ?_
          refine zN ?_
          refine RAny.more (i0 := 1) (l := [7]) (by kernel_rfl) (RAnys.cons rfl ?_ (RAnys.cons rfl ?_ RAnys.nil))
          ·refine ROps.d (r := oref 2 u5 0 L7.length) (fs := []) (Γ' := [⟨0, some [sl a2.length (a2.map (ik .u8)), i64 r18, ik .u64 r19]⟩, ⟨1, some zMx⟩, ⟨u5, some (L7.map f32)⟩, ⟨1, some (oXc r1 r2 2 u5 L7.length)⟩, ⟨u6, none⟩]) rfl rfl rfl (TOp.load1_o rfl rfl agg24 rfl rfl) rfl ?_
           refine zN ?_
           refine RAny.more (i0 := 7) (l := []) (by kernel_rfl) (RAnys.cons rfl ?_ RAnys.nil)
           refine ROps.d (r := oref 4 (u6 + 1) 0 1) (fs := [(4, (([x22] : List F).map f32))]) (Γ' := [⟨0, some [sl a2.length (a2.map (ik .u8)), i64 r18, ik .u64 r19]⟩, ⟨1, some zMx⟩, ⟨u5, some (L7.map f32)⟩, ⟨1, some (oXc r1 r2 2 u5 L7.length)⟩, ⟨(u6 + 1), some (([x22] : List F).map f32)⟩]) rfl rfl rfl (TOp.buildSlice_o (g := ⟨u6, none⟩) (za := f32 (some 0)) (qs := [(0, [f32 x22])]) 4 rfl und24 siz36 zer36 rfl zel36 rfl rfl ⟨rfl, ⟨_, ALe.refl _, rfl⟩, trivial⟩ rfl) rfl ?_
           refine zN ?_
           refine RAny.more (i0 := 8) (l := []) (by kernel_rfl) (RAnys.cons rfl ?_ RAnys.nil)
           refine ROps.app (f := f32) (xs := L7) (ys := ([x22] : List F)) (Γ' := [⟨0, some [sl a2.length (a2.map (ik .u8)), i64 r18, ik .u64 r19]⟩, ⟨1, some zMx⟩, ⟨(u5 + 1), some ((L7 ++ ([x22] : List F)).map f32)⟩, ⟨1, some (oXc r1 r2 2 u5 L7.length)⟩, ⟨(u6 + 1), some (([x22] : List F).map f32)⟩]) rfl pun24 inf36 rfl rfl rfl rfl rfl rfl rfl rfl rfl (by simp) (ReadAs.own rfl (by simp)) (ones_map (fun _ => rfl)) (ap_by hm13) (ap_mx hm13) rfl ?_
           refine zN ?_
           refine RAny.more (i0 := 9) (l := []) (by kernel_rfl) (RAnys.cons rfl ?_ RAnys.nil)
           refine zl (r := optr 3 1 2) (LOp.fao und26 rfl siz24 rfl rfl rfl) ?_
           refine zN ?_
           refine RAny.more (i0 := 10) (l := []) (by kernel_rfl) (RAnys.cons rfl ?_ RAnys.nil)
           refine ROps.store_le (r := oref 2 (u5 + 1) 0 (L7.length + 1)) (l' := [i64 r1, i64 r2, oref 2 (u5 + 1) 0 (L7.length + 1)]) (Γ' := [⟨0, some [sl a2.length (a2.map (ik .u8)), i64 r18, ik .u64 r19]⟩, ⟨1, some zMx⟩, ⟨(u5 + 1), some ((L7 ++ ([x22] : List F)).map f32)⟩, ⟨1, some [i64 r1, i64 r2, oref 2 (u5 + 1) 0 (L7.length + 1)]⟩, ⟨(u6 + 1), some (([x22] : List F).map f32)⟩]) rfl siz24 rfl rfl rfl aR rfl rfl rfl rfl (Nat.le_of_ble_eq_true rfl) rfl rfl ?_
           refine zN ?_
           refine RAny.done (by kernel_rfl) ?_
           exact ⟨⟨aR, aR, aR, aR, aR, aR, aR, aR, aR, aR, aR, aR, aR, aR, aR, aR, trivial⟩, ⟨⟨rfl, .inr rfl⟩, ⟨rfl, .inr rfl⟩, ⟨rfl, .inr rfl⟩, ⟨rfl, .inr rfl⟩, ⟨rfl, .inr rfl⟩, trivial⟩⟩
          ·refine ROps.d (r := oref 4 (u6 + 1) 0 1) (fs := [(4, (([x22] : List F).map f32))]) (Γ' := [⟨0, some [sl a2.length (a2.map (ik .u8)), i64 r18, ik .u64 r19]⟩, ⟨1, some zMx⟩, ⟨u5, some (L7.map f32)⟩, ⟨1, some (oXc r1 r2 2 u5 L7.length)⟩, ⟨(u6 + 1), some (([x22] : List F).map f32)⟩]) rfl rfl rfl (TOp.buildSlice_o (g := ⟨u6, none⟩) (za := f32 (some 0)) (qs := [(0, [f32 x22])]) 4 rfl und24 siz36 zer36 rfl zel36 rfl rfl ⟨rfl, ⟨_, ALe.refl _, rfl⟩, trivial⟩ rfl) rfl ?_
           refine zN ?_
           refine RAny.more (i0 := 1) (l := []) (by kernel_rfl) (RAnys.cons rfl ?_ RAnys.nil)
           refine ROps.d (r := oref 2 u5 0 L7.length) (fs := []) (Γ' := [⟨0, some [sl a2.length (a2.map (ik .u8)), i64 r18, ik .u64 r19]⟩, ⟨1, some zMx⟩, ⟨u5, some (L7.map f32)⟩, ⟨1, some (oXc r1 r2 2 u5 L7.length)⟩, ⟨(u6 + 1), some (([x22] : List F).map f32)⟩]) rfl rfl rfl (TOp.load1_o rfl rfl agg24 rfl rfl) rfl ?_
           refine zN ?_
           refine RAny.more (i0 := 8) (l := []) (by kernel_rfl) (RAnys.cons rfl ?_ RAnys.nil)
           refine ROps.app (f := f32) (xs := L7) (ys := ([x22] : List F)) (Γ' := [⟨0, some [sl a2.length (a2.map (ik .u8)), i64 r18, ik .u64 r19]⟩, ⟨1, some zMx⟩, ⟨(u5 + 1), some ((L7 ++ ([x22] : List F)).map f32)⟩, ⟨1, some (oXc r1 r2 2 u5 L7.length)⟩, ⟨(u6 + 1), some (([x22] : List F).map f32)⟩]) rfl pun24 inf36 rfl rfl rfl rfl rfl rfl rfl rfl rfl (by simp) (ReadAs.own rfl (by simp)) (ones_map (fun _ => rfl)) (ap_by hm13) (ap_mx hm13) rfl ?_
           refine zN ?_
           refine RAny.more (i0 := 9) (l := []) (by kernel_rfl) (RAnys.cons rfl ?_ RAnys.nil)
           refine zl (r := optr 3 1 2) (LOp.fao und26 rfl siz24 rfl rfl rfl) ?_
           refine zN ?_
           refine RAny.more (i0 := 10) (l := []) (by kernel_rfl) (RAnys.cons rfl ?_ RAnys.nil)
           refine ROps.store_le (r := oref 2 (u5 + 1) 0 (L7.length + 1)) (l' := [i64 r1, i64 r2, oref 2 (u5 + 1) 0 (L7.length + 1)]) (Γ' := [⟨0, some [sl a2.length (a2.map (ik .u8)), i64 r18, ik .u64 r19]⟩, ⟨1, some zMx⟩, ⟨(u5 + 1), some ((L7 ++ ([x22] : List F)).map f32)⟩, ⟨1, some [i64 r1, i64 r2, oref 2 (u5 + 1) 0 (L7.length + 1)]⟩, ⟨(u6 + 1), some (([x22] : List F).map f32)⟩]) rfl siz24 rfl rfl rfl aR rfl rfl rfl rfl (Nat.le_of_ble_eq_true rfl) rfl rfl ?_
           refine zN ?_
           refine RAny.done (by kernel_rfl) ?_
           exact ⟨⟨aR, aR, aR, aR, aR, aR, aR, aR, aR, aR, aR, aR, aR, aR, aR, aR, trivial⟩, ⟨⟨rfl, .inr rfl⟩, ⟨rfl, .inr rfl⟩, ⟨rfl, .inr rfl⟩, ⟨rfl, .inr rfl⟩, ⟨rfl, .inr rfl⟩, trivial⟩⟩
      ·refine zl (r := i64 x20) (LOp.eqr (LOp.sub rfl rfl rfl) (congrArg (ik .i64) hx10)) ?_
       refine zN ?_
       refine RAny.more (i0 := 0) (l := [5]) (by kernel_rfl) (RAnys.cons rfl ?_ (RAnys.cons rfl ?_ RAnys.nil))
       ·refine zl (r := optr 3 1 2) (LOp.fao und26 rfl siz24 rfl rfl rfl) ?_
        refine zN ?_
        refine RAny.more (i0 := 1) (l := [5]) (by kernel_rfl) (RAnys.cons rfl ?_ (RAnys.cons rfl ?_ RAnys.nil))
        ·refine ROps.d (r := oref 2 u5 0 L7.length) (fs := []) (Γ' := [⟨0, some [sl a2.length (a2.map (ik .u8)), i64 r18, ik .u64 r19]⟩, ⟨1, some zMx⟩, ⟨u5, some (L7.map f32)⟩, ⟨1, some (oXc r1 r2 2 u5 L7.length)⟩, ⟨u6, none⟩]) rfl rfl rfl (TOp.load1_o rfl rfl agg24 rfl rfl) rfl ?_
         refine zN ?_
         refine RAny.more (i0 := 5) (l := []) (by kernel_rfl) (RAnys.cons rfl ?_ RAnys.nil)
         refine zl (r := f32 x21) (LOp.eqr (LOp.i2f (src := 2) (dst := 36) ⟨_, pun2⟩ pun36 rfl rfl) (congrArg (f .f32) hx11)) ?_
         refine zN ?_
         refine RAny.more (i0 := 6) (l := []) (by kernel_rfl) (RAnys.cons rfl ?_ RAnys.nil)
         refine ROps.d (r := f32 x22) (fs := []) (Γ' := [⟨0, some [sl a2.length (a2.map (ik .u8)), i64 r18, ik .u64 r19]⟩, ⟨1, some zMx⟩, ⟨u5, some (L7.map f32)⟩, ⟨1, some (oXc r1 r2 2 u5 L7.length)⟩, ⟨u6, none⟩]) rfl rfl rfl (TOp.eqr (TOp.fop (.inr (.inr (.inr rfl))) rfl (OpF.tmp rfl) (OpF.const rfl (by kernel_rfl) (by kernel_rfl))) (congrArg (f .f32) hx12)) rfl ?_
         refine zN ?_
         refine RAny.more (i0 := 7) (l := []) (by kernel_rfl) (RAnys.cons rfl ?_ RAnys.nil)
         refine ROps.d (r := oref 4 (u6 + 1) 0 1) (fs := [(4, (([x22] : List F).map f32))]) (Γ' := [⟨0, some [sl a2.length (a2.map (ik .u8)), i64 r18, ik .u64 r19]⟩, ⟨1, some zMx⟩, ⟨u5, some (L7.map f32)⟩, ⟨1, some (oXc r1 r2 2 u5 L7.length)⟩, ⟨(u6 + 1), some (([x22] : List F).map f32)⟩]) rfl rfl rfl (TOp.buildSlice_o (g := ⟨u6, none⟩) (za := f32 (some 0)) (qs := [(0, [f32 x22])]) 4 rfl und24 siz36 zer36 rfl zel36 rfl rfl ⟨rfl, ⟨_, ALe.refl _, rfl⟩, trivial⟩ rfl) rfl ?_
         refine zN ?_
         refine RAny.more (i0 := 8) (l := []) (by kernel_rfl) (RAnys.cons rfl ?_ RAnys.nil)
         refine ROps.app (f := f32) (xs := L7) (ys := ([x22] : List F)) (Γ' := [⟨0, some [sl a2.length (a2.map (ik .u8)), i64 r18, ik .u64 r19]⟩, ⟨1, some zMx⟩, ⟨(u5 + 1), some ((L7 ++ ([x22] : List F)).map f32)⟩, ⟨1, some (oXc r1 r2 2 u5 L7.length)⟩, ⟨(u6 + 1), some (([x22] : List F).map f32)⟩]) rfl pun24 inf36 rfl rfl rfl rfl rfl rfl rfl rfl rfl (by simp) (ReadAs.own rfl (by simp)) (ones_map (fun _ => rfl)) (ap_by hm13) (ap_mx hm13) rfl ?_
         refine zN ?_
         refine RAny.more (i0 := 9) (l := []) (by kernel_rfl) (RAnys.cons rfl ?_ RAnys.nil)
         refine zl (r := optr 3 1 2) (LOp.fao und26 rfl siz24 rfl rfl rfl) ?_
         refine zN ?_
         refine RAny.more (i0 := 10) (l := []) (by kernel_rfl) (RAnys.cons rfl ?_ RAnys.nil)
         refine ROps.store_le (r := oref 2 (u5 + 1) 0 (L7.length + 1)) (l' := [i64 r1, i64 r2, oref 2 (u5 + 1) 0 (L7.length + 1)]) (Γ' := [⟨0, some [sl a2.length (a2.map (ik .u8)), i64 r18, ik .u64 r19]⟩, ⟨1, some zMx⟩, ⟨(u5 + 1), some ((L7 ++ ([x22] : List F)).map f32)⟩, ⟨1, some [i64 r1, i64 r2, oref 2 (u5 + 1) 0 (L7.length + 1)]⟩, ⟨(u6 + 1), some (([x22] : List F).map f32)⟩]) rfl siz24 rfl rfl rfl aR rfl rfl rfl rfl (Nat.le_of_ble_eq_true rfl) rfl rfl ?_
         refine zN ?_
         refine RAny.done (by kernel_rfl) ?_
         exact ⟨⟨aR, aR, aR, aR, aR, aR, aR, aR, aR, aR, aR, aR, aR, aR, aR, aR, trivial⟩, ⟨⟨rfl, .inr rfl⟩, ⟨rfl, .inr rfl⟩, ⟨rfl, .inr rfl⟩, ⟨rfl, .inr rfl⟩, ⟨rfl, .inr rfl⟩, trivial⟩⟩
        ·refine zl (r := f32 x21) (LOp.eqr (LOp.i2f (src := 2) (dst := 36) ⟨_, pun2⟩ pun36 rfl rfl) (congrArg (f .f32) hx11)) ?_
         refine zN ?_
         refine RAny.more (i0 := 1) (l := [6]) (by kernel_rfl) (RAnys.cons rfl ?_ (RAnys.cons rfl ?_ RAnys.nil))
         ·refine ROps.d (r := oref 2 u5 0 L7.length) (fs := []) (Γ' := [⟨0, some [sl a2.length (a2.map (ik .u8)), i64 r18, ik .u64 r19]⟩, ⟨1, some zMx⟩, ⟨u5, some (L7.map f32)⟩, ⟨1, some (oXc r1 r2 2 u5 L7.length)⟩, ⟨u6, none⟩]) rfl rfl rfl (TOp.load1_o rfl rfl agg24 rfl rfl) rfl ?_
          refine zN ?_
          refine RAny.more (i0 := 6) (l := []) (by kernel_rfl) (RAnys.cons rfl ?_ RAnys.nil)
          refine ROps.d (r := f32 x22) (fs := []) (Γ' := [⟨0, some [sl a2.length (a2.map (ik .u8)), i64 r18, ik .u64 r19]⟩, ⟨1, some zMx⟩, ⟨u5, some (L7.map f32)⟩, ⟨1, some (oXc r1 r2 2 u5 L7.length)⟩, ⟨u6, none⟩]) rfl rfl rfl (TOp.eqr (TOp.fop (.inr (.inr (.inr rfl))) rfl (OpF.tmp rfl) (OpF.const rfl (by kernel_rfl) (by kernel_rfl))) (congrArg (f .f32) hx12)) rfl ?_
          refine zN ?_
          refine RAny.more (i0 := 7) (l := []) (by kernel_rfl) (RAnys.cons rfl ?_ RAnys.nil)
          refine ROps.d (r := oref 4 (u6 + 1) 0 1) (fs := [(4, (([x22] : List F).map f32))]) (Γ' := [⟨0, some [sl a2.length (a2.map (ik .u8)), i64 r18, ik .u64 r19]⟩, ⟨1, some zMx⟩, ⟨u5, some (L7.map f32)⟩, ⟨1, some (oXc r1 r2 2 u5 L7.length)⟩, ⟨(u6 + 1), some (([x22] : List F).map f32)⟩]) rfl rfl rfl (TOp.buildSlice_o (g := ⟨u6, none⟩) (za := f32 (some 0)) (qs := [(0, [f32 x22])]) 4 rfl und24 siz36 zer36 rfl zel36 rfl rfl ⟨rfl, ⟨_, ALe.refl _, rfl⟩, trivial⟩ rfl) rfl ?_
          refine zN ?_
          refine RAny.more (i0 := 8) (l := []) (by kernel_rfl) (RAnys.cons rfl ?_ RAnys.nil)
          refine ROps.app (f := f32) (xs := L7) (ys := ([x22] : List F)) (Γ' := [⟨0, some [sl a2.length (a2.map (ik .u8)), i64 r18, ik .u64 r19]⟩, ⟨1, some zMx⟩, ⟨(u5 + 1), some ((L7 ++ ([x22] : List F)).map f32)⟩, ⟨1, some (oXc r1 r2 2 u5 L7.length)⟩, ⟨(u6 + 1), some (([x22] : List F).map f32)⟩]) rfl pun24 inf36 rfl rfl rfl rfl rfl rfl rfl rfl rfl (by simp) (ReadAs.own rfl (by simp)) (ones_map (fun _ => rfl)) (ap_by hm13) (ap_mx hm13) rfl ?_
          refine zN ?_
          refine RAny.more (i0 := 9) (l := []) (by kernel_rfl) (RAnys.cons rfl ?_ RAnys.nil)
          refine zl (r := optr 3 1 2) (LOp.fao und26 rfl siz24 rfl rfl rfl) ?_
          refine zN ?_
          refine RAny.more (i0 := 10) (l := []) (by kernel_rfl) (RAnys.cons rfl ?_ RAnys.nil)
          refine ROps.store_le (r := oref 2 (u5 + 1) 0 (L7.length + 1)) (l' := [i64 r1, i64 r2, oref 2 (u5 + 1) 0 (L7.length + 1)]) (Γ' := [⟨0, some [sl a2.length (a2.map (ik .u8)), i64 r18, ik .u64 r19]⟩, ⟨1, some zMx⟩, ⟨(u5 + 1), some ((L7 ++ ([x22] : List F)).map f32)⟩, ⟨1, some [i64 r1, i64 r2, oref 2 (u5 + 1) 0 (L7.length + 1)]⟩, ⟨(u6 + 1), some (([x22] : List F).map f32)⟩]) rfl siz24 rfl rfl rfl aR rfl rfl rfl rfl (Nat.le_of_ble_eq_true rfl) rfl rfl ?_
          refine zN ?_
          refine RAny.done (by kernel_rfl) ?_
          exact ⟨⟨aR, aR, aR, aR, aR, aR, aR, aR, aR, aR, aR, aR, aR, aR, aR, aR, trivial⟩, ⟨⟨rfl, .inr rfl⟩, ⟨rfl, .inr rfl⟩, ⟨rfl, .inr rfl⟩, ⟨rfl, .inr rfl⟩, ⟨rfl, .inr rfl⟩, trivial⟩⟩
         ·refine ROps.d (r := f32 x22) (fs := []) (Γ' := [⟨0, some [sl a2.length (a2.map (ik .u8)), i64 r18, ik .u64 r19]⟩, ⟨1, some zMx⟩, ⟨u5, some (L7.map f32)⟩, ⟨1, some (oXc r1 r2 2 u5 L7.length)⟩, ⟨u6, none⟩]) rfl rfl rfl (TOp.eqr (TOp.fop (.inr (.inr (.inr rfl))) rfl (OpF.tmp rfl) (OpF.const rfl (by kernel_rfl) (by kernel_rfl))) (congrArg (f .f32) hx12)) rfl ?_
          refine zN ?_
          refine RAny.more (i0 := 1) (l := [7]) (by kernel_rfl) (RAnys.cons rfl ?_ (RAnys.cons rfl ?_ RAnys.nil))
          ·refine ROps.d (r := oref 2 u5 0 L7.length) (fs := []) (Γ' := [⟨0, some [sl a2.length (a2.map (ik .u8)), i64 r18, ik .u64 r19]⟩, ⟨1, some zMx⟩, ⟨u5, some (L7.map f32)⟩, ⟨1, some (oXc r1 r2 2 u5 L7.length)⟩, ⟨u6, none⟩]) rfl rfl rfl (TOp.load1_o rfl rfl agg24 rfl rfl) rfl ?_
           refine zN ?_
           refine RAny.more (i0 := 7) (l := []) (by kernel_rfl) (RAnys.cons rfl ?_ RAnys.nil)
           refine ROps.d (r := oref 4 (u6 + 1) 0 1) (fs := [(4, (([x22] : List F).map f32))]) (Γ' := [⟨0, some [sl a2.length (a2.map (ik .u8)), i64 r18, ik .u64 r19]⟩, ⟨1, some zMx⟩, ⟨u5, some (L7.map f32)⟩, ⟨1, some (oXc r1 r2 2 u5 L7.length)⟩, ⟨(u6 + 1), some (([x22] : List F).map f32)⟩]) rfl rfl rfl (TOp.buildSlice_o (g := ⟨u6, none⟩) (za := f32 (some 0)) (qs := [(0, [f32 x22])]) 4 rfl und24 siz36 zer36 rfl zel36 rfl rfl ⟨rfl, ⟨_, ALe.refl _, rfl⟩, trivial⟩ rfl) rfl ?_
           refine zN ?_
           refine RAny.more (i0 := 8) (l := []) (by kernel_rfl) (RAnys.cons rfl ?_ RAnys.nil)
           refine ROps.app (f := f32) (xs := L7) (ys := ([x22] : List F)) (Γ' := [⟨0, some [sl a2.length (a2.map (ik .u8)), i64 r18, ik .u64 r19]⟩, ⟨1, some zMx⟩, ⟨(u5 + 1), some ((L7 ++ ([x22] : List F)).map f32)⟩, ⟨1, some (oXc r1 r2 2 u5 L7.length)⟩, ⟨(u6 + 1), some (([x22] : List F).map f32)⟩]) rfl pun24 inf36 rfl rfl rfl rfl rfl rfl rfl rfl rfl (by simp) (ReadAs.own rfl (by simp)) (ones_map (fun _ => rfl)) (ap_by hm13) (ap_mx hm13) rfl ?_
           refine zN ?_
           refine RAny.more (i0 := 9) (l := []) (by kernel_rfl) (RAnys.cons rfl ?_ RAnys.nil)
           refine zl (r := optr 3 1 2) (LOp.fao und26 rfl siz24 rfl rfl rfl) ?_
           refine zN ?_
           refine RAny.more (i0 := 10) (l := []) (by kernel_rfl) (RAnys.cons rfl ?_ RAnys.nil)
           refine ROps.store_le (r := oref 2 (u5 + 1) 0 (L7.length + 1)) (l' := [i64 r1, i64 r2, oref 2 (u5 + 1) 0 (L7.length + 1)]) (Γ' := [⟨0, some [sl a2.length (a2.map (ik .u8)), i64 r18, ik .u64 r19]⟩, ⟨1, some zMx⟩, ⟨(u5 + 1), some ((L7 ++ ([x22] : List F)).map f32)⟩, ⟨1, some [i64 r1, i64 r2, oref 2 (u5 + 1) 0 (L7.length + 1)]⟩, ⟨(u6 + 1), some (([x22] : List F).map f32)⟩]) rfl siz24 rfl rfl rfl aR rfl rfl rfl rfl (Nat.le_of_ble_eq_true rfl) rfl rfl ?_
           refine zN ?_
           refine RAny.done (by kernel_rfl) ?_
           exact ⟨⟨aR, aR, aR, aR, aR, aR, aR, aR, aR, aR, aR, aR, aR, aR, aR, aR, trivial⟩, ⟨⟨rfl, .inr rfl⟩, ⟨rfl, .inr rfl⟩, ⟨rfl, .inr rfl⟩, ⟨rfl, .inr rfl⟩, ⟨rfl, .inr rfl⟩, trivial⟩⟩
          ·refine ROps.d (r := oref 4 (u6 + 1) 0 1) (fs := [(4, (([x22] : List F).map f32))]) (Γ' := [⟨0, some [sl a2.length (a2.map (ik .u8)), i64 r18, ik .u64 r19]⟩, ⟨1, some zMx⟩, ⟨u5, some (L7.map f32)⟩, ⟨1, some (oXc r1 r2 2 u5 L7.length)⟩, ⟨(u6 + 1), some (([x22] : List F).map f32)⟩]) rfl rfl rfl (TOp.buildSlice_o (g := ⟨u6, none⟩) (za := f32 (some 0)) (qs := [(0, [f32 x22])]) 4 rfl und24 siz36 zer36 rfl zel36 rfl rfl ⟨rfl, ⟨_, ALe.refl _, rfl⟩, trivial⟩ rfl) rfl ?_
           refine zN ?_
           refine RAny.more (i0 := 1) (l := []) (by kernel_rfl) (RAnys.cons rfl ?_ RAnys.nil)
           refine ROps.d (r := oref 2 u5 0 L7.length) (fs := []) (Γ' := [⟨0, some [sl a2.length (a2.map (ik .u8)), i64 r18, ik .u64 r19]⟩, ⟨1, some zMx⟩, ⟨u5, some (L7.map f32)⟩, ⟨1, some (oXc r1 r2 2 u5 L7.length)⟩, ⟨(u6 + 1), some (([x22] : List F).map f32)⟩]) rfl rfl rfl (TOp.load1_o rfl rfl agg24 rfl rfl) rfl ?_
           refine zN ?_
           refine RAny.more (i0 := 8) (l := []) (by kernel_rfl) (RAnys.cons rfl ?_ RAnys.nil)
           refine ROps.app (f := f32) (xs := L7) (ys := ([x22] : List F)) (Γ' := [⟨0, some [sl a2.length (a2.map (ik .u8)), i64 r18, ik .u64 r19]⟩, ⟨1, some zMx⟩, ⟨(u5 + 1), some ((L7 ++ ([x22] : List F)).map f32)⟩, ⟨1, some (oXc r1 r2 2 u5 L7.length)⟩, ⟨(u6 + 1), some (([x22] : List F).map f32)⟩]) rfl pun24 inf36 rfl rfl rfl rfl rfl rfl rfl rfl rfl (by simp) (ReadAs.own rfl (by simp)) (ones_map (fun _ => rfl)) (ap_by hm13) (ap_mx hm13) rfl ?_
           refine zN ?_
           refine RAny.more (i0 := 9) (l := []) (by kernel_rfl) (RAnys.cons rfl ?_ RAnys.nil)
           refine zl (r := optr 3 1 2) (LOp.fao und26 rfl siz24 rfl rfl rfl) ?_
           refine zN ?_
           refine RAny.more (i0 := 10) (l := []) (by kernel_rfl) (RAnys.cons rfl ?_ RAnys.nil)
           refine ROps.store_le (r := oref 2 (u5 + 1) 0 (L7.length + 1)) (l' := [i64 r1, i64 r2, oref 2 (u5 + 1) 0 (L7.length + 1)]) (Γ' := [⟨0, some [sl a2.length (a2.map (ik .u8)), i64 r18, ik .u64 r19]⟩, ⟨1, some zMx⟩, ⟨(u5 + 1), some ((L7 ++ ([x22] : List F)).map f32)⟩, ⟨1, some [i64 r1, i64 r2, oref 2 (u5 + 1) 0 (L7.length + 1)]⟩, ⟨(u6 + 1), some (([x22] : List F).map f32)⟩]) rfl siz24 rfl rfl rfl aR rfl rfl rfl rfl (Nat.le_of_ble_eq_true rfl) rfl rfl ?_
           refine zN ?_
           refine RAny.done (by kernel_rfl) ?_
           exact ⟨⟨aR, aR, aR, aR, aR, aR, aR, aR, aR, aR, aR, aR, aR, aR, aR, aR, trivial⟩, ⟨⟨rfl, .inr rfl⟩, ⟨rfl, .inr rfl⟩, ⟨rfl, .inr rfl⟩, ⟨rfl, .inr rfl⟩, ⟨rfl, .inr rfl⟩, trivial⟩⟩
       ·refine zl (r := f32 x21) (LOp.eqr (LOp.i2f (src := 2) (dst := 36) ⟨_, pun2⟩ pun36 rfl rfl) (congrArg (f .f32) hx11)) ?_
        refine zN ?_
        refine RAny.more (i0 := 0) (l := [6]) (by kernel_rfl) (RAnys.cons rfl ?_ (RAnys.cons rfl ?_ RAnys.nil))
        ·refine zl (r := optr 3 1 2) (LOp.fao und26 rfl siz24 rfl rfl rfl) ?_
         refine zN ?_
         refine RAny.more (i0 := 1) (l := [6]) (by kernel_rfl) (RAnys.cons rfl ?_ (RAnys.cons rfl ?_ RAnys.nil))
         ·refine ROps.d (r := oref 2 u5 0 L7.length) (fs := []) (Γ' := [⟨0, some [sl a2.length (a2.map (ik .u8)), i64 r18, ik .u64 r19]⟩, ⟨1, some zMx⟩, ⟨u5, some (L7.map f32)⟩, ⟨1, some (oXc r1 r2 2 u5 L7.length)⟩, ⟨u6, none⟩]) rfl rfl rfl (TOp.load1_o rfl rfl agg24 rfl rfl) rfl ?_
          refine zN ?_
          refine RAny.more (i0 := 6) (l := []) (by kernel_rfl) (RAnys.cons rfl ?_ RAnys.nil)
          refine ROps.d (r := f32 x22) (fs := []) (Γ' := [⟨0, some [sl a2.length (a2.map (ik .u8)), i64 r18, ik .u64 r19]⟩, ⟨1, some zMx⟩, ⟨u5, some (L7.map f32)⟩, ⟨1, some (oXc r1 r2 2 u5 L7.length)⟩, ⟨u6, none⟩]) rfl rfl rfl (TOp.eqr (TOp.fop (.inr (.inr (.inr rfl))) rfl (OpF.tmp rfl) (OpF.const rfl (by kernel_rfl) (by kernel_rfl))) (congrArg (f .f32) hx12)) rfl ?_
          refine zN ?_
          refine RAny.more (i0 := 7) (l := []) (by kernel_rfl) (RAnys.cons rfl ?_ RAnys.nil)
          refine ROps.d (r := oref 4 (u6 + 1) 0 1) (fs := [(4, (([x22] : List F).map f32))]) (Γ' := [⟨0, some [sl a2.length (a2.map (ik .u8)), i64 r18, ik .u64 r19]⟩, ⟨1, some zMx⟩, ⟨u5, some (L7.map f32)⟩, ⟨1, some (oXc r1 r2 2 u5 L7.length)⟩, ⟨(u6 + 1), some (([x22] : List F).map f32)⟩]) rfl rfl rfl (TOp.buildSlice_o (g := ⟨u6, none⟩) (za := f32 (some 0)) (qs := [(0, [f32 x22])]) 4 rfl und24 siz36 zer36 rfl zel36 rfl rfl ⟨rfl, ⟨_, ALe.refl _, rfl⟩, trivial⟩ rfl) rfl ?_
          refine zN ?_
          refine RAny.more (i0 := 8) (l := []) (by kernel_rfl) (RAnys.cons rfl ?_ RAnys.nil)
          refine ROps.app (f := f32) (xs := L7) (ys := ([x22] : List F)) (Γ' := [⟨0, some [sl a2.length (a2.map (ik .u8)), i64 r18, ik .u64 r19]⟩, ⟨1, some zMx⟩, ⟨(u5 + 1), some ((L7 ++ ([x22] : List F)).map f32)⟩, ⟨1, some (oXc r1 r2 2 u5 L7.length)⟩, ⟨(u6 + 1), some (([x22] : List F).map f32)⟩]) rfl pun24 inf36 rfl rfl rfl rfl rfl rfl rfl rfl rfl (by simp) (ReadAs.own rfl (by simp)) (ones_map (fun _ => rfl)) (ap_by hm13) (ap_mx hm13) rfl ?_
          refine zN ?_
          refine RAny.more (i0 := 9) (l := []) (by kernel_rfl) (RAnys.cons rfl ?_ RAnys.nil)
          refine zl (r := optr 3 1 2) (LOp.fao und26 rfl siz24 rfl rfl rfl) ?_
          refine zN ?_
          refine RAny.more (i0 := 10) (l := []) (by kernel_rfl) (RAnys.cons rfl ?_ RAnys.nil)
          refine ROps.store_le (r := oref 2 (u5 + 1) 0 (L7.length + 1)) (l' := [i64 r1, i64 r2, oref 2 (u5 + 1) 0 (L7.length + 1)]) (Γ' := [⟨0, some [sl a2.length (a2.map (ik .u8)), i64 r18, ik .u64 r19]⟩, ⟨1, some zMx⟩, ⟨(u5 + 1), some ((L7 ++ ([x22] : List F)).map f32)⟩, ⟨1, some [i64 r1, i64 r2, oref 2 (u5 + 1) 0 (L7.length + 1)]⟩, ⟨(u6 + 1), some (([x22] : List F).map f32)⟩]) rfl siz24 rfl rfl rfl aR rfl rfl rfl rfl (Nat.le_of_ble_eq_true rfl) rfl rfl ?_
          refine zN ?_
          refine RAny.done (by kernel_rfl) ?_
          exact ⟨⟨aR, aR, aR, aR, aR, aR, aR, aR, aR, aR, aR, aR, aR, aR, aR, aR, trivial⟩, ⟨⟨rfl, .inr rfl⟩, ⟨rfl, .inr rfl⟩, ⟨rfl, .inr rfl⟩, ⟨rfl, .inr rfl⟩, ⟨rfl, .inr rfl⟩, trivial⟩⟩
         ·refine ROps.d (r := f32 x22) (fs := []) (Γ' := [⟨0, some [sl a2.length (a2.map (ik .u8)), i64 r18, ik .u64 r19]⟩, ⟨1, some zMx⟩, ⟨u5, some (L7.map f32)⟩, ⟨1, some (oXc r1 r2 2 u5 L7.length)⟩, ⟨u6, none⟩]) rfl rfl rfl (TOp.eqr (TOp.fop (.inr (.inr (.inr rfl))) rfl (OpF.tmp rfl) (OpF.const rfl (by kernel_rfl) (by kernel_rfl))) (congrArg (f .f32) hx12)) rfl ?_
          refine zN ?_
          refine RAny.more (i0 := 1) (l := [7]) (by kernel_rfl) (RAnys.cons rfl ?_ (RAnys.cons rfl ?_ RAnys.nil))
          ·refine ROps.d (r := oref 2 u5 0 L7.length) (fs := []) (Γ' := [⟨0, some [sl a2.length (a2.map (ik .u8)), i64 r18, ik .u64 r19]⟩, ⟨1, some zMx⟩, ⟨u5, some (L7.map f32)⟩, ⟨1, some (oXc r1 r2 2 u5 L7.length)⟩, ⟨u6, none⟩]) rfl rfl rfl (TOp.load1_o rfl rfl agg24 rfl rfl) rfl ?_
           refine zN ?_
           refine RAny.more (i0 := 7) (l := []) (by kernel_rfl) (RAnys.cons rfl ?_ RAnys.nil)
           refine ROps.d (r := oref 4 (u6 + 1) 0 1) (fs := [(4, (([x22] : List F).map f32))]) (Γ' := [⟨0, some [sl a2.length (a2.map (ik .u8)), i64 r18, ik .u64 r19]⟩, ⟨1, some zMx⟩, ⟨u5, some (L7.map f32)⟩, ⟨1, some (oXc r1 r2 2 u5 L7.length)⟩, ⟨(u6 + 1), some (([x22] : List F).map f32)⟩]) rfl rfl rfl (TOp.buildSlice_o (g := ⟨u6, none⟩) (za := f32 (some 0)) (qs := [(0, [f32 x22])]) 4 rfl und24 siz36 zer36 rfl zel36 rfl rfl ⟨rfl, ⟨_, ALe.refl _, rfl⟩, trivial⟩ rfl) rfl ?_
           refine zN ?_
           refine RAny.more (i0 := 8) (l := []) (by kernel_rfl) (RAnys.cons rfl ?_ RAnys.nil)
           refine ROps.app (f := f32) (xs := L7) (ys := ([x22] : List F)) (Γ' := [⟨0, some [sl a2.length (a2.map (ik .u8)), i64 r18, ik .u64 r19]⟩, ⟨1, some zMx⟩, ⟨(u5 + 1), some ((L7 ++ ([x22] : List F)).map f32)⟩, ⟨1, some (oXc r1 r2 2 u5 L7.length)⟩, ⟨(u6 + 1), some (([x22] : List F).map f32)⟩]) rfl pun24 inf36 rfl rfl rfl rfl rfl rfl rfl rfl rfl (by simp) (ReadAs.own rfl (by simp)) (ones_map (fun _ => rfl)) (ap_by hm13) (ap_mx hm13) rfl ?_
           refine zN ?_
           refine RAny.more (i0 := 9) (l := []) (by kernel_rfl) (RAnys.cons rfl ?_ RAnys.nil)
           refine zl (r := optr 3 1 2) (LOp.fao und26 rfl siz24 rfl rfl rfl) ?_
           refine zN ?_
           refine RAny.more (i0 := 10) (l := []) (by kernel_rfl) (RAnys.cons rfl ?_ RAnys.nil)
           refine ROps.store_le (r := oref 2 (u5 + 1) 0 (L7.length + 1)) (l' := [i64 r1, i64 r2, oref 2 (u5 + 1) 0 (L7.length + 1)]) (Γ' := [⟨0, some [sl a2.length (a2.map (ik .u8)), i64 r18, ik .u64 r19]⟩, ⟨1, some zMx⟩, ⟨(u5 + 1), some ((L7 ++ ([x22] : List F)).map f32)⟩, ⟨1, some [i64 r1, i64 r2, oref 2 (u5 + 1) 0 (L7.length + 1)]⟩, ⟨(u6 + 1), some (([x22] : List F).map f32)⟩]) rfl siz24 rfl rfl rfl aR rfl rfl rfl rfl (Nat.le_of_ble_eq_true rfl) rfl rfl ?_
           refine zN ?_
           refine RAny.done (by kernel_rfl) ?_
           exact ⟨⟨aR, aR, aR, aR, aR, aR, aR, aR, aR, aR, aR, aR, aR, aR, aR, aR, trivial⟩, ⟨⟨rfl, .inr rfl⟩, ⟨rfl, .inr rfl⟩, ⟨rfl, .inr rfl⟩, ⟨rfl, .inr rfl⟩, ⟨rfl, .inr rfl⟩, trivial⟩⟩
          ·refine ROps.d (r := oref 4 (u6 + 1) 0 1) (fs := [(4, (([x22] : List F).map f32))]) (Γ' := [⟨0, some [sl a2.length (a2.map (ik .u8)), i64 r18, ik .u64 r19]⟩, ⟨1, some zMx⟩, ⟨u5, some (L7.map f32)⟩, ⟨1, some (oXc r1 r2 2 u5 L7.length)⟩, ⟨(u6 + 1), some (([x22] : List F).map f32)⟩]) rfl rfl rfl (TOp.buildSlice_o (g := ⟨u6, none⟩) (za := f32 (some 0)) (qs := [(0, [f32 x22])]) 4 rfl und24 siz36 zer36 rfl zel36 rfl rfl ⟨rfl, ⟨_, ALe.refl _, rfl⟩, trivial⟩ rfl) rfl ?_
           refine zN ?_
           refine RAny.more (i0 := 1) (l := []) (by kernel_rfl) (RAnys.cons rfl ?_ RAnys.nil)
           refine ROps.d (r := oref 2 u5 0 L7.length) (fs := []) (Γ' := [⟨0, some [sl a2.length (a2.map (ik .u8)), i64 r18, ik .u64 r19]⟩, ⟨1, some zMx⟩, ⟨u5, some (L7.map f32)⟩, ⟨1, some (oXc r1 r2 2 u5 L7.length)⟩, ⟨(u6 + 1), some (([x22] : List F).map f32)⟩]) rfl rfl rfl (TOp.load1_o rfl rfl agg24 rfl rfl) rfl ?_
           refine zN ?_
           refine RAny.more (i0 := 8) (l := []) (by kernel_rfl) (RAnys.cons rfl ?_ RAnys.nil)
           refine ROps.app (f := f32) (xs := L7) (ys := ([x22] : List F)) (Γ' := [⟨0, some [sl a2.length (a2.map (ik .u8)), i64 r18, ik .u64 r19]⟩, ⟨1, some zMx⟩, ⟨(u5 + 1), some ((L7 ++ ([x22] : List F)).map f32)⟩, ⟨1, some (oXc r1 r2 2 u5 L7.length)⟩, ⟨(u6 + 1), some (([x22] : List F).map f32)⟩]) rfl pun24 inf36 rfl rfl rfl rfl rfl rfl rfl rfl rfl (by simp) (ReadAs.own rfl (by simp)) (ones_map (fun _ => rfl)) (ap_by hm13) (ap_mx hm13) rfl ?_
           refine zN ?_
           refine RAny.more (i0 := 9) (l := []) (by kernel_rfl) (RAnys.cons rfl ?_ RAnys.nil)
           refine zl (r := optr 3 1 2) (LOp.fao und26 rfl siz24 rfl rfl rfl) ?_
           refine zN ?_
           refine RAny.more (i0 := 10) (l := []) (by kernel_rfl) (RAnys.cons rfl ?_ RAnys.nil)
           refine ROps.store_le (r := oref 2 (u5 + 1) 0 (L7.length + 1)) (l' := [i64 r1, i64 r2, oref 2 (u5 + 1) 0 (L7.length + 1)]) (Γ' := [⟨0, some [sl a2.length (a2.map (ik .u8)), i64 r18, ik .u64 r19]⟩, ⟨1, some zMx⟩, ⟨(u5 + 1), some ((L7 ++ ([x22] : List F)).map f32)⟩, ⟨1, some [i64 r1, i64 r2, oref 2 (u5 + 1) 0 (L7.length + 1)]⟩, ⟨(u6 + 1), some (([x22] : List F).map f32)⟩]) rfl siz24 rfl rfl rfl aR rfl rfl rfl rfl (Nat.le_of_ble_eq_true rfl) rfl rfl ?_
           refine zN ?_
           refine RAny.done (by kernel_rfl) ?_
           exact ⟨⟨aR, aR, aR, aR, aR, aR, aR, aR, aR, aR, aR, aR, aR, aR, aR, aR, trivial⟩, ⟨⟨rfl, .inr rfl⟩, ⟨rfl, .inr rfl⟩, ⟨rfl, .inr rfl⟩, ⟨rfl, .inr rfl⟩, ⟨rfl, .inr rfl⟩, trivial⟩⟩
        ·refine ROps.d (r := f32 x22) (fs := []) (Γ' := [⟨0, some [sl a2.length (a2.map (ik .u8)), i64 r18, ik .u64 r19]⟩, ⟨1, some zMx⟩, ⟨u5, some (L7.map f32)⟩, ⟨1, some (oXc r1 r2 2 u5 L7.length)⟩, ⟨u6, none⟩]) rfl rfl rfl (TOp.eqr (TOp.fop (.inr (.inr (.inr rfl))) rfl (OpF.tmp rfl) (OpF.const rfl (by kernel_rfl) (by kernel_rfl))) (congrArg (f .f32) hx12)) rfl ?_
         refine zN ?_
         refine RAny.more (i0 := 0) (l := [7]) (by kernel_rfl) (RAnys.cons rfl ?_ (RAnys.cons rfl ?_ RAnys.nil))
         ·refine zl (r := optr 3 1 2) (LOp.fao und26 rfl siz24 rfl rfl rfl) ?_
          refine zN ?_
          refine RAny.more (i0 := 1) (l := [7]) (by kernel_rfl) (RAnys.cons rfl ?_ (RAnys.cons rfl ?_ RAnys.nil))
          ·refine ROps.d (r := oref 2 u5 0 L7.length) (fs := []) (Γ' := [⟨0, some [sl a2.length (a2.map (ik .u8)), i64 r18, ik .u64 r19]⟩, ⟨1, some zMx⟩, ⟨u5, some (L7.map f32)⟩, ⟨1, some (oXc r1 r2 2 u5 L7.length)⟩, ⟨u6, none⟩]) rfl rfl rfl (TOp.load1_o rfl rfl agg24 rfl rfl) rfl ?_
           refine zN ?_
           refine RAny.more (i0 := 7) (l := []) (by kernel_rfl) (RAnys.cons rfl ?_ RAnys.nil)
           refine ROps.d (r := oref 4 (u6 + 1) 0 1) (fs := [(4, (([x22] : List F).map f32))]) (Γ' := [⟨0, some [sl a2.length (a2.map (ik .u8)), i64 r18, ik .u64 r19]⟩, ⟨1, some zMx⟩, ⟨u5, some (L7.map f32)⟩, ⟨1, some (oXc r1 r2 2 u5 L7.length)⟩, ⟨(u6 + 1), some (([x22] : List F).map f32)⟩]) rfl rfl rfl (TOp.buildSlice_o (g := ⟨u6, none⟩) (za := f32 (some 0)) (qs := [(0, [f32 x22])]) 4 rfl und24 siz36 zer36 rfl zel36 rfl rfl ⟨rfl, ⟨_, ALe.refl _, rfl⟩, trivial⟩ rfl) rfl ?_
           refine zN ?_
           refine RAny.more (i0 := 8) (l := []) (by kernel_rfl) (RAnys.cons rfl ?_ RAnys.nil)
           refine ROps.app (f := f32) (xs := L7) (ys := ([x22] : List F)) (Γ' := [⟨0, some [sl a2.length (a2.map (ik .u8)), i64 r18, ik .u64 r19]⟩, ⟨1, some zMx⟩, ⟨(u5 + 1), some ((L7 ++ ([x22] : List F)).map f32)⟩, ⟨1, some (oXc r1 r2 2 u5 L7.length)⟩, ⟨(u6 + 1), some (([x22] : List F).map f32)⟩]) rfl pun24 inf36 rfl rfl rfl rfl rfl rfl rfl rfl rfl (by simp) (ReadAs.own rfl (by simp)) (ones_map (fun _ => rfl)) (ap_by hm13) (ap_mx hm13) rfl ?_
           refine zN ?_
           refine RAny.more (i0 := 9) (l := []) (by kernel_rfl) (RAnys.cons rfl ?_ RAnys.nil)
           refine zl (r := optr 3 1 2) (LOp.fao und26 rfl siz24 rfl rfl rfl) ?_
           refine zN ?_
           refine RAny.more (i0 := 10) (l := []) (by kernel_rfl) (RAnys.cons rfl ?_ RAnys.nil)
           refine ROps.store_le (r := oref 2 (u5 + 1) 0 (L7.length + 1)) (l' := [i64 r1, i64 r2, oref 2 (u5 + 1) 0 (L7.length + 1)]) (Γ' := [⟨0, some [sl a2.length (a2.map (ik .u8)), i64 r18, ik .u64 r19]⟩, ⟨1, some zMx⟩, ⟨(u5 + 1), some ((L7 ++ ([x22] : List F)).map f32)⟩, ⟨1, some [i64 r1, i64 r2, oref 2 (u5 + 1) 0 (L7.length + 1)]⟩, ⟨(u6 + 1), some (([x22] : List F).map f32)⟩]) rfl siz24 rfl rfl rfl aR rfl rfl rfl rfl (Nat.le_of_ble_eq_true rfl) rfl rfl ?_
           refine zN ?_
           refine RAny.done (by kernel_rfl) ?_
           exact ⟨⟨aR, aR, aR, aR, aR, aR, aR, aR, aR, aR, aR, aR, aR, aR, aR, aR, trivial⟩, ⟨⟨rfl, .inr rfl⟩, ⟨rfl, .inr rfl⟩, ⟨rfl, .inr rfl⟩, ⟨rfl, .inr rfl⟩, ⟨rfl, .inr rfl⟩, trivial⟩⟩
          ·refine ROps.d (r := oref 4 (u6 + 1) 0 1) (fs := [(4, (([x22] : List F).map f32))]) (Γ' := [⟨0, some [sl a2.length (a2.map (ik .u8)), i64 r18, ik .u64 r19]⟩, ⟨1, some zMx⟩, ⟨u5, some (L7.map f32)⟩, ⟨1, some (oXc r1 r2 2 u5 L7.length)⟩, ⟨(u6 + 1), some (([x22] : List F).map f32)⟩]) rfl rfl rfl (TOp.buildSlice_o (g := ⟨u6, none⟩) (za := f32 (some 0)) (qs := [(0, [f32 x22])]) 4 rfl und24 siz36 zer36 rfl zel36 rfl rfl ⟨rfl, ⟨_, ALe.refl _, rfl⟩, trivial⟩ rfl) rfl ?_
           refine zN ?_
           refine RAny.more (i0 := 1) (l := []) (by kernel_rfl) (RAnys.cons rfl ?_ RAnys.nil)
           refine ROps.d (r := oref 2 u5 0 L7.length) (fs := []) (Γ' := [⟨0, some [sl a2.length (a2.map (ik .u8)), i64 r18, ik .u64 r19]⟩, ⟨1, some zMx⟩, ⟨u5, some (L7.map f32)⟩, ⟨1, some (oXc r1 r2 2 u5 L7.length)⟩, ⟨(u6 + 1), some (([x22] : List F).map f32)⟩]) rfl rfl rfl (TOp.load1_o rfl rfl agg24 rfl rfl) rfl ?_
           refine zN ?_
           refine RAny.more (i0 := 8) (l := []) (by kernel_rfl) (RAnys.cons rfl ?_ RAnys.nil)
           refine ROps.app (f := f32) (xs := L7) (ys := ([x22] : List F)) (Γ' := [⟨0, some [sl a2.length (a2.map (ik .u8)), i64 r18, ik .u64 r19]⟩, ⟨1, some zMx⟩, ⟨(u5 + 1), some ((L7 ++ ([x22] : List F)).map f32)⟩, ⟨1, some (oXc r1 r2 2 u5 L7.length)⟩, ⟨(u6 + 1), some (([x22] : List F).map f32)⟩]) rfl pun24 inf36 rfl rfl rfl rfl rfl rfl rfl rfl rfl (by simp) (ReadAs.own rfl (by simp)) (ones_map (fun _ => rfl)) (ap_by hm13) (ap_mx hm13) rfl ?_
           refine zN ?_
           refine RAny.more (i0 := 9) (l := []) (by kernel_rfl) (RAnys.cons rfl ?_ RAnys.nil)
           refine zl (r := optr 3 1 2) (LOp.fao und26 rfl siz24 rfl rfl rfl) ?_
           refine zN ?_
           refine RAny.more (i0 := 10) (l := []) (by kernel_rfl) (RAnys.cons rfl ?_ RAnys.nil)
           refine ROps.store_le (r := oref 2 (u5 + 1) 0 (L7.length + 1)) (l' := [i64 r1, i64 r2, oref 2 (u5 + 1) 0 (L7.length + 1)]) (Γ' := [⟨0, some [sl a2.length (a2.map (ik .u8)), i64 r18, ik .u64 r19]⟩, ⟨1, some zMx⟩, ⟨(u5 + 1), some ((L7 ++ ([x22] : List F)).map f32)⟩, ⟨1, some [i64 r1, i64 r2, oref 2 (u5 + 1) 0 (L7.length + 1)]⟩, ⟨(u6 + 1), some (([x22] : List F).map f32)⟩]) rfl siz24 rfl rfl rfl aR rfl rfl rfl rfl (Nat.le_of_ble_eq_true rfl) rfl rfl ?_
           refine zN ?_
           refine RAny.done (by kernel_rfl) ?_
           exact ⟨⟨aR, aR, aR, aR, aR, aR, aR, aR, aR, aR, aR, aR, aR, aR, aR, aR, trivial⟩, ⟨⟨rfl, .inr rfl⟩, ⟨rfl, .inr rfl⟩, ⟨rfl, .inr rfl⟩, ⟨rfl, .inr rfl⟩, ⟨rfl, .inr rfl⟩, trivial⟩⟩
         ·refine ROps.d (r := oref 4 (u6 + 1) 0 1) (fs := [(4, (([x22] : List F).map f32))]) (Γ' := [⟨0, some [sl a2.length (a2.map (ik .u8)), i64 r18, ik .u64 r19]⟩, ⟨1, some zMx⟩, ⟨u5, some (L7.map f32)⟩, ⟨1, some (oXc r1 r2 2 u5 L7.length)⟩, ⟨(u6 + 1), some (([x22] : List F).map f32)⟩]) rfl rfl rfl (TOp.buildSlice_o (g := ⟨u6, none⟩) (za := f32 (some 0)) (qs := [(0, [f32 x22])]) 4 rfl und24 siz36 zer36 rfl zel36 rfl rfl ⟨rfl, ⟨_, ALe.refl _, rfl⟩, trivial⟩ rfl) rfl ?_
          refine zN ?_
          refine RAny.more (i0 := 0) (l := []) (by kernel_rfl) (RAnys.cons rfl ?_ RAnys.nil)
          refine zl (r := optr 3 1 2) (LOp.fao und26 rfl siz24 rfl rfl rfl) ?_
          refine zN ?_
          refine RAny.more (i0 := 1) (l := []) (by kernel_rfl) (RAnys.cons rfl ?_ RAnys.nil)
          refine ROps.d (r := oref 2 u5 0 L7.length) (fs := []) (Γ' := [⟨0, some [sl a2.length (a2.map (ik .u8)), i64 r18, ik .u64 r19]⟩, ⟨1, some zMx⟩, ⟨u5, some (L7.map f32)⟩, ⟨1, some (oXc r1 r2 2 u5 L7.length)⟩, ⟨(u6 + 1), some (([x22] : List F).map f32)⟩]) rfl rfl rfl (TOp.load1_o rfl rfl agg24 rfl rfl) rfl ?_
          refine zN ?_
          refine RAny.more (i0 := 8) (l := []) (by kernel_rfl) (RAnys.cons rfl ?_ RAnys.nil)
          refine ROps.app (f := f32) (xs := L7) (ys := ([x22] : List F)) (Γ' := [⟨0, some [sl a2.length (a2.map (ik .u8)), i64 r18, ik .u64 r19]⟩, ⟨1, some zMx⟩, ⟨(u5 + 1), some ((L7 ++ ([x22] : List F)).map f32)⟩, ⟨1, some (oXc r1 r2 2 u5 L7.length)⟩, ⟨(u6 + 1), some (([x22] : List F).map f32)⟩]) rfl pun24 inf36 rfl rfl rfl rfl rfl rfl rfl rfl rfl (by simp) (ReadAs.own rfl (by simp)) (ones_map (fun _ => rfl)) (ap_by hm13) (ap_mx hm13) rfl ?_
          refine zN ?_
          refine RAny.more (i0 := 9) (l := []) (by kernel_rfl) (RAnys.cons rfl ?_ RAnys.nil)
          refine zl (r := optr 3 1 2) (LOp.fao und26 rfl siz24 rfl rfl rfl) ?_
          refine zN ?_
          refine RAny.more (i0 := 10) (l := []) (by kernel_rfl) (RAnys.cons rfl ?_ RAnys.nil)
          refine ROps.store_le (r := oref 2 (u5 + 1) 0 (L7.length + 1)) (l' := [i64 r1, i64 r2, oref 2 (u5 + 1) 0 (L7.length + 1)]) (Γ' := [⟨0, some [sl a2.length (a2.map (ik .u8)), i64 r18, ik .u64 r19]⟩, ⟨1, some zMx⟩, ⟨(u5 + 1), some ((L7 ++ ([x22] : List F)).map f32)⟩, ⟨1, some [i64 r1, i64 r2, oref 2 (u5 + 1) 0 (L7.length + 1)]⟩, ⟨(u6 + 1), some (([x22] : List F).map f32)⟩]) rfl siz24 rfl rfl rfl aR rfl rfl rfl rfl (Nat.le_of_ble_eq_true rfl) rfl rfl ?_
          refine zN ?_
          refine RAny.done (by kernel_rfl) ?_
          exact ⟨⟨aR, aR, aR, aR, aR, aR, aR, aR, aR, aR, aR, aR, aR, aR, aR, aR, trivial⟩, ⟨⟨rfl, .inr rfl⟩, ⟨rfl, .inr rfl⟩, ⟨rfl, .inr rfl⟩, ⟨rfl, .inr rfl⟩, ⟨rfl, .inr rfl⟩, trivial⟩⟩
   ·rintro τ3 Γ3 ⟨hw3, hd3⟩
    refine RunC.wl hw3 hd3 ?_
    refine RunC.wl (τ' := [(0, optr 0 0 0), (6, optr 1 1 0), (7, optr 3 1 0), (8, i64 v10)]) (Γ' := [⟨0, some [sl a2.length (a2.map (ik .u8)), i64 r18, ik .u64 r19]⟩, ⟨1, some zMx⟩, ⟨(u5 + 1), some ((L7 ++ ([x22] : List F)).map f32)⟩, ⟨1, some [i64 r1, i64 r2, oref 2 (u5 + 1) 0 (L7.length + 1)]⟩, ⟨(u6 + 1), none⟩]) ⟨aR, aR, aR, aR, trivial⟩ ⟨⟨rfl, .inr rfl⟩, ⟨rfl, .inr rfl⟩, ⟨rfl, .inr rfl⟩, ⟨rfl, .inr rfl⟩, ⟨rfl, .inl rfl⟩, trivial⟩ ?_
    obtain ⟨x23, hx14, h2_⟩ := olet_some h2_
    refine RunC.regionW ?_
    refine zm (r := i64 v10) ?_
    refine zl (r := i64 x23) (LOp.eqr (LOp.sub rfl rfl rfl) (congrArg (ik .i64) hx14)) ?_
    refine za (r := i64 x23) ?_
    refine zN ?_
    cases Option.some.inj h2_
    exact ⟨_, rfl, (u5 + 1), (u6 + 1), ⟨aR, aR, aR, aR, trivial⟩, ⟨⟨rfl, .inr rfl⟩, ⟨rfl, .inr rfl⟩, ⟨rfl, .inr rfl⟩, ⟨rfl, .inr (by first | rfl | simp)⟩, ⟨rfl, .inl rfl⟩, trivial⟩⟩
  ·refine RunC.regionW ?_
   refine zm (r := i64 v10) ?_
   refine zl (r := b false) (LOp.eqb (LOp.gtr rfl rfl rfl) hc3) ?_
   refine zN ?_
   refine RunC.cond_false rfl rfl ?_
   refine RunC.exit ?_
   cases Option.some.inj h2_
   have hx := ho2 _ rfl
   exact ⟨L7, v8, v9, u5, u6, ⟨aR, aR, trivial⟩, ⟨⟨rfl, .inr rfl⟩, ⟨rfl, .inr rfl⟩, ⟨rfl, .inr rfl⟩, ⟨rfl, .inr (by first | rfl | simp)⟩, ⟨rfl, .inl rfl⟩, trivial⟩, hx⟩
 ·rintro τ4 Γ4 ⟨L26, v27, v28, u24, u25, hw4, hd4, rfl⟩
  refine RunC.wl hw4 hd4 ?_
  replace h : s_l02DrawSides_0p0_C0_k1 r1 r2 L26 v27 v28 = some (q0, q1, q2, q3, q4) := h
  unfold s_l02DrawSides_0p0_C0_k1 at h
  refine zQ ?_
  refine ROps.d (r := agg (oXc r1 r2 2 u24 L26.length)) (fs := []) (Γ' := [⟨0, some [sl a2.length (a2.map (ik .u8)), i64 v27, ik .u64 v28]⟩, ⟨1, some zMx⟩, ⟨u24, some (L26.map f32)⟩, ⟨1, some (oXc r1 r2 2 u24 L26.length)⟩, ⟨u25, none⟩]) rfl rfl rfl (TOp.loadAgg_o rfl agg26 siz26 rfl rfl rfl rfl) rfl ?_
  refine ROps.store_le (r := agg (oXc r1 r2 2 u24 L26.length)) (l' := (oXc r1 r2 2 u24 L26.length)) (Γ' := [⟨0, some [sl a2.length (a2.map (ik .u8)), i64 v27, ik .u64 v28]⟩, ⟨1, some (oXc r1 r2 2 u24 L26.length)⟩, ⟨u24, some (L26.map f32)⟩, ⟨1, some (oXc r1 r2 2 u24 L26.length)⟩, ⟨u25, none⟩]) rfl siz26 rfl rfl rfl aR rfl rfl rfl rfl (Nat.le_of_ble_eq_true rfl) rfl rfl ?_
  refine zN ?_
  refine RunC.ret ?_
  have hq := Option.some.inj h
  obtain ⟨hq0, hq⟩ := Prod.mk.inj hq
  obtain ⟨hq1, hq⟩ := Prod.mk.inj hq
  obtain ⟨hq2, hq⟩ := Prod.mk.inj hq
  obtain ⟨hq3, hq⟩ := Prod.mk.inj hq
  subst q0
  subst q1
  subst q2
  subst q3
  subst q4
  exact bodyQ.mk (r' := agg (oXc r1 r2 2 u24 L26.length)) [(0, 0), (2, u24)] (.inr rfl) rfl (show List.Nodup [0, 2] from by decide) (by simp [ren, rens, sigma]) rfl (Res.one rfl (RV.cell agg26 siz26 rfl rfl rfl rfl)) (SelL.cells rfl (by first | rfl | simp [ren, rens, sigma, rens_f32, rens_f64, rens_i64, rens_ik, rens_str, rens_cp]) (lts_cons (lt_slk (fun _ => rfl)) (lts_cons rfl (lts_cons rfl lts_nil))) (SelL.arr0 (f := f32) (fun _ => rfl) rfl trivial))
noncomputable def s_R8Sides (a0 : List Int) (a1 : Int) (a2 : Int) : Option (Int × Int × (List F)) :=
 obind3 (s_l00From a0) fun (r1 : List Int) (r2 : Int) (r3 : Int) =>
 obind5 (s_l02DrawSides_0p0_C0 a1 a2 r1 r2 r3) fun (r4 : Int) (r5 : Int) (r6 : Int) (r7 : Int) (r8 : List F) =>
 some (r4, r5, r8)
theorem s_R8Sides_ok (a0 : List Int) (a1 : Int) (a2 : Int) (q0 : Int) (q1 : Int) (q2 : List F) (h : s_R8Sides a0 a1 a2 = some (q0, q1, q2)) : Ev Try.prog 10 [sl a0.length (a0.map (ik .u8)), i64 a1, i64 a2] [] (agg (oXc q0 q1 0 0 q2.length)) [⟨0, some (q2.map f32)⟩] := by
 refine Ev.start Try.func10 rfl rfl 3 (τ := [(0, sl a0.length (a0.map (ik .u8))), (1, i64 a1), (2, i64 a2)]) rfl (Γ' := [⟨0, none⟩, ⟨0, none⟩, ⟨0, none⟩]) rfl (n := 29) rfl (g := 0) rfl (fun _ => rfl) ?_
 unfold s_R8Sides at h
 refine zQ ?_
 refine ROps.d (r := optr 0 1 0) (fs := [(0, zMx)]) (Γ' := [⟨1, some zMx⟩, ⟨0, none⟩, ⟨0, none⟩]) rfl rfl rfl (TOp.alloc_o (g := ⟨0, none⟩) 0 rfl zer26 zok26 rfl) rfl ?_
 refine zN ?_
 refine RunC.seq ?_
 obtain ⟨r1, r2, r3, hf1, h⟩ := obind3_some h
 refine RunC.regionW ?_
 refine zm (r := sl a0.length (a0.map (ik .u8))) ?_
 refine ROps.d (r := optr 1 1 0) (fs := [(1, [sl r1.length (r1.map (ik .u8)), i64 r2, ik .u64 r3])]) (Γ' := [⟨1, some zMx⟩, ⟨1, some [sl r1.length (r1.map (ik .u8)), i64 r2, ik .u64 r3]⟩, ⟨0, none⟩]) rfl rfl rfl (TOp.callN (A := [sl a0.length (a0.map (ik .u8))]) (ls := [[sl r1.length (r1.map (ik .u8)), i64 r2, ik .u64 r3]]) [1] (by exact (CallAs.func ent53 rfl rfl)) (lts_cons (lt_sl (fun _ => rfl)) lts_nil) (s_l00From_ok a0 r1 r2 r3 hf1) (and_all (lts_cons (lt_sl (fun _ => rfl)) (lts_cons rfl (lts_cons rfl lts_nil))) rfl) rfl (by decide) (ns_of ⟨⟨_, rfl⟩, trivial⟩)) rfl ?_
 refine za (r := optr 1 1 0) ?_
 refine zN ?_
 refine RunC.seq ?_
 obtain ⟨r4, r5, r6, r7, r8, hf2, h⟩ := obind5_some h
 refine RunC.regionW ?_
 refine zm (r := optr 1 1 0) ?_
 refine zm (r := i64 a1) ?_
 refine zm (r := i64 a2) ?_
 refine ROps.callO (A := [optr 1 1 0, i64 a1, i64 a2]) (args := [optr 0 0 0, i64 a1, i64 a2]) (Γc := [⟨0, some [sl r1.length (r1.map (ik .u8)), i64 r2, ik .u64 r3]⟩]) (Γc' := [⟨0, some [sl r1.length (r1.map (ik .u8)), i64 r6, ik .u64 r7]⟩, ⟨0, some (r8.map f32)⟩]) (r' := agg (oXc r4 r5 2 1 r8.length)) (Γ' := [⟨1, some zMx⟩, ⟨1, some [sl r1.length (r1.map (ik .u8)), i64 r6, ik .u64 r7]⟩, ⟨1, some (r8.map f32)⟩]) [(1, 1)] [(2, 1)] rfl (CallAs.func ent55 rfl rfl) rfl rfl (SelOk.of (show List.Nodup [1] from by decide) (SelL.cells0 rfl (by simp [ren, rens, sigma, rens_f32, rens_f64, rens_i64, rens_ik, rens_str, rens_cp]) (lts_cons (lt_slk (fun _ => rfl)) (lts_cons rfl (lts_cons rfl lts_nil))) trivial)) (live_of ⟨⟨_, _, rfl⟩, trivial⟩) (by simp [ren, rens, sigma, rens_f32, rens_f64, rens_i64, rens_ik, rens_str, rens_cp]) rfl (s_l02DrawSides_0p0_C0_ok a1 a2 r1 r2 r3 r4 r5 r6 r7 r8 hf2) rfl (news_of ⟨⟨_, rfl, rfl⟩, trivial⟩) (show List.Nodup [1, 2] from by decide) (by simp [ren, rens, sigma]) (by simp [backOb, sigma, ren, rens, rens_f32, rens_f64, rens_i64, rens_ik, rens_str, rens_cp]) ?_
 refine ROps.store_le (r := agg (oXc r4 r5 2 1 r8.length)) (l' := (oXc r4 r5 2 1 r8.length)) (Γ' := [⟨1, some (oXc r4 r5 2 1 r8.length)⟩, ⟨1, some [sl r1.length (r1.map (ik .u8)), i64 r6, ik .u64 r7]⟩, ⟨1, some (r8.map f32)⟩]) rfl siz26 rfl rfl rfl aR rfl rfl rfl rfl (Nat.le_of_ble_eq_true rfl) rfl rfl ?_
 refine zN ?_
 refine RunC.ret ?_
 have hq := Option.some.inj h
 obtain ⟨hq0, hq⟩ := Prod.mk.inj hq
 obtain ⟨hq1, hq⟩ := Prod.mk.inj hq
 subst q0
 subst q1
 subst q2
 exact bodyQ.mk (r' := agg (oXc r4 r5 2 1 r8.length)) [(2, 1)] (.inr rfl) rfl (show List.Nodup [2] from by decide) rfl rfl (Res.one rfl (RV.cell agg26 siz26 rfl rfl rfl rfl)) (SelL.arr0 (f := f32) (fun _ => rfl) rfl trivial)
noncomputable def s_R8Order_b1 (a1 : Int) (r1 : List Int) (L6 : List Int) (v7 : Int) (v8 : Int) (v9 : Int) : Option (LR ((List Int) × Int × Int × Int) ((List Int)) ((List Int))) :=
 bsel (decide (v9 < a1)) (
  olet (IntKind.i64.wrap (v9 + 1)) fun (x10 : Int) =>
  obind3 (s_l00Src_pick_0p0_C0 x10 r1 v7 v8) fun (r11 : Int) (r12 : Int) (r13 : Int) =>
  need (apok 8 L6.length 1) <|
  obind (at? (L6 ++ ([v9] : List Int)) r11) fun (e14 : Int) =>
  obind (at? (L6 ++ ([v9] : List Int)) v9) fun (e15 : Int) =>
  obind (setAt? (L6 ++ ([v9] : List Int)) r11 e15) fun (L16 : List Int) =>
  obind (setAt? L16 v9 e14) fun (L17 : List Int) =>
  olet (IntKind.i64.wrap (v9 + 1)) fun (x18 : Int) =>
  some (LR.next (L17, r12, r13, x18))) (
  some (LR.out L6))
noncomputable def s_R8Order_s1 (a1 : Int) (r1 : List Int) : ((List Int) × Int × Int × Int) → Option (LR ((List Int) × Int × Int × Int) ((List Int)) ((List Int))) := fun s => s_R8Order_b1 a1 r1 s.1 s.2.1 s.2.2.1 s.2.2.2
noncomputable def s_R8Order_k1 (L21 : List Int) : Option ((List Int)) :=
 some L21
noncomputable def s_R8Order (a0 : List Int) (a1 : Int) : Option ((List Int)) :=
 obind3 (s_l00From a0) fun (r1 : List Int) (r2 : Int) (r3 : Int) =>
 obind (loopM (s_R8Order_s1 a1 r1) (([] : List Int), r2, r3, 0)) fun z => osum z (fun e => s_R8Order_k1 e) (fun r => some r)
theorem s_R8Order_ok (a0 : List Int) (a1 : Int) (q0 : List Int) (h : s_R8Order a0 a1 = some q0) : Ev Try.prog 40 [sl a0.length (a0.map (ik .u8)), i64 a1] [] (oref 0 0 0 q0.length) [⟨0, some (q0.map i64)⟩] := by
 refine Ev.start Try.func40 rfl rfl 3 (τ := [(0, sl a0.length (a0.map (ik .u8))), (1, i64 a1)]) rfl (Γ' := [⟨0, none⟩, ⟨0, none⟩, ⟨0, none⟩]) rfl (n := 85) rfl (g := 0) rfl (fun _ => rfl) ?_
 unfold s_R8Order at h
 refine zQ ?_
 refine za (r := nilsl) ?_
 refine zN ?_
 refine RunC.seq ?_
 obtain ⟨r1, r2, r3, hf1, h⟩ := obind3_some h
 refine RunC.regionW ?_
 refine zm (r := sl a0.length (a0.map (ik .u8))) ?_
 refine ROps.d (r := optr 0 1 0) (fs := [(0, [sl r1.length (r1.map (ik .u8)), i64 r2, ik .u64 r3])]) (Γ' := [⟨1, some [sl r1.length (r1.map (ik .u8)), i64 r2, ik .u64 r3]⟩, ⟨0, none⟩, ⟨0, none⟩]) rfl rfl rfl (TOp.callN (A := [sl a0.length (a0.map (ik .u8))]) (ls := [[sl r1.length (r1.map (ik .u8)), i64 r2, ik .u64 r3]]) [0] (by exact (CallAs.func ent53 rfl rfl)) (lts_cons (lt_sl (fun _ => rfl)) lts_nil) (s_l00From_ok a0 r1 r2 r3 hf1) (and_all (lts_cons (lt_sl (fun _ => rfl)) (lts_cons rfl (lts_cons rfl lts_nil))) rfl) rfl (by decide) (ns_of ⟨⟨_, rfl⟩, trivial⟩)) rfl ?_
 refine za (r := optr 0 1 0) ?_
 refine zN ?_
 refine zQ ?_
 refine ROps.d (r := oref 1 1 0 0) (fs := [(1, (([] : List Int).map i64))]) (Γ' := [⟨1, some [sl r1.length (r1.map (ik .u8)), i64 r2, ik .u64 r3]⟩, ⟨1, some (([] : List Int).map i64)⟩, ⟨0, none⟩]) rfl rfl rfl (TOp.buildSlice_o (g := ⟨0, none⟩) (za := i64 0) (qs := []) 1 rfl und44 siz2 zer2 rfl zel2 rfl rfl trivial rfl) rfl ?_
 refine za (r := oref 1 1 0 0) ?_
 refine zN ?_
 refine RunC.seq ?_
 refine zQ ?_
 refine za (r := i64 0) ?_
 refine zN ?_
 obtain ⟨z2, hz_2, h⟩ := obind_some h
 refine RunC.cutN (fun τ Γ => ∃ (L21 : List Int) (u19 : Nat) (u20 : Nat), WeakLe τ [(6, oref 1 u19 0 L21.length)] ∧ DeadLe Γ [⟨1, none⟩, ⟨u19, some (L21.map i64)⟩, ⟨u20, none⟩] ∧ z2 = .inl L21) ?_ ?_
 ·refine RunC.block (RunC.loop (RunL.loopM (x := z2) (s_R8Order_s1 a1 r1) (fun (s : (List Int) × Int × Int × Int) τ Γ => ∃ (u4 : Nat) (u5 : Nat), WeakLe τ [(1, i64 a1), (5, optr 0 1 0), (6, oref 1 u4 0 s.1.length), (7, i64 s.2.2.2)] ∧ DeadLe Γ [⟨1, some [sl r1.length (r1.map (ik .u8)), i64 s.2.1, ik .u64 s.2.2.1]⟩, ⟨u4, some (s.1.map i64)⟩, ⟨u5, none⟩]) ?_ _ _ _ hz_2 ⟨1, 0, ⟨aR, aR, aR, aR, trivial⟩, ⟨⟨rfl, .inr rfl⟩, ⟨rfl, .inr rfl⟩, ⟨rfl, .inl rfl⟩, trivial⟩⟩))
  rintro ⟨L6, v7, v8, v9⟩ τ2 Γ2 y2_ ⟨u4, u5, hw2, hd2⟩ h2_ ho2 hr2
  refine RunC.wl (τ' := [(1, i64 a1), (5, optr 0 1 0), (6, oref 1 u4 0 L6.length), (7, i64 v9)]) (Γ' := [⟨1, some [sl r1.length (r1.map (ik .u8)), i64 v7, ik .u64 v8]⟩, ⟨u4, some (L6.map i64)⟩, ⟨u5, none⟩]) hw2 hd2 ?_
  replace h2_ : s_R8Order_b1 a1 r1 L6 v7 v8 v9 = some y2_ := h2_
  unfold s_R8Order_b1 at h2_
  iterate 2 (refine RunC.seq ?_)
  rcases bsel_some h2_ with ⟨hc2, h2_⟩ | ⟨hc2, h2_⟩
  ·refine RunC.regionW ?_
   refine zm (r := i64 v9) ?_
   refine zm (r := i64 a1) ?_
   refine zl (r := b true) (LOp.eqb (LOp.lss rfl rfl rfl) hc2) ?_
   refine zN ?_
   refine RunC.cond_true rfl rfl ?_
   refine RunC.skip ?_
   refine RunC.seq ?_
   refine RunC.block ?_
   refine RunC.seq ?_
   obtain ⟨x10, hx3, h2_⟩ := olet_some h2_
   obtain ⟨r11, r12, r13, hf4, h2_⟩ := obind3_some h2_
   refine RunC.regionW ?_
   refine zm (r := optr 0 1 0) ?_
   refine zm (r := i64 v9) ?_
   refine zl (r := i64 x10) (LOp.eqr (LOp.add rfl rfl rfl) (congrArg (ik .i64) hx3)) ?_
   refine ROps.callO (A := [optr 0 1 0, i64 x10]) (args := [optr 0 0 0, i64 x10]) (Γc := [⟨0, some [sl r1.length (r1.map (ik .u8)), i64 v7, ik .u64 v8]⟩]) (Γc' := [⟨0, some [sl r1.length (r1.map (ik .u8)), i64 r12, ik .u64 r13]⟩]) (r' := i64 r11) (Γ' := [⟨1, some [sl r1.length (r1.map (ik .u8)), i64 r12, ik .u64 r13]⟩, ⟨u4, some (L6.map i64)⟩, ⟨u5, none⟩]) [(0, 1)] [] rfl (CallAs.func ent112 rfl rfl) rfl rfl (SelOk.of (show List.Nodup [0] from by decide) (SelL.cells0 rfl (by simp [ren, rens, sigma, rens_f32, rens_f64, rens_i64, rens_ik, rens_str, rens_cp]) (lts_cons (lt_slk (fun _ => rfl)) (lts_cons rfl (lts_cons rfl lts_nil))) trivial)) (live_of ⟨⟨_, _, rfl⟩, trivial⟩) (by simp [ren, rens, sigma, rens_f32, rens_f64, rens_i64, rens_ik, rens_str, rens_cp]) rfl (s_l00Src_pick_0p0_C0_ok x10 r1 v7 v8 r11 r12 r13 hf4) rfl (news_of trivial) (show List.Nodup [0] from by decide) (by simp [ren, rens, sigma]) (by simp [backOb, sigma, ren, rens, rens_f32, rens_f64, rens_i64, rens_ik, rens_str, rens_cp]) ?_
   refine za (r := i64 r11) ?_
   refine zN ?_
   refine RunC.seq ?_
   obtain ⟨hm5, h2_⟩ := need_some h2_
   refine RunC.regionW ?_
   refine zm (r := oref 1 u4 0 L6.length) ?_
   refine zm (r := i64 v9) ?_
   refine ROps.d (r := oref 2 (u5 + 1) 0 1) (fs := [(2, (([v9] : List Int).map i64))]) (Γ' := [⟨1, some [sl r1.length (r1.map (ik .u8)), i64 r12, ik .u64 r13]⟩, ⟨u4, some (L6.map i64)⟩, ⟨(u5 + 1), some (([v9] : List Int).map i64)⟩]) rfl rfl rfl (TOp.buildSlice_o (g := ⟨u5, none⟩) (za := i64 0) (qs := [(0, [i64 v9])]) 2 rfl und44 siz2 zer2 rfl zel2 rfl rfl ⟨rfl, ⟨_, ALe.refl _, rfl⟩, trivial⟩ rfl) rfl ?_
   refine ROps.app (f := i64) (xs := L6) (ys := ([v9] : List Int)) (Γ' := [⟨1, some [sl r1.length (r1.map (ik .u8)), i64 r12, ik .u64 r13]⟩, ⟨(u4 + 1), some ((L6 ++ ([v9] : List Int)).map i64)⟩, ⟨(u5 + 1), some (([v9] : List Int).map i64)⟩]) rfl pun44 inf2 rfl rfl rfl rfl rfl rfl rfl rfl rfl (by simp) (ReadAs.own rfl (by simp)) (ones_map (fun _ => rfl)) (ap_by hm5) (ap_mx hm5) rfl ?_
   refine za (r := oref 1 (u4 + 1) 0 (L6.length + 1)) ?_
   refine zN ?_
   refine RunC.wl (τ' := [(1, i64 a1), (5, optr 0 1 0), (6, oref 1 (u4 + 1) 0 (L6.length + 1)), (7, i64 v9), (8, i64 r11)]) (Γ' := [⟨1, some [sl r1.length (r1.map (ik .u8)), i64 r12, ik .u64 r13]⟩, ⟨(u4 + 1), some ((L6 ++ ([v9] : List Int)).map i64)⟩, ⟨(u5 + 1), none⟩]) ⟨aR, aR, aR, aR, aR, trivial⟩ ⟨⟨rfl, .inr rfl⟩, ⟨rfl, .inr rfl⟩, ⟨rfl, .inl rfl⟩, trivial⟩ ?_
   refine RunC.seq ?_
   obtain ⟨e14, he6, h2_⟩ := obind_some h2_
   refine RunC.regionW ?_
   refine zm (r := oref 1 (u4 + 1) 0 (L6.length + 1)) ?_
   refine zm (r := i64 r11) ?_
   refine ROps.d (r := optr 1 (u4 + 1) r11.toNat) (fs := []) (Γ' := [⟨1, some [sl r1.length (r1.map (ik .u8)), i64 r12, ik .u64 r13]⟩, ⟨(u4 + 1), some ((L6 ++ ([v9] : List Int)).map i64)⟩, ⟨(u5 + 1), none⟩]) rfl rfl rfl (TOp.ixo und44 siz2 rfl rfl rfl (at_in he6 (app_len rfl rfl)) rfl) rfl ?_
   refine ROps.d (r := i64 e14) (fs := []) (Γ' := [⟨1, some [sl r1.length (r1.map (ik .u8)), i64 r12, ik .u64 r13]⟩, ⟨(u4 + 1), some ((L6 ++ ([v9] : List Int)).map i64)⟩, ⟨(u5 + 1), none⟩]) rfl rfl rfl (TOp.load1_o rfl (at_cell he6) agg2 rfl rfl) rfl ?_
   refine za (r := i64 e14) ?_
   refine zN ?_
   refine RunC.seq ?_
   obtain ⟨e15, he7, h2_⟩ := obind_some h2_
   obtain ⟨L16, he8, h2_⟩ := obind_some h2_
   refine RunC.regionW ?_
   refine zm (r := oref 1 (u4 + 1) 0 (L6.length + 1)) ?_
   refine zm (r := i64 r11) ?_
   refine zm (r := oref 1 (u4 + 1) 0 (L6.length + 1)) ?_
   refine zm (r := i64 v9) ?_
   refine ROps.d (r := optr 1 (u4 + 1) v9.toNat) (fs := []) (Γ' := [⟨1, some [sl r1.length (r1.map (ik .u8)), i64 r12, ik .u64 r13]⟩, ⟨(u4 + 1), some ((L6 ++ ([v9] : List Int)).map i64)⟩, ⟨(u5 + 1), none⟩]) rfl rfl rfl (TOp.ixo und44 siz2 rfl rfl rfl (at_in he7 (app_len rfl rfl)) rfl) rfl ?_
   refine ROps.d (r := i64 e15) (fs := []) (Γ' := [⟨1, some [sl r1.length (r1.map (ik .u8)), i64 r12, ik .u64 r13]⟩, ⟨(u4 + 1), some ((L6 ++ ([v9] : List Int)).map i64)⟩, ⟨(u5 + 1), none⟩]) rfl rfl rfl (TOp.load1_o rfl (at_cell he7) agg2 rfl rfl) rfl ?_
   refine ROps.d (r := optr 1 (u4 + 1) r11.toNat) (fs := []) (Γ' := [⟨1, some [sl r1.length (r1.map (ik .u8)), i64 r12, ik .u64 r13]⟩, ⟨(u4 + 1), some ((L6 ++ ([v9] : List Int)).map i64)⟩, ⟨(u5 + 1), none⟩]) rfl rfl rfl (TOp.ixo und44 siz2 rfl rfl rfl (set_in he8 (app_len rfl rfl)) rfl) rfl ?_
   refine ROps.st (f := i64) (i := r11) (Γ' := [⟨1, some [sl r1.length (r1.map (ik .u8)), i64 r12, ik .u64 r13]⟩, ⟨(u4 + 1), some (L16.map i64)⟩, ⟨(u5 + 1), none⟩]) rfl siz2 rfl rfl rfl aR rfl rfl rfl he8 rfl ?_
   refine zN ?_
   obtain ⟨L17, he9, h2_⟩ := obind_some h2_
   refine RunC.regionW ?_
   refine zm (r := oref 1 (u4 + 1) 0 (L6.length + 1)) ?_
   refine zm (r := i64 v9) ?_
   refine zm (r := i64 e14) ?_
   refine ROps.d (r := optr 1 (u4 + 1) v9.toNat) (fs := []) (Γ' := [⟨1, some [sl r1.length (r1.map (ik .u8)), i64 r12, ik .u64 r13]⟩, ⟨(u4 + 1), some (L16.map i64)⟩, ⟨(u5 + 1), none⟩]) rfl rfl rfl (TOp.ixo und44 siz2 rfl rfl rfl (set_in he9 ((setAt?_len he8).trans (app_len rfl rfl))) rfl) rfl ?_
   refine ROps.st (f := i64) (i := v9) (Γ' := [⟨1, some [sl r1.length (r1.map (ik .u8)), i64 r12, ik .u64 r13]⟩, ⟨(u4 + 1), some (L17.map i64)⟩, ⟨(u5 + 1), none⟩]) rfl siz2 rfl rfl rfl aR rfl rfl rfl he9 rfl ?_
   refine zN ?_
   refine RunC.wl (τ' := [(1, i64 a1), (5, optr 0 1 0), (6, oref 1 (u4 + 1) 0 (L6.length + 1)), (7, i64 v9)]) (Γ' := [⟨1, some [sl r1.length (r1.map (ik .u8)), i64 r12, ik .u64 r13]⟩, ⟨(u4 + 1), some (L17.map i64)⟩, ⟨(u5 + 1), none⟩]) ⟨aR, aR, aR, aR, trivial⟩ ⟨⟨rfl, .inr rfl⟩, ⟨rfl, .inr rfl⟩, ⟨rfl, .inl rfl⟩, trivial⟩ ?_
   obtain ⟨x18, hx10, h2_⟩ := olet_some h2_
   refine RunC.regionW ?_
   refine zm (r := i64 v9) ?_
   refine zl (r := i64 x18) (LOp.eqr (LOp.add rfl rfl rfl) (congrArg (ik .i64) hx10)) ?_
   refine za (r := i64 x18) ?_
   refine zN ?_
   cases Option.some.inj h2_
   exact ⟨_, rfl, (u4 + 1), (u5 + 1), ⟨aR, aR, (ALe.eq (by rw [((setAt?_len he9).trans ((setAt?_len he8).trans (app_len rfl rfl)))] <;> rfl)), aR, trivial⟩, ⟨⟨rfl, .inr rfl⟩, ⟨rfl, .inr rfl⟩, ⟨rfl, .inl rfl⟩, trivial⟩⟩
  ·refine RunC.regionW ?_
   refine zm (r := i64 v9) ?_
   refine zm (r := i64 a1) ?_
   refine zl (r := b false) (LOp.eqb (LOp.lss rfl rfl rfl) hc2) ?_
   refine zN ?_
   refine RunC.cond_false rfl rfl ?_
   refine RunC.exit ?_
   cases Option.some.inj h2_
   have hx := ho2 _ rfl
   exact ⟨L6, u4, u5, ⟨aR, trivial⟩, ⟨⟨rfl, .inl rfl⟩, ⟨rfl, .inr rfl⟩, ⟨rfl, .inl rfl⟩, trivial⟩, hx⟩
 ·rintro τ3 Γ3 ⟨L21, u19, u20, hw3, hd3, rfl⟩
  refine RunC.wl hw3 hd3 ?_
  replace h : s_R8Order_k1 L21 = some q0 := h
  unfold s_R8Order_k1 at h
  refine zQ ?_
  refine zm (r := oref 1 u19 0 L21.length) ?_
  refine za (r := oref 1 u19 0 L21.length) ?_
  refine zN ?_
  refine RunC.ret ?_
  have hq := Option.some.inj h
  subst q0
  exact bodyQ.mk (r' := oref 1 u19 0 L21.length) [(1, u19)] (.inr rfl) rfl (show List.Nodup [1] from by decide) (by simp [ren, rens, sigma]) rfl (Res.one rfl (RV.tmp rfl)) (SelL.arr0 (f := i64) (fun _ => rfl) rfl trivial)
noncomputable def i_length_int64 (a0 : List Int) : Option (Int) :=
 some (a0.length : Int)
theorem i_length_int64_ok (a0 : List Int) (q0 : Int) (h : i_length_int64 a0 = some q0) : Ev Try.prog 101 [sl a0.length (a0.map i64)] [] (i64 q0) [] := by
 refine Ev.start Try.func101 rfl rfl 0 (τ := [(0, sl a0.length (a0.map i64))]) rfl (Γ' := []) rfl (n := 11) rfl (g := 0) rfl (fun _ => rfl) ?_
 unfold i_length_int64 at h
 refine zQ ?_
 refine za (r := i64 0) ?_
 refine zN ?_
 refine zQ ?_
 refine zm (r := sl a0.length (a0.map i64)) ?_
 refine zl (r := i64 (a0.length : Int)) (LOp.len_sl und44 rfl rfl) ?_
 refine za (r := i64 (a0.length : Int)) ?_
 refine zN ?_
 refine RunC.ret ?_
 have hq := Option.some.inj h
 subst q0
 exact bodyQ.pure (.inr rfl) rfl (Res.one rfl (RV.tmp rfl))
noncomputable def i_inRange (a0 : Int) (a1 : Int) (a2 : Int) : Option (Bool) :=
 bsel (decide (a1 ≤ a0)) (
  some (decide (a0 ≤ a2))) (
  some false)
theorem i_inRange_ok (a0 : Int) (a1 : Int) (a2 : Int) (q0 : Bool) (h : i_inRange a0 a1 a2 = some q0) : Ev Try.prog 65 [i64 a0, i64 a1, i64 a2] [] (b q0) [] := by
 refine Ev.start Try.func65 rfl rfl 0 (τ := [(0, i64 a0), (1, i64 a1), (2, i64 a2)]) rfl (Γ' := []) rfl (n := 31) rfl (g := 0) rfl (fun _ => rfl) ?_
 unfold i_inRange at h
 refine zQ ?_
 refine za (r := b false) ?_
 refine zN ?_
 refine RunC.seq ?_
 rcases bsel_some h with ⟨hc1, h⟩ | ⟨hc1, h⟩
 ·refine RunC.regionW ?_
  refine zm (r := i64 a1) ?_
  refine zm (r := i64 a0) ?_
  refine zl (r := b true) (LOp.eqb (LOp.leq rfl rfl rfl) hc1) ?_
  refine zm (r := b true) ?_
  refine zm (r := i64 a0) ?_
  refine zm (r := i64 a2) ?_
  refine zl (r := b (decide (a0 ≤ a2))) (LOp.leq rfl rfl rfl) ?_
  refine zl (r := b (decide (a0 ≤ a2))) (LOp.pick_true rfl rfl rfl) ?_
  refine za (r := b (decide (a0 ≤ a2))) ?_
  refine zN ?_
  refine RunC.ret ?_
  have hq := Option.some.inj h
  subst q0
  exact bodyQ.pure (.inr rfl) rfl (Res.one rfl (RV.tmp rfl))
 ·refine RunC.regionW ?_
  refine zm (r := i64 a1) ?_
  refine zm (r := i64 a0) ?_
  refine zl (r := b false) (LOp.eqb (LOp.leq rfl rfl rfl) hc1) ?_
  refine zm (r := b false) ?_
  iterate 3 (refine ROps.s rfl rfl rfl ?_)
  refine zl (r := b false) (LOp.pick_false rfl rfl rfl) ?_
  refine za (r := b false) ?_
  refine zN ?_
  refine RunC.ret ?_
  have hq := Option.some.inj h
  subst q0
  exact bodyQ.pure (.inr rfl) rfl (Res.one rfl (RV.tmp rfl))
noncomputable def i_isSide (a0 : Int) : Option (Bool) :=
 obind (i_inRange a0 1 12) fun (r1 : Bool) =>
 some r1
theorem i_isSide_ok (a0 : Int) (q0 : Bool) (h : i_isSide a0 = some q0) : Ev Try.prog 59 [i64 a0] [] (b q0) [] := by
 refine Ev.start Try.func59 rfl rfl 0 (τ := [(0, i64 a0)]) rfl (Γ' := []) rfl (n := 11) rfl (g := 0) rfl (fun _ => rfl) ?_
 unfold i_isSide at h
 refine zQ ?_
 refine za (r := b false) ?_
 refine zN ?_
 refine RunC.seq ?_
 obtain ⟨r1, hf1, h⟩ := obind_some h
 refine RunC.regionW ?_
 refine zm (r := i64 a0) ?_
 refine ROps.d (r := b r1) (fs := []) (Γ' := []) rfl rfl rfl (TOp.callB (CallAs.func ent65 rfl rfl) (Bors.cons (Bor.pure rfl) (Bors.cons (Bor.pure rfl) (Bors.cons (Bor.pure rfl) Bors.nil))) rfl rfl (i_inRange_ok a0 1 12 r1 hf1)) rfl ?_
 refine za (r := b r1) ?_
 refine zN ?_
 refine RunC.ret ?_
 have hq := Option.some.inj h
 subst q0
 exact bodyQ.pure (.inr rfl) rfl (Res.one rfl (RV.tmp rfl))
noncomputable def x_slices_Values_int64_int64 (a0 : List Int) : Option ((List Int)) :=
 some a0
theorem x_slices_Values_int64_int64_ok (a0 : List Int) (q0 : List Int) (h : x_slices_Values_int64_int64 a0 = some q0) : Ev Try.prog 158 [sl a0.length (a0.map i64)] [] (fn (.func 169) [] [ptr [sl q0.length (q0.map i64)]]) [] := by
 refine Ev.start Try.func158 rfl rfl 0 (τ := [(0, sl a0.length (a0.map i64))]) rfl (Γ' := []) rfl (n := 9) rfl (g := 0) rfl (fun _ => rfl) ?_
 unfold x_slices_Values_int64_int64 at h
 refine zQ ?_
 refine ROps.d (r := ptr [sl a0.length (a0.map i64)]) (fs := []) (Γ' := []) rfl rfl rfl (TOp.box_s rfl rfl rfl) rfl ?_
 refine za (r := x .nilFunc) ?_
 refine zN ?_
 refine zQ ?_
 refine zl (r := fn (.func 169) [] [ptr [sl a0.length (a0.map i64)]]) (LOp.makeFunc rfl rfl) ?_
 refine za (r := fn (.func 169) [] [ptr [sl a0.length (a0.map i64)]]) ?_
 refine zN ?_
 refine RunC.ret ?_
 have hq := Option.some.inj h
 subst q0
 exact bodyQ.pure (.inr rfl) (lt_fn lts_nil (lts_cons (lt_ptr (lts_cons (lt_sl (fun _ => rfl)) lts_nil)) lts_nil)) (Res.one rfl (RV.tmp rfl))
noncomputable def x_slices_AppendSeq (a0 : List Int) : Option (List Int) :=
 need (decide ((a0.length : Int) * 8 ≤ 140737488351232)) <|
 some a0
section
open Go.RowKit Go.Shelf
attribute [local go_sem] Oper.semAt_some
set_option maxRecDepth 100000 in
set_option maxHeartbeats 2000000 in
theorem values1_in (F : Fence) (n : Nat) (h7 : F.fn 169) (hro : F.round = none) (hn : 1 ≤ n) (l Bs Bo n₀ b off len cap : Nat) (zs : List Int) (hreach : len * 8 ≤ 140737488351232) (hb : b < n₀) (J Jx : List Int → World → Prop)
  (hY : ∀ pre x W, J pre W → pre.length < len → YieldAt F (n - 1) Try.prog l #[.int .i64 x] W fun e W' =>
   (e = .returned (.bool true) ∧ J (pre ++ [x]) W' ∧ Below n₀ W W') ∨ (e = .returned (.bool false) ∧ Jx (pre ++ [x]) W'))
  (W : World) (hBs : W.cell? ⟨Bs, Bo, none⟩ = some (.slice (some ⟨b, off, none⟩) len cap)) (hc : ∀ j, j < len → W.cell? ⟨b, off + j, none⟩ = some (.int .i64 (zs[j]?.getD 0))) (h0 : J [] W) :
  CallsIn F n Try.prog 169 #[.func (.yield l) #[] #[], .pointer (some ⟨Bs, Bo, none⟩)] W fun e W' => (∃ v, e = .returned v) ∧
   ((∃ ys, ys = uptoF (fun j => zs[j]?.getD 0) len ∧ J ys W') ∨ (∃ pre, (∃ k, k ≤ len ∧ pre = uptoF (fun j => zs[j]?.getD 0) k) ∧ Jx pre W')) := by
 refine callsIn_of_wp Try.func169 rfl h7 ?_ hro
 simp only [Try.ntmps169, List.size_toArray, List.length_cons, List.length_nil, Nat.reduceAdd, Nat.reduceSub, Array.replicate_succ, Array.replicate_zero, List.push_toArray, List.append_toArray, List.nil_append, List.cons_append]
 gi_wp2
 gi_loopw [7] (fun i wr => ∃ k : Nat, k ≤ len ∧ i = .int .i64 k ∧ J (uptoF (fun j => zs[j]?.getD 0) k) wr ∧ Below n₀ W wr)
  (fun i _ => len - (intOf i).toNat)
 case atStart => exact ⟨0, Nat.zero_le _, rfl, h0, Below.refl _ _⟩
 case round =>
  obtain ⟨k, hk, rfl, hJs, hnx⟩ := hrel
  have hcx : k < len → wr.cell? ⟨b, off + k, none⟩ = some (.int .i64 (zs[k]?.getD 0)) := fun h => (hnx.cell (p := ⟨b, off + k, none⟩) hb).trans (hc k h)
  by_cases hlt : k < len
  ·obtain ⟨fn, tmps, assign, body, hy, hR⟩ := hY _ (zs[k]?.getD 0) wr hJs (by rw [uptoF_length]; exact hlt)
   have hcx' := hcx hlt
   gi_wp2
   refine hR.mono ?_
   rintro e W3 (⟨rfl, hJ3, hk3⟩ | ⟨rfl, hJx3⟩)
   ·gi_wp2
    go_roundw
    case rel => exact ⟨k + 1, by omega, by simp, by rw [uptoF_succ]; exact hJ3, hnx.trans hk3⟩
    case measure => simp [intOf]; omega
   ·gi_wp2
    refine bodyPost_ret (results_none rfl _ _ _) rfl ?_
    exact ⟨⟨_, rfl⟩, .inr ⟨_, ⟨k + 1, by omega, (uptoF_succ _ _).symm⟩, hJx3⟩⟩
  ·obtain rfl : k = len := by omega
   gi_wp2
   go_end0
   exact ⟨⟨_, rfl⟩, .inl ⟨_, rfl, hJs⟩⟩
set_option maxRecDepth 100000 in
set_option maxHeartbeats 1000000 in
theorem values1_nil_in (F : Fence) (n : Nat) (h7 : F.fn 169) (hro : F.round = none) (l Bs Bo : Nat) (a : Option Addr) (cap : Nat) (J : List Int → World → Prop) (W : World) (hBs : W.cell? ⟨Bs, Bo, none⟩ = some (.slice a 0 cap)) (h0 : J [] W) :
  CallsIn F n Try.prog 169 #[.func (.yield l) #[] #[], .pointer (some ⟨Bs, Bo, none⟩)] W fun e W' => (∃ v, e = .returned v) ∧ J [] W' := by
 refine callsIn_of_wp Try.func169 rfl h7 ?_ hro
 simp only [Try.ntmps169, List.size_toArray, List.length_cons, List.length_nil, Nat.reduceAdd, Nat.reduceSub, Array.replicate_succ, Array.replicate_zero, List.push_toArray, List.append_toArray, List.nil_append, List.cons_append]
 gi_wp2
 gi_loopw [7] (fun i wr => i = .int .i64 0 ∧ J [] wr) (fun _ _ => 0)
 case atStart => exact ⟨rfl, h0⟩
 case round =>
  obtain ⟨rfl, hJs⟩ := hrel
  gi_wp2
  go_end0
  exact ⟨⟨_, rfl⟩, hJs⟩
theorem values_stops (F : Fence) (n : Nat) (h7 : F.fn 169) (hro : F.round = none) (hn : 1 ≤ n) (Bs Bo n₀ : Nat) (sv : Value) (zs : List Int) (hreach : zs.length * 8 ≤ 140737488351232) (w : World) (hBs : Bs < w.heap.size) (hn₀ : n₀ ≤ w.heap.size)
  (hc : w.cell? ⟨Bs, Bo, none⟩ = some sv) (hI : IntsAt n₀ w sv zs) :
  SeqStopsK F n Try.prog 169 #[.pointer (some ⟨Bs, Bo, none⟩)] (fun x : Int => #[Value.int .i64 x]) (Below n₀) (fun ys => ys = zs) (fun pre => pre <+: zs) zs.length w := fun l J Jx W hW _ _ hY h0 => by
 have hc' := (hW.cell (p := ⟨Bs, Bo, none⟩) hBs).trans hc
 rcases hI.below (hW.mono hn₀) with ⟨a, cap, rfl, rfl⟩ | ⟨b, off, cap, rfl, hb, hcs⟩
 ·exact (values1_nil_in F n h7 hro l Bs Bo a cap J W hc' h0).mono fun e W' ⟨he, hj⟩ => ⟨he, .inl ⟨_, rfl, hj⟩⟩
 ·refine (values1_in F n h7 hro hn l Bs Bo n₀ b off zs.length cap zs hreach hb J Jx hY W hc' hcs h0).mono ?_
  rintro e W' ⟨he, ⟨ys, rfl, hj⟩ | ⟨pre, ⟨k, hk, rfl⟩, hj⟩⟩
  ·exact ⟨he, .inl ⟨_, uptoF_all zs, hj⟩⟩
  ·exact ⟨he, .inr ⟨_, by rw [uptoF_take zs hk]; exact List.take_prefix _ _, hj⟩⟩
/-- Between two rounds: the box holds a slice that owns what has come. -/
def SeqAt (w : World) (B : Nat) (pre : List Int) (W : World) : Prop :=
 (∃ v, Boxed W B 44 v ∧ W.ownsRow w.heap.size 2 1 v pre.length (pre.map (Value.int .i64)) ∧ True) ∧ Below w.heap.size w W
theorem seqAt_own (w : World) (B D : Nat) (hD : w.heap.size ≤ D) : OwnFrom D (SeqAt w B) :=
 OwnFrom.and (Own.from (holdsRow_own w.heap.size B 44 2 1 (fun s : List Int => s.length) (fun s => s.map (Value.int .i64)) (fun _ _ => True)) _) (ownFrom_below (Nat.le_refl _) hD)
theorem ty44 : Try.prog.underlying 44 = some (.slice 2) := by kernel_rfl
theorem info2 : (Try.prog.info? 2).map (fun i => (i.zero, i.size, i.bytes)) = some (some (.int .i64 0), 1, 8) := by kernel_rfl
set_option maxRecDepth 100000 in
set_option maxHeartbeats 2000000 in
theorem appendSeq_in (F : Fence) (n : Nat) (h3 : F.fn 172) (h7 : F.fn 169) (hro : F.round = none) (hn : 3 ≤ n) (w : World) (Bs Bo : Nat) (sv : Value) (zs : List Int) (hreach : zs.length * 8 ≤ 140737488351232) (hBs : Bs < w.heap.size)
  (hc : w.cell? ⟨Bs, Bo, none⟩ = some sv) (hI : IntsAt w.heap.size w sv zs) :
  CallsIn F n Try.prog 172 #[.slice none 0 0, .func (.func 169) #[] #[.pointer (some ⟨Bs, Bo, none⟩)]] w fun e W' => (∃ v, e = .returned v ∧ W'.ownsRow w.heap.size 2 1 v zs.length (zs.map (Value.int .i64))) ∧ Below w.heap.size w W' := by
 have h1 : 1 ≤ n := by omega
 obtain ⟨i0, hi, hz0, hz1, hz2⟩ := info_parts info2
 refine callsIn_of_wp_marks Try.func172 rfl h3 ?_ hro
 simp only [Try.ntmps172, List.size_toArray, List.length_cons, List.length_nil, Nat.reduceAdd, Nat.reduceSub, Array.replicate_succ, Array.replicate_zero, List.push_toArray, List.append_toArray, List.nil_append, List.cons_append]
 gi_wp2
 have bS := Boxed.new w 44 (.slice none 0 0)
 have hB0 : Below w.heap.size w (w.alloc (.cells #[.slice none 0 0] 44)) := (Below.refl _ w).alloc (Nat.le_refl _) _
 refine wpIn_rangeFunc_ownG hro h1 (gf := 169) (lb := #[.pointer (some ⟨Bs, Bo, none⟩)]) rfl h7 (enters_of Try.func169 (by kernel_rfl) rfl)
  (values_stops F (n - 1) h7 hro (by omega) Bs Bo w.heap.size sv zs hreach w hBs (Nat.le_refl _) hc hI) belowK_t (belowK_b (by simp)) hB0 (fun _ => rfl)
  (SeqAt w w.heap.size)
  (fun _ _ _ => False)
  (seqAt_own w _ _ (by simp))
  (fun _ _ _ _ _ hs _ _ => hs)
  ⟨⟨.slice none 0 0, bS, ⟨rfl, .inl ⟨rfl, rfl⟩⟩, trivial⟩, hB0⟩
  (fun x => { tmps := #[.slice none 0 0, .func (.func 169) #[] #[.pointer (some ⟨Bs, Bo, none⟩)], .pointer (some ⟨w.heap.size, 0, none⟩), undef, .slice none 0 0, .int .i64 x, .func (.func 169) #[] #[.pointer (some ⟨Bs, Bo, none⟩)], .int .i64 x, undef, undef, undef, undef, undef], defers := [] }) ?assign ?body ?done ?stop
 case assign =>
  intro l x W K hK
  gi_wp2
  exact hK
 case body =>
  rintro l pre x W ⟨⟨v, hv, hrow, _⟩, hB⟩ hlen
  have hc2 := hv.cell
  have hf2 := hv.frozen
  gi_wp2_with (first
   | (gi_at_builtin; refine wpListIn_append_own _ rfl _ _ 44 rfl w.heap.size 2 i0 (.int .i64 0) 1 8 ty44 hi hz0 hz1 hz2 rfl (by decide) _ _ _ rfl (hrow.alloc _) ⟨W.heap.size, 0, none⟩ 1 1 [.int .i64 x] rfl rfl ?c1 ?c2 ?c3 ?c4 ?c5 ?_)
   | gi_in)
  case c1 =>
   intro j u hj
   match j, hj with
   | 0, hj => simp at hj; subst hj; simp [Addr.add]
  case c2 => intro u hu; simp at hu; subst hu; rfl
  case c3 => unfold maxLen; omega
  case c4 => omega
  case c5 => have := hB.size; simp; omega
  ·intro v' w1 hown' hgrow _
   obtain ⟨g, cap, rfl⟩ := ownsRow_succ hown'
   obtain ⟨b1, b2, b3, b4, b5⟩ := hv.appended (by decide : (44 : Nat) ≠ 2) hrow hB.size (Nat.le_refl _) hown' hgrow
   have hc1 := b1.cell
   have hf1 := b1.frozen
   clear hgrow hown'
   gi_wp2
   exact ⟨b4.from _, b5, ⟨⟨_, b2, by simpa using b3, trivial⟩, hB.trans b5⟩⟩
 case done =>
  rintro D ys W hD rfl ⟨⟨v, hv, hrow, _⟩, hB⟩ hK
  have hc2 := hv.cell
  have hf2 := hv.frozen
  gi_wp2
  refine ⟨by simp, .inl ⟨_, _, rfl, run_takeDeferred hK, ?_⟩⟩
  exact ⟨_, results_tmp rfl _ _ _, ⟨v, rfl, ownsRow_putObj hrow _ hK rfl⟩, hB.trans (belowK_b (w := w) (Nat.le_refl _) W D _ _ (by simp at hD; omega) hK rfl rfl)⟩
 case stop =>
  rintro D c pre W _ _ h _
  exact h.elim
end
theorem x_slices_AppendSeq_ok (a0 : List Int) (q0 : List Int) (h : x_slices_AppendSeq a0 = some q0) : Ev Try.prog 172 [nilsl, fn (.func 169) [] [ptr [sl a0.length (a0.map i64)]]] [] (oref 0 0 0 q0.length) [⟨0, some (q0.map i64)⟩] := by
 unfold x_slices_AppendSeq at h
 cases hd : decide ((a0.length : Int) * 8 ≤ 140737488351232) with
 | false => rw [hd] at h; cases h
 | true =>
  rw [hd] at h
  cases h
  have hb := of_decide_eq_true hd
  refine Ev.ownsRow (t := 2) fun S w vs hw ha => ?_
  obtain ⟨b, off, sv, rfl, h1, h2, h3⟩ := seq_args hw ha
  exact callsIn_wide.1 (appendSeq_in Fence.wide 3 trivial trivial rfl (Nat.le_refl _) w b off sv a0 (by omega) h1 h2 h3)
noncomputable def x_slices_Collect_int64_0Fx_slices_Values_int64_int64_1 (a0 : List Int) : Option ((List Int)) :=
 obind (x_slices_AppendSeq a0) fun (r1 : List Int) =>
 some r1
theorem x_slices_Collect_int64_0Fx_slices_Values_int64_int64_1_ok (a0 : List Int) (q0 : List Int) (h : x_slices_Collect_int64_0Fx_slices_Values_int64_int64_1 a0 = some q0) : Ev Try.prog 167 [fn (.func 169) [] [ptr [sl a0.length (a0.map i64)]]] [] (oref 0 0 0 q0.length) [⟨0, some (q0.map i64)⟩] := by
 refine Ev.start Try.func167 rfl rfl 1 (τ := [(0, fn (.func 169) [] [ptr [sl a0.length (a0.map i64)]])]) rfl (Γ' := [⟨0, none⟩]) rfl (n := 11) rfl (g := 0) rfl (fun _ => rfl) ?_
 unfold x_slices_Collect_int64_0Fx_slices_Values_int64_int64_1 at h
 refine zQ ?_
 refine za (r := nilsl) ?_
 refine zN ?_
 refine RunC.seq ?_
 obtain ⟨r1, hf1, h⟩ := obind_some h
 refine RunC.regionW ?_
 refine zm (r := fn (.func 169) [] [ptr [sl a0.length (a0.map i64)]]) ?_
 refine ROps.d (r := oref 0 1 0 r1.length) (fs := [(0, (r1.map i64))]) (Γ' := [⟨1, some (r1.map i64)⟩]) rfl rfl rfl (TOp.callBN (ls := [(r1.map i64)]) [0] (CallAs.func ent172 rfl rfl) (Bors.cons (Bor.pure rfl) (Bors.cons (Bor.fn Bors.nil (Bors.cons (Bor.ptr (Bors.cons (Bor.sl (fun _ => rfl)) Bors.nil)) Bors.nil)) Bors.nil)) rfl (x_slices_AppendSeq_ok a0 r1 hf1) (and_all (lts0_map (f := i64) (fun _ => rfl) _) rfl) (and_all (noss_map (f := i64) (fun _ => rfl) _) rfl) rfl (by decide) (ns_of ⟨⟨_, rfl⟩, trivial⟩)) rfl ?_
 refine za (r := oref 0 1 0 r1.length) ?_
 refine zN ?_
 refine RunC.ret ?_
 have hq := Option.some.inj h
 subst q0
 exact bodyQ.mk (r' := oref 0 1 0 r1.length) [(0, 1)] (.inr rfl) rfl (show List.Nodup [0] from by decide) rfl rfl (Res.one rfl (RV.tmp rfl)) (SelL.arr0 (f := i64) (fun _ => rfl) rfl trivial)
noncomputable def x_math_bits_Len64 (a0 : Int) : Option (Int) :=
 bsel (decide (4294967296 ≤ a0)) (
  none) (
  bsel (decide (65536 ≤ a0)) (
   none) (
   bsel (decide (256 ≤ a0)) (
    none) (
    olet (IntKind.u8.wrap a0) fun (x1 : Int) =>
    obind (sat? lit_77d67bd0 x1) fun (e2 : Int) =>
    olet (IntKind.i64.wrap e2) fun (x3 : Int) =>
    olet (IntKind.i64.wrap (0 + x3)) fun (x4 : Int) =>
    some x4)))
theorem x_math_bits_Len64_ok (a0 : Int) (q0 : Int) (h : x_math_bits_Len64 a0 = some q0) : Ev Try.prog 187 [ik .u64 a0] [] (i64 q0) [] := by
 refine Ev.start Try.func187 rfl rfl 0 (τ := [(0, ik .u64 a0)]) rfl (Γ' := []) rfl (n := 51) rfl (g := 0) rfl (fun _ => rfl) ?_
 unfold x_math_bits_Len64 at h
 refine zQ ?_
 refine za (r := i64 0) ?_
 refine zN ?_
 iterate 2 (refine RunC.seq ?_)
 rcases bsel_some h with ⟨hc1, h⟩ | ⟨hc1, h⟩
 ·refine RunC.regionW ?_
  refine zm (r := ik .u64 a0) ?_
  refine zl (r := b true) (LOp.eqb (LOp.geq rfl rfl rfl) hc1) ?_
  refine zN ?_
  refine RunC.cond_true rfl rfl ?_
  refine RunC.seq ?_
  cases h
 ·refine RunC.regionW ?_
  refine zm (r := ik .u64 a0) ?_
  refine zl (r := b false) (LOp.eqb (LOp.geq rfl rfl rfl) hc1) ?_
  refine zN ?_
  refine RunC.cond_false rfl rfl ?_
  refine RunC.skip ?_
  iterate 2 (refine RunC.seq ?_)
  rcases bsel_some h with ⟨hc2, h⟩ | ⟨hc2, h⟩
  ·refine RunC.regionW ?_
   refine zm (r := ik .u64 a0) ?_
   refine zl (r := b true) (LOp.eqb (LOp.geq rfl rfl rfl) hc2) ?_
   refine zN ?_
   refine RunC.cond_true rfl rfl ?_
   refine RunC.seq ?_
   cases h
  ·refine RunC.regionW ?_
   refine zm (r := ik .u64 a0) ?_
   refine zl (r := b false) (LOp.eqb (LOp.geq rfl rfl rfl) hc2) ?_
   refine zN ?_
   refine RunC.cond_false rfl rfl ?_
   refine RunC.skip ?_
   iterate 2 (refine RunC.seq ?_)
   rcases bsel_some h with ⟨hc3, h⟩ | ⟨hc3, h⟩
   ·refine RunC.regionW ?_
    refine zm (r := ik .u64 a0) ?_
    refine zl (r := b true) (LOp.eqb (LOp.geq rfl rfl rfl) hc3) ?_
    refine zN ?_
    refine RunC.cond_true rfl rfl ?_
    refine RunC.seq ?_
    cases h
   ·refine RunC.regionW ?_
    refine zm (r := ik .u64 a0) ?_
    refine zl (r := b false) (LOp.eqb (LOp.geq rfl rfl rfl) hc3) ?_
    refine zN ?_
    refine RunC.cond_false rfl rfl ?_
    refine RunC.skip ?_
    refine RunC.seq ?_
    obtain ⟨x1, hx4, h⟩ := olet_some h
    obtain ⟨e2, he5, h⟩ := obind_some h
    obtain ⟨x3, hx6, h⟩ := olet_some h
    obtain ⟨x4, hx7, h⟩ := olet_some h
    refine RunC.regionW ?_
    refine zm (r := i64 0) ?_
    refine zm (r := ik .u64 a0) ?_
    refine zl (r := ik .u8 x1) (LOp.eqr (LOp.i2i (src := 129) (dst := 5) ⟨_, pun129⟩ pun5 rfl rfl) (congrArg (ik .u8) hx4)) ?_
    refine zl (r := ik .u8 e2) (LOp.index_str und9 rfl rfl rfl he5) ?_
    refine zl (r := i64 x3) (LOp.eqr (LOp.i2i (src := 5) (dst := 3) ⟨_, pun5⟩ pun3 rfl rfl) (congrArg (ik .i64) hx6)) ?_
    refine zl (r := i64 x4) (LOp.eqr (LOp.add rfl rfl rfl) (congrArg (ik .i64) hx7)) ?_
    refine za (r := i64 x4) ?_
    refine zN ?_
    refine RunC.ret ?_
    have hq := Option.some.inj h
    subst q0
    exact bodyQ.pure (.inr rfl) rfl (Res.one rfl (RV.tmp rfl))
noncomputable def x_math_bits_Len (a0 : Int) : Option (Int) :=
 obind (x_math_bits_Len64 a0) fun (r1 : Int) =>
 some r1
theorem x_math_bits_Len_ok (a0 : Int) (q0 : Int) (h : x_math_bits_Len a0 = some q0) : Ev Try.prog 174 [ik .u64 a0] [] (i64 q0) [] := by
 refine Ev.start Try.func174 rfl rfl 0 (τ := [(0, ik .u64 a0)]) rfl (Γ' := []) rfl (n := 17) rfl (g := 0) rfl (fun _ => rfl) ?_
 unfold x_math_bits_Len at h
 refine zQ ?_
 refine za (r := i64 0) ?_
 refine zN ?_
 refine RunC.seq ?_
 refine RunC.cond_false rfl rfl ?_
 refine RunC.skip ?_
 refine RunC.seq ?_
 obtain ⟨r1, hf1, h⟩ := obind_some h
 refine RunC.regionW ?_
 refine zm (r := ik .u64 a0) ?_
 refine ROps.d (r := i64 r1) (fs := []) (Γ' := []) rfl rfl rfl (TOp.callB (CallAs.func ent187 rfl rfl) (Bors.cons (Bor.pure rfl) Bors.nil) rfl rfl (x_math_bits_Len64_ok a0 r1 hf1)) rfl ?_
 refine za (r := i64 r1) ?_
 refine zN ?_
 refine RunC.ret ?_
 have hq := Option.some.inj h
 subst q0
 exact bodyQ.pure (.inr rfl) rfl (Res.one rfl (RV.tmp rfl))
noncomputable def x_cmp_isNaN_int64 (a0 : Int) : Option (Bool) :=
 some (!decide (a0 = a0))
theorem x_cmp_isNaN_int64_ok (a0 : Int) (q0 : Bool) (h : x_cmp_isNaN_int64 a0 = some q0) : Ev Try.prog 193 [i64 a0] [] (b q0) [] := by
 refine Ev.start Try.func193 rfl rfl 0 (τ := [(0, i64 a0)]) rfl (Γ' := []) rfl (n := 13) rfl (g := 0) rfl (fun _ => rfl) ?_
 unfold x_cmp_isNaN_int64 at h
 refine zQ ?_
 refine za (r := b false) ?_
 refine zN ?_
 refine zQ ?_
 iterate 2 (refine zm (r := i64 a0) ?_)
 refine zl (r := b (!decide (a0 = a0))) (LOp.neq rfl rfl rfl) ?_
 refine za (r := b (!decide (a0 = a0))) ?_
 refine zN ?_
 refine RunC.ret ?_
 have hq := Option.some.inj h
 subst q0
 exact bodyQ.pure (.inr rfl) rfl (Res.one rfl (RV.tmp rfl))
noncomputable def x_cmp_Less_int64 (a0 : Int) (a1 : Int) : Option (Bool) :=
 obind (x_cmp_isNaN_int64 a0) fun (r1 : Bool) =>
 bsel r1 (
  obind (x_cmp_isNaN_int64 a1) fun (r2 : Bool) =>
  bsel r2 (
   some (decide (a0 < a1))) (
   some true)) (
  some (decide (a0 < a1)))
theorem x_cmp_Less_int64_ok (a0 : Int) (a1 : Int) (q0 : Bool) (h : x_cmp_Less_int64 a0 a1 = some q0) : Ev Try.prog 183 [i64 a0, i64 a1] [] (b q0) [] := by
 refine Ev.start Try.func183 rfl rfl 0 (τ := [(0, i64 a0), (1, i64 a1)]) rfl (Γ' := []) rfl (n := 35) rfl (g := 0) rfl (fun _ => rfl) ?_
 unfold x_cmp_Less_int64 at h
 refine zQ ?_
 refine za (r := b false) ?_
 refine zN ?_
 refine RunC.seq ?_
 obtain ⟨r1, hf1, h⟩ := obind_some h
 rcases bsel_some h with ⟨hc2, h⟩ | ⟨hc2, h⟩
 ·obtain ⟨r2, hf3, h⟩ := obind_some h
  rcases bsel_some h with ⟨hc4, h⟩ | ⟨hc4, h⟩
  ·refine RunC.regionW ?_
   refine zm (r := i64 a0) ?_
   refine ROps.d (r := b true) (fs := []) (Γ' := []) rfl rfl rfl (TOp.eqb (TOp.callB (CallAs.func ent193 rfl rfl) (Bors.cons (Bor.pure rfl) Bors.nil) rfl rfl (x_cmp_isNaN_int64_ok a0 r1 hf1)) hc2) rfl ?_
   refine zm (r := b true) ?_
   refine zm (r := i64 a1) ?_
   refine ROps.d (r := b true) (fs := []) (Γ' := []) rfl rfl rfl (TOp.eqb (TOp.callB (CallAs.func ent193 rfl rfl) (Bors.cons (Bor.pure rfl) Bors.nil) rfl rfl (x_cmp_isNaN_int64_ok a1 r2 hf3)) hc4) rfl ?_
   refine zl (r := b false) (LOp.eqb (LOp.not rfl rfl) rfl) ?_
   refine zl (r := b false) (LOp.pick_true rfl rfl rfl) ?_
   refine zm (r := b false) ?_
   refine zm (r := i64 a0) ?_
   refine zm (r := i64 a1) ?_
   refine zl (r := b (decide (a0 < a1))) (LOp.lss rfl rfl rfl) ?_
   refine zl (r := b (decide (a0 < a1))) (LOp.pick_false rfl rfl rfl) ?_
   refine za (r := b (decide (a0 < a1))) ?_
   refine zN ?_
   refine RunC.ret ?_
   have hq := Option.some.inj h
   subst q0
   exact bodyQ.pure (.inr rfl) rfl (Res.one rfl (RV.tmp rfl))
  ·refine RunC.regionW ?_
   refine zm (r := i64 a0) ?_
   refine ROps.d (r := b true) (fs := []) (Γ' := []) rfl rfl rfl (TOp.eqb (TOp.callB (CallAs.func ent193 rfl rfl) (Bors.cons (Bor.pure rfl) Bors.nil) rfl rfl (x_cmp_isNaN_int64_ok a0 r1 hf1)) hc2) rfl ?_
   refine zm (r := b true) ?_
   refine zm (r := i64 a1) ?_
   refine ROps.d (r := b false) (fs := []) (Γ' := []) rfl rfl rfl (TOp.eqb (TOp.callB (CallAs.func ent193 rfl rfl) (Bors.cons (Bor.pure rfl) Bors.nil) rfl rfl (x_cmp_isNaN_int64_ok a1 r2 hf3)) hc4) rfl ?_
   refine zl (r := b true) (LOp.eqb (LOp.not rfl rfl) rfl) ?_
   refine zl (r := b true) (LOp.pick_true rfl rfl rfl) ?_
   refine zm (r := b true) ?_
   iterate 3 (refine ROps.s rfl rfl rfl ?_)
   refine zl (r := b true) (LOp.pick_true rfl rfl rfl) ?_
   refine za (r := b true) ?_
   refine zN ?_
   refine RunC.ret ?_
   have hq := Option.some.inj h
   subst q0
   exact bodyQ.pure (.inr rfl) rfl (Res.one rfl (RV.tmp rfl))
 ·refine RunC.regionW ?_
  refine zm (r := i64 a0) ?_
  refine ROps.d (r := b false) (fs := []) (Γ' := []) rfl rfl rfl (TOp.eqb (TOp.callB (CallAs.func ent193 rfl rfl) (Bors.cons (Bor.pure rfl) Bors.nil) rfl rfl (x_cmp_isNaN_int64_ok a0 r1 hf1)) hc2) rfl ?_
  refine zm (r := b false) ?_
  iterate 3 (refine ROps.s rfl rfl rfl ?_)
  refine zl (r := b false) (LOp.pick_false rfl rfl rfl) ?_
  refine zm (r := b false) ?_
  refine zm (r := i64 a0) ?_
  refine zm (r := i64 a1) ?_
  refine zl (r := b (decide (a0 < a1))) (LOp.lss rfl rfl rfl) ?_
  refine zl (r := b (decide (a0 < a1))) (LOp.pick_false rfl rfl rfl) ?_
  refine za (r := b (decide (a0 < a1))) ?_
  refine zN ?_
  refine RunC.ret ?_
  have hq := Option.some.inj h
  subst q0
  exact bodyQ.pure (.inr rfl) rfl (Res.one rfl (RV.tmp rfl))
noncomputable def x_slices_insertionSortOrdered_int64_0o_b2 (a0 : Int) (L5 : List Int) (v7 : Int) : Option (LR ((List Int) × Int) ((List Int)) ((List Int))) :=
 bsel (decide (a0 < v7)) (
  obind (at? L5 v7) fun (e8 : Int) =>
  olet (IntKind.i64.wrap (v7 - 1)) fun (x9 : Int) =>
  obind (at? L5 x9) fun (e10 : Int) =>
  obind (x_cmp_Less_int64 e8 e10) fun (r11 : Bool) =>
  bsel r11 (
   olet (IntKind.i64.wrap (v7 - 1)) fun (x12 : Int) =>
   olet (IntKind.i64.wrap (v7 - 1)) fun (x13 : Int) =>
   obind (at? L5 x13) fun (e14 : Int) =>
   obind (at? L5 v7) fun (e15 : Int) =>
   obind (setAt? L5 v7 e14) fun (L16 : List Int) =>
   obind (setAt? L16 x12 e15) fun (L17 : List Int) =>
   olet (IntKind.i64.wrap (v7 - 1)) fun (x18 : Int) =>
   some (LR.next (L17, x18))) (
   some (LR.out L5))) (
  some (LR.out L5))
noncomputable def x_slices_insertionSortOrdered_int64_0o_s2 (a0 : Int) : ((List Int) × Int) → Option (LR ((List Int) × Int) ((List Int)) ((List Int))) := fun s => x_slices_insertionSortOrdered_int64_0o_b2 a0 s.1 s.2
noncomputable def x_slices_insertionSortOrdered_int64_0o_k2 (v4 : Int) (L19 : List Int) : Option (LR ((List Int) × Int) ((List Int)) ((List Int))) :=
 olet (IntKind.i64.wrap (v4 + 1)) fun (x21 : Int) =>
 some (LR.next (L19, x21))
noncomputable def x_slices_insertionSortOrdered_int64_0o_b3 (a0 : Int) (a1 : Int) (L2 : List Int) (v4 : Int) : Option (LR ((List Int) × Int) ((List Int)) ((List Int))) :=
 bsel (decide (v4 < a1)) (
  obind (loopM (x_slices_insertionSortOrdered_int64_0o_s2 a0) (L2, v4)) fun z => osum z (fun e => x_slices_insertionSortOrdered_int64_0o_k2 v4 e) (fun r => some (LR.ret r))) (
  some (LR.out L2))
noncomputable def x_slices_insertionSortOrdered_int64_0o_s3 (a0 : Int) (a1 : Int) : ((List Int) × Int) → Option (LR ((List Int) × Int) ((List Int)) ((List Int))) := fun s => x_slices_insertionSortOrdered_int64_0o_b3 a0 a1 s.1 s.2
noncomputable def x_slices_insertionSortOrdered_int64_0o_k3 (L22 : List Int) : Option ((List Int)) :=
 some L22
noncomputable def x_slices_insertionSortOrdered_int64_0o (a0 : Int) (a1 : Int) (a2 : List Int) : Option ((List Int)) :=
 olet (IntKind.i64.wrap (a0 + 1)) fun (x1 : Int) =>
 obind (loopM (x_slices_insertionSortOrdered_int64_0o_s3 a0 a1) (a2, x1)) fun z => osum z (fun e => x_slices_insertionSortOrdered_int64_0o_k3 e) (fun r => some r)
theorem x_slices_insertionSortOrdered_int64_0o_ok (a0 : Int) (a1 : Int) (a2 : List Int) (q0 : List Int) (h : x_slices_insertionSortOrdered_int64_0o a0 a1 a2 = some q0) : Ev Try.prog 177 [oref 0 0 0 a2.length, i64 a0, i64 a1] [⟨0, some (a2.map i64)⟩] (tup []) [⟨0, some (q0.map i64)⟩] := by
 refine Ev.start Try.func177 rfl rfl 0 (τ := [(0, oref 0 0 0 a2.length), (1, i64 a0), (2, i64 a1)]) rfl (Γ' := [⟨0, some (a2.map i64)⟩]) rfl (n := 98) rfl (g := 1) rfl (by decide) ?_
 unfold x_slices_insertionSortOrdered_int64_0o at h
 refine RunC.seq ?_
 obtain ⟨x1, hx1, h⟩ := olet_some h
 refine RunC.regionW ?_
 refine zm (r := i64 a0) ?_
 refine zl (r := i64 x1) (LOp.eqr (LOp.add rfl rfl rfl) (congrArg (ik .i64) hx1)) ?_
 refine za (r := i64 x1) ?_
 refine zN ?_
 obtain ⟨z4, hz_4, h⟩ := obind_some h
 refine RunC.cutN (fun τ Γ => ∃ (L22 : List Int), L22.length = a2.length ∧ WeakLe τ [] ∧ DeadLe Γ [⟨0, some (L22.map i64)⟩] ∧ z4 = .inl L22) ?_ ?_
 ·refine RunC.block (RunC.loop (RunL.loopM (x := z4) (x_slices_insertionSortOrdered_int64_0o_s3 a0 a1) (fun (s : (List Int) × Int) τ Γ => s.1.length = a2.length ∧ WeakLe τ [(0, oref 0 0 0 a2.length), (1, i64 a0), (2, i64 a1), (6, i64 s.2)] ∧ DeadLe Γ [⟨0, some (s.1.map i64)⟩]) ?_ _ _ _ hz_4 ⟨rfl, ⟨aR, aR, aR, aR, trivial⟩, ⟨⟨rfl, .inr rfl⟩, trivial⟩⟩))
  rintro ⟨L2, v4⟩ τ4 Γ4 y4_ ⟨hl3, hw4, hd4⟩ h4_ ho4 hr4
  refine RunC.wl (τ' := [(0, oref 0 0 0 a2.length), (1, i64 a0), (2, i64 a1), (6, i64 v4)]) (Γ' := [⟨0, some (L2.map i64)⟩]) hw4 hd4 ?_
  replace hl3 : L2.length = a2.length := hl3
  replace h4_ : x_slices_insertionSortOrdered_int64_0o_b3 a0 a1 L2 v4 = some y4_ := h4_
  unfold x_slices_insertionSortOrdered_int64_0o_b3 at h4_
  iterate 2 (refine RunC.seq ?_)
  rcases bsel_some h4_ with ⟨hc2, h4_⟩ | ⟨hc2, h4_⟩
  ·refine RunC.regionW ?_
   refine zm (r := i64 v4) ?_
   refine zm (r := i64 a1) ?_
   refine zl (r := b true) (LOp.eqb (LOp.lss rfl rfl rfl) hc2) ?_
   refine zN ?_
   refine RunC.cond_true rfl rfl ?_
   refine RunC.skip ?_
   refine RunC.seq ?_
   refine RunC.block ?_
   refine zQ ?_
   refine zm (r := i64 v4) ?_
   refine za (r := i64 v4) ?_
   refine zN ?_
   obtain ⟨z5, hz_5, h4_⟩ := obind_some h4_
   refine RunC.cutN (fun τ Γ => ∃ (L19 : List Int), L19.length = a2.length ∧ WeakLe τ [(0, oref 0 0 0 a2.length), (1, i64 a0), (2, i64 a1), (6, i64 v4)] ∧ DeadLe Γ [⟨0, some (L19.map i64)⟩] ∧ z5 = .inl L19) ?_ ?_
   ·refine RunC.block (RunC.loop (RunL.loopM (x := z5) (x_slices_insertionSortOrdered_int64_0o_s2 a0) (fun (s : (List Int) × Int) τ Γ => s.1.length = a2.length ∧ WeakLe τ [(0, oref 0 0 0 a2.length), (1, i64 a0), (2, i64 a1), (6, i64 v4), (7, i64 s.2)] ∧ DeadLe Γ [⟨0, some (s.1.map i64)⟩]) ?_ _ _ _ hz_5 ⟨hl3, ⟨aR, aR, aR, aR, aR, trivial⟩, ⟨⟨rfl, .inr rfl⟩, trivial⟩⟩))
    rintro ⟨L5, v7⟩ τ5 Γ5 y5_ ⟨hl6, hw5, hd5⟩ h5_ ho5 hr5
    refine RunC.wl (τ' := [(0, oref 0 0 0 a2.length), (1, i64 a0), (2, i64 a1), (6, i64 v4), (7, i64 v7)]) (Γ' := [⟨0, some (L5.map i64)⟩]) hw5 hd5 ?_
    replace hl6 : L5.length = a2.length := hl6
    replace h5_ : x_slices_insertionSortOrdered_int64_0o_b2 a0 L5 v7 = some y5_ := h5_
    unfold x_slices_insertionSortOrdered_int64_0o_b2 at h5_
    iterate 2 (refine RunC.seq ?_)
    rcases bsel_some h5_ with ⟨hc3, h5_⟩ | ⟨hc3, h5_⟩
    ·obtain ⟨e8, he4, h5_⟩ := obind_some h5_
     obtain ⟨x9, hx5, h5_⟩ := olet_some h5_
     obtain ⟨e10, he6, h5_⟩ := obind_some h5_
     obtain ⟨r11, hf7, h5_⟩ := obind_some h5_
     rcases bsel_some h5_ with ⟨hc8, h5_⟩ | ⟨hc8, h5_⟩
     ·refine RunC.region_draw (Γ' := [⟨0, some (L5.map i64)⟩]) 15 mixed 
       (TR.l (r := i64 v7) rfl rfl (LOp.move rfl rfl) <|
       (TR.l (r := i64 a0) rfl rfl (LOp.move rfl rfl) <|
       (TR.l (r := b true) rfl rfl (LOp.eqb (LOp.gtr rfl rfl rfl) hc3) <|
       (TR.l (r := b true) rfl rfl (LOp.move rfl rfl) <|
       (TR.l (r := oref 0 0 0 a2.length) rfl rfl (LOp.move rfl rfl) <|
       (TR.l (r := i64 v7) rfl rfl (LOp.move rfl rfl) <|
       (TR.d (r := optr 0 0 v7.toNat) (fs := []) rfl rfl (TOp.ixo und44 siz2 rfl rfl rfl (at_in he4 hl6) rfl) <|
       (TR.d (r := i64 e8) (fs := []) rfl rfl (TOp.load1_o rfl (at_cell he4) agg2 rfl rfl) <|
       (TR.l (r := oref 0 0 0 a2.length) rfl rfl (LOp.move rfl rfl) <|
       (TR.l (r := i64 v7) rfl rfl (LOp.move rfl rfl) <|
       (TR.l (r := i64 x9) rfl rfl (LOp.eqr (LOp.sub rfl rfl rfl) (congrArg (ik .i64) hx5)) <|
       (TR.d (r := optr 0 0 x9.toNat) (fs := []) rfl rfl (TOp.ixo und44 siz2 rfl rfl rfl (at_in he6 hl6) rfl) <|
       (TR.d (r := i64 e10) (fs := []) rfl rfl (TOp.load1_o rfl (at_cell he6) agg2 rfl rfl) <|
       (TR.d (r := b true) (fs := []) rfl rfl (TOp.eqb (TOp.callB (CallAs.func ent183 rfl rfl) (Bors.cons (Bor.pure rfl) (Bors.cons (Bor.pure rfl) Bors.nil)) rfl rfl (x_cmp_Less_int64_ok e8 e10 r11 hf7)) hc8) <|
       (TR.l (r := b true) rfl rfl (LOp.pick_true rfl rfl rfl) <|
       TR.nil))))))))))))))) rfl (by kernel_rfl) rfl fills_nil rfl ?_
      iterate 15 refine ROps.dropS ?_
      refine ROps.drop0 ?_
      refine zN ?_
      refine RunC.cond_true rfl rfl ?_
      refine RunC.skip ?_
      refine RunC.seq ?_
      refine RunC.block ?_
      obtain ⟨x12, hx9, h5_⟩ := olet_some h5_
      obtain ⟨x13, hx10, h5_⟩ := olet_some h5_
      obtain ⟨e14, he11, h5_⟩ := obind_some h5_
      obtain ⟨e15, he12, h5_⟩ := obind_some h5_
      obtain ⟨L16, he13, h5_⟩ := obind_some h5_
      obtain ⟨L17, he14, h5_⟩ := obind_some h5_
      refine RunC.region_draw (Γ' := [⟨0, some (L5.map i64)⟩]) 15 mixed 
       (TR.l (r := oref 0 0 0 a2.length) rfl rfl (LOp.move rfl rfl) <|
       (TR.l (r := i64 v7) rfl rfl (LOp.move rfl rfl) <|
       (TR.loose (r := oref 0 0 0 a2.length) rfl rfl (LOp.move rfl rfl) <|
       (TR.loose (r := i64 v7) rfl rfl (LOp.move rfl rfl) <|
       (TR.loose (r := i64 x12) rfl rfl (LOp.eqr (LOp.sub rfl rfl rfl) (congrArg (ik .i64) hx9)) <|
       (TR.l (r := oref 0 0 0 a2.length) rfl rfl (LOp.move rfl rfl) <|
       (TR.l (r := i64 v7) rfl rfl (LOp.move rfl rfl) <|
       (TR.l (r := i64 x13) rfl rfl (LOp.eqr (LOp.sub rfl rfl rfl) (congrArg (ik .i64) hx10)) <|
       (TR.d (r := optr 0 0 x13.toNat) (fs := []) rfl rfl (TOp.ixo und44 siz2 rfl rfl rfl (at_in he11 hl6) rfl) <|
       (TR.d (r := i64 e14) (fs := []) rfl rfl (TOp.load1_o rfl (at_cell he11) agg2 rfl rfl) <|
       (TR.l (r := oref 0 0 0 a2.length) rfl rfl (LOp.move rfl rfl) <|
       (TR.l (r := i64 v7) rfl rfl (LOp.move rfl rfl) <|
       (TR.d (r := optr 0 0 v7.toNat) (fs := []) rfl rfl (TOp.ixo und44 siz2 rfl rfl rfl (at_in he12 hl6) rfl) <|
       (TR.d (r := i64 e15) (fs := []) rfl rfl (TOp.load1_o rfl (at_cell he12) agg2 rfl rfl) <|
       (TR.d (r := optr 0 0 v7.toNat) (fs := []) rfl rfl (TOp.ixo und44 siz2 rfl rfl rfl (set_in he13 hl6) rfl) <|
       TR.nil))))))))))))))) rfl (by kernel_rfl) rfl fills_nil rfl ?_
      iterate 15 refine ROps.dropS ?_
      refine ROps.drop0 ?_
      refine ROps.st (f := i64) (i := v7) (Γ' := [⟨0, some (L16.map i64)⟩]) rfl siz2 rfl rfl rfl aR rfl rfl rfl he13 rfl ?_
      refine ROps.d (r := optr 0 0 x12.toNat) (fs := []) (Γ' := [⟨0, some (L16.map i64)⟩]) rfl rfl rfl (TOp.ixo und44 siz2 rfl rfl rfl (set_in he14 ((setAt?_len he13).trans hl6)) rfl) rfl ?_
      refine ROps.st (f := i64) (i := x12) (Γ' := [⟨0, some (L17.map i64)⟩]) rfl siz2 rfl rfl rfl aR rfl rfl rfl he14 rfl ?_
      refine zN ?_
      refine RunC.wl (τ' := [(0, oref 0 0 0 a2.length), (1, i64 a0), (2, i64 a1), (6, i64 v4), (7, i64 v7), (20, oref 0 0 0 a2.length), (21, i64 v7), (22, optr 0 0 v7.toNat), (23, i64 e8), (24, oref 0 0 0 a2.length), (25, i64 v7), (26, i64 x9), (27, optr 0 0 x9.toNat), (28, i64 e10), (29, b true)]) (Γ' := [⟨0, some (L17.map i64)⟩]) ⟨aR, aR, aR, aR, aR, aR, aR, aR, aR, aR, aR, aR, aR, aR, aR, trivial⟩ ⟨⟨rfl, .inr rfl⟩, trivial⟩ ?_
      obtain ⟨x18, hx15, h5_⟩ := olet_some h5_
      refine RunC.regionW ?_
      refine zm (r := i64 v7) ?_
      refine zl (r := i64 x18) (LOp.eqr (LOp.sub rfl rfl rfl) (congrArg (ik .i64) hx15)) ?_
      refine za (r := i64 x18) ?_
      refine zN ?_
      cases Option.some.inj h5_
      exact ⟨_, rfl, ((setAt?_len he14).trans ((setAt?_len he13).trans hl6)), ⟨aR, aR, aR, aR, aR, trivial⟩, ⟨⟨rfl, .inr rfl⟩, trivial⟩⟩
     ·refine RunC.region_draw (Γ' := [⟨0, some (L5.map i64)⟩]) 15 mixed 
       (TR.l (r := i64 v7) rfl rfl (LOp.move rfl rfl) <|
       (TR.l (r := i64 a0) rfl rfl (LOp.move rfl rfl) <|
       (TR.l (r := b true) rfl rfl (LOp.eqb (LOp.gtr rfl rfl rfl) hc3) <|
       (TR.l (r := b true) rfl rfl (LOp.move rfl rfl) <|
       (TR.l (r := oref 0 0 0 a2.length) rfl rfl (LOp.move rfl rfl) <|
       (TR.l (r := i64 v7) rfl rfl (LOp.move rfl rfl) <|
       (TR.d (r := optr 0 0 v7.toNat) (fs := []) rfl rfl (TOp.ixo und44 siz2 rfl rfl rfl (at_in he4 hl6) rfl) <|
       (TR.d (r := i64 e8) (fs := []) rfl rfl (TOp.load1_o rfl (at_cell he4) agg2 rfl rfl) <|
       (TR.l (r := oref 0 0 0 a2.length) rfl rfl (LOp.move rfl rfl) <|
       (TR.l (r := i64 v7) rfl rfl (LOp.move rfl rfl) <|
       (TR.l (r := i64 x9) rfl rfl (LOp.eqr (LOp.sub rfl rfl rfl) (congrArg (ik .i64) hx5)) <|
       (TR.d (r := optr 0 0 x9.toNat) (fs := []) rfl rfl (TOp.ixo und44 siz2 rfl rfl rfl (at_in he6 hl6) rfl) <|
       (TR.d (r := i64 e10) (fs := []) rfl rfl (TOp.load1_o rfl (at_cell he6) agg2 rfl rfl) <|
       (TR.d (r := b false) (fs := []) rfl rfl (TOp.eqb (TOp.callB (CallAs.func ent183 rfl rfl) (Bors.cons (Bor.pure rfl) (Bors.cons (Bor.pure rfl) Bors.nil)) rfl rfl (x_cmp_Less_int64_ok e8 e10 r11 hf7)) hc8) <|
       (TR.l (r := b false) rfl rfl (LOp.pick_true rfl rfl rfl) <|
       TR.nil))))))))))))))) rfl (by kernel_rfl) rfl fills_nil rfl ?_
      iterate 15 refine ROps.dropS ?_
      refine ROps.drop0 ?_
      refine zN ?_
      refine RunC.cond_false rfl rfl ?_
      refine RunC.exit ?_
      cases Option.some.inj h5_
      have hx := ho5 _ rfl
      exact ⟨L5, hl6, ⟨aR, aR, aR, aR, trivial⟩, ⟨⟨rfl, .inr rfl⟩, trivial⟩, hx⟩
    ·refine RunC.region_draw (Γ' := [⟨0, some (L5.map i64)⟩]) 15 mixed 
      (TR.l (r := i64 v7) rfl rfl (LOp.move rfl rfl) <|
      (TR.l (r := i64 a0) rfl rfl (LOp.move rfl rfl) <|
      (TR.l (r := b false) rfl rfl (LOp.eqb (LOp.gtr rfl rfl rfl) hc3) <|
      (TR.l (r := b false) rfl rfl (LOp.move rfl rfl) <|
      (TR.s rfl rfl <|
      (TR.s rfl rfl <|
      (TR.s rfl rfl <|
      (TR.s rfl rfl <|
      (TR.s rfl rfl <|
      (TR.s rfl rfl <|
      (TR.s rfl rfl <|
      (TR.s rfl rfl <|
      (TR.s rfl rfl <|
      (TR.s rfl rfl <|
      (TR.l (r := b false) rfl rfl (LOp.pick_false rfl rfl rfl) <|
      TR.nil))))))))))))))) rfl (by kernel_rfl) rfl fills_nil rfl ?_
     iterate 15 refine ROps.dropS ?_
     refine ROps.drop0 ?_
     refine zN ?_
     refine RunC.cond_false rfl rfl ?_
     refine RunC.exit ?_
     cases Option.some.inj h5_
     have hx := ho5 _ rfl
     exact ⟨L5, hl6, ⟨aR, aR, aR, aR, trivial⟩, ⟨⟨rfl, .inr rfl⟩, trivial⟩, hx⟩
   ·rintro τ6 Γ6 ⟨L19, hl20, hw6, hd6, rfl⟩
    refine RunC.wl hw6 hd6 ?_
    replace h4_ : x_slices_insertionSortOrdered_int64_0o_k2 v4 L19 = some y4_ := h4_
    unfold x_slices_insertionSortOrdered_int64_0o_k2 at h4_
    obtain ⟨x21, hx16, h4_⟩ := olet_some h4_
    refine RunC.regionW ?_
    refine zm (r := i64 v4) ?_
    refine zl (r := i64 x21) (LOp.eqr (LOp.add rfl rfl rfl) (congrArg (ik .i64) hx16)) ?_
    refine za (r := i64 x21) ?_
    refine zN ?_
    cases Option.some.inj h4_
    exact ⟨_, rfl, hl20, ⟨aR, aR, aR, aR, trivial⟩, ⟨⟨rfl, .inr rfl⟩, trivial⟩⟩
  ·refine RunC.regionW ?_
   refine zm (r := i64 v4) ?_
   refine zm (r := i64 a1) ?_
   refine zl (r := b false) (LOp.eqb (LOp.lss rfl rfl rfl) hc2) ?_
   refine zN ?_
   refine RunC.cond_false rfl rfl ?_
   refine RunC.exit ?_
   cases Option.some.inj h4_
   have hx := ho4 _ rfl
   exact ⟨L2, hl3, trivial, ⟨⟨rfl, .inr rfl⟩, trivial⟩, hx⟩
 ·rintro τ7 Γ7 ⟨L22, hl23, hw7, hd7, rfl⟩
  replace h : x_slices_insertionSortOrdered_int64_0o_k3 L22 = some q0 := h
  unfold x_slices_insertionSortOrdered_int64_0o_k3 at h
  refine bodyQ.wl hw7 hd7 ?_
  have hq := Option.some.inj h
  subst q0
  exact bodyQ.mk (r' := tup []) [(0, 0)] (.inl rfl) rfl (show List.Nodup [0] from by decide) rfl rfl (Res.zero rfl) (SelL.arr (f := i64) (fun _ => rfl) rfl trivial)
noncomputable def x_slices_pdqsortOrdered_int64_0o_b1 (a0 : Int) (a1 : Int) (a2 : Int) (a3 : List Int) : Option (LR (Unit) (Unit) ((List Int))) :=
 olet (IntKind.i64.wrap (a1 - a0)) fun (x1 : Int) =>
 bsel (decide (x1 ≤ 12)) (
  obind (x_slices_insertionSortOrdered_int64_0o a0 a1 a3) fun (r2 : List Int) =>
  need (decide (r2.length = a3.length)) <|
  some (LR.ret r2)) (
  bsel (decide (a2 = 0)) (
   none) (
   none))
noncomputable def x_slices_pdqsortOrdered_int64_0o_s1 (a0 : Int) (a1 : Int) (a2 : Int) (a3 : List Int) : (Unit) → Option (LR (Unit) (Unit) ((List Int))) := fun s => x_slices_pdqsortOrdered_int64_0o_b1 a0 a1 a2 a3
noncomputable def x_slices_pdqsortOrdered_int64_0o (a0 : Int) (a1 : Int) (a2 : Int) (a3 : List Int) : Option ((List Int)) :=
 obind (loopM (x_slices_pdqsortOrdered_int64_0o_s1 a0 a1 a2 a3) ()) fun z => osum z (fun _ => none) (fun r => some r)
theorem x_slices_pdqsortOrdered_int64_0o_ok (a0 : Int) (a1 : Int) (a2 : Int) (a3 : List Int) (q0 : List Int) (h : x_slices_pdqsortOrdered_int64_0o a0 a1 a2 a3 = some q0) : Ev Try.prog 173 [oref 0 0 0 a3.length, i64 a0, i64 a1, i64 a2] [⟨0, some (a3.map i64)⟩] (tup []) [⟨0, some (q0.map i64)⟩] := by
 refine Ev.start Try.func173 rfl rfl 0 (τ := [(0, oref 0 0 0 a3.length), (1, i64 a0), (2, i64 a1), (3, i64 a2)]) rfl (Γ' := [⟨0, some (a3.map i64)⟩]) rfl (n := 268) rfl (g := 1) rfl (by decide) ?_
 unfold x_slices_pdqsortOrdered_int64_0o at h
 iterate 2 (refine zQ ?_; refine za (r := b true) ?_; refine zN ?_)
 obtain ⟨z2, hz_2, h⟩ := obind_some h
 refine RunC.block (RunC.loop (RunL.loopM (x := z2) (x_slices_pdqsortOrdered_int64_0o_s1 a0 a1 a2 a3) (fun (s : Unit) τ Γ => WeakLe τ [(0, oref 0 0 0 a3.length), (1, i64 a0), (2, i64 a1), (3, i64 a2), (8, b true), (9, b true)] ∧ DeadLe Γ [⟨0, some (a3.map i64)⟩]) ?_ _ _ _ hz_2 ⟨⟨aR, aR, aR, aR, aR, aR, trivial⟩, ⟨⟨rfl, .inr rfl⟩, trivial⟩⟩))
 rintro ⟨⟩ τ2 Γ2 y2_ ⟨hw2, hd2⟩ h2_ ho2 hr2
 refine RunC.wl (τ' := [(0, oref 0 0 0 a3.length), (1, i64 a0), (2, i64 a1), (3, i64 a2), (8, b true), (9, b true)]) (Γ' := [⟨0, some (a3.map i64)⟩]) hw2 hd2 ?_
 replace h2_ : x_slices_pdqsortOrdered_int64_0o_b1 a0 a1 a2 a3 = some y2_ := h2_
 unfold x_slices_pdqsortOrdered_int64_0o_b1 at h2_
 refine RunC.block ?_
 refine RunC.seq ?_
 obtain ⟨x1, hx1, h2_⟩ := olet_some h2_
 refine RunC.regionW ?_
 refine zm (r := i64 a1) ?_
 refine zm (r := i64 a0) ?_
 refine zl (r := i64 x1) (LOp.eqr (LOp.sub rfl rfl rfl) (congrArg (ik .i64) hx1)) ?_
 refine za (r := i64 x1) ?_
 refine zN ?_
 iterate 2 (refine RunC.seq ?_)
 rcases bsel_some h2_ with ⟨hc2, h2_⟩ | ⟨hc2, h2_⟩
 ·refine RunC.regionW ?_
  refine zm (r := i64 x1) ?_
  refine zl (r := b true) (LOp.eqb (LOp.leq rfl rfl rfl) hc2) ?_
  refine zN ?_
  refine RunC.cond_true rfl rfl ?_
  refine RunC.seq ?_
  obtain ⟨r2, hf3, h2_⟩ := obind_some h2_
  obtain ⟨hn4, h2_⟩ := need_some h2_
  refine RunC.regionW ?_
  refine zm (r := oref 0 0 0 a3.length) ?_
  refine zm (r := i64 a0) ?_
  refine zm (r := i64 a1) ?_
  refine ROps.callO (A := [oref 0 0 0 a3.length, i64 a0, i64 a1]) (args := [oref 0 0 0 a3.length, i64 a0, i64 a1]) (Γc := [⟨0, some (a3.map i64)⟩]) (Γc' := [⟨0, some (r2.map i64)⟩]) (r' := tup []) (Γ' := [⟨0, some (r2.map i64)⟩]) [(0, 0)] [] rfl (CallAs.func ent177 rfl rfl) rfl rfl (SelOk.of (show List.Nodup [0] from by decide) (SelL.arr0 (f := i64) (fun _ => rfl) rfl trivial)) (live_of ⟨⟨_, _, rfl⟩, trivial⟩) (by simp [ren, rens, sigma, rens_f32, rens_f64, rens_i64, rens_ik, rens_str, rens_cp]) rfl (x_slices_insertionSortOrdered_int64_0o_ok a0 a1 a3 r2 hf3) rfl (news_of trivial) (show List.Nodup [0] from by decide) (by simp [ren, rens, sigma, of_decide_eq_true hn4]) (by simp [backOb, sigma, ren, rens, rens_f32, rens_f64, rens_i64, rens_ik, rens_str, rens_cp]) ?_
  refine zN ?_
  refine RunC.ret ?_
  cases Option.some.inj h2_
  have hx3_ := hr2 _ rfl
  subst hx3_
  have hq := Option.some.inj h
  subst q0
  exact bodyQ.mk (r' := tup []) [(0, 0)] (.inr rfl) rfl (show List.Nodup [0] from by decide) rfl rfl (Res.zero rfl) (SelL.arr (f := i64) (fun _ => rfl) rfl trivial)
 ·refine RunC.regionW ?_
  refine zm (r := i64 x1) ?_
  refine zl (r := b false) (LOp.eqb (LOp.leq rfl rfl rfl) hc2) ?_
  refine zN ?_
  refine RunC.cond_false rfl rfl ?_
  refine RunC.skip ?_
  iterate 2 (refine RunC.seq ?_)
  rcases bsel_some h2_ with ⟨hc5, h2_⟩ | ⟨hc5, h2_⟩
  ·refine RunC.regionW ?_
   refine zm (r := i64 a2) ?_
   refine zl (r := b true) (LOp.eqb (LOp.eql rfl rfl rfl) hc5) ?_
   refine zN ?_
   refine RunC.cond_true rfl rfl ?_
   refine RunC.seq ?_
   cases h2_
  ·refine RunC.regionW ?_
   refine zm (r := i64 a2) ?_
   refine zl (r := b false) (LOp.eqb (LOp.eql rfl rfl rfl) hc5) ?_
   refine zN ?_
   refine RunC.cond_false rfl rfl ?_
   refine RunC.skip ?_
   refine RunC.seq ?_
   refine zQ ?_
   refine zm (r := b true) ?_
   refine zl (r := b false) (LOp.eqb (LOp.not rfl rfl) rfl) ?_
   refine zN ?_
   refine RunC.cond_false rfl rfl ?_
   refine RunC.skip ?_
   refine RunC.seq ?_
   cases h2_
noncomputable def x_slices_Sort_int64_int64_0o (a0 : List Int) : Option ((List Int)) :=
 olet (IntKind.u64.wrap ((a0.length : Nat) : Int)) fun (x1 : Int) =>
 obind (x_math_bits_Len x1) fun (r2 : Int) =>
 obind (x_slices_pdqsortOrdered_int64_0o 0 ((a0.length : Nat) : Int) r2 a0) fun (r3 : List Int) =>
 need (decide (r3.length = a0.length)) <|
 some r3
theorem x_slices_Sort_int64_int64_0o_ok (a0 : List Int) (q0 : List Int) (h : x_slices_Sort_int64_int64_0o a0 = some q0) : Ev Try.prog 168 [oref 0 0 0 a0.length] [⟨0, some (a0.map i64)⟩] (tup []) [⟨0, some (q0.map i64)⟩] := by
 refine Ev.start Try.func168 rfl rfl 0 (τ := [(0, oref 0 0 0 a0.length)]) rfl (Γ' := [⟨0, some (a0.map i64)⟩]) rfl (n := 22) rfl (g := 1) rfl (by decide) ?_
 unfold x_slices_Sort_int64_int64_0o at h
 refine zQ ?_
 refine zm (r := oref 0 0 0 a0.length) ?_
 refine zl (r := i64 ((a0.length : Nat) : Int)) (LOp.len_oref und44 rfl rfl) ?_
 refine za (r := i64 ((a0.length : Nat) : Int)) ?_
 refine zN ?_
 obtain ⟨x1, hx1, h⟩ := olet_some h
 obtain ⟨r2, hf2, h⟩ := obind_some h
 obtain ⟨r3, hf3, h⟩ := obind_some h
 obtain ⟨hn4, h⟩ := need_some h
 refine RunC.regionW ?_
 refine zm (r := oref 0 0 0 a0.length) ?_
 iterate 2 (refine zm (r := i64 ((a0.length : Nat) : Int)) ?_)
 refine zl (r := ik .u64 x1) (LOp.eqr (LOp.i2i (src := 3) (dst := 159) ⟨_, pun3⟩ pun159 rfl rfl) (congrArg (ik .u64) hx1)) ?_
 refine ROps.d (r := i64 r2) (fs := []) (Γ' := [⟨0, some (a0.map i64)⟩]) rfl rfl rfl (TOp.callB (CallAs.func ent174 rfl rfl) (Bors.cons (Bor.pure rfl) Bors.nil) rfl rfl (x_math_bits_Len_ok x1 r2 hf2)) rfl ?_
 refine ROps.callO (A := [oref 0 0 0 a0.length, i64 0, i64 ((a0.length : Nat) : Int), i64 r2]) (args := [oref 0 0 0 a0.length, i64 0, i64 ((a0.length : Nat) : Int), i64 r2]) (Γc := [⟨0, some (a0.map i64)⟩]) (Γc' := [⟨0, some (r3.map i64)⟩]) (r' := tup []) (Γ' := [⟨0, some (r3.map i64)⟩]) [(0, 0)] [] rfl (CallAs.func ent173 rfl rfl) rfl rfl (SelOk.of (show List.Nodup [0] from by decide) (SelL.arr0 (f := i64) (fun _ => rfl) rfl trivial)) (live_of ⟨⟨_, _, rfl⟩, trivial⟩) (by simp [ren, rens, sigma, rens_f32, rens_f64, rens_i64, rens_ik, rens_str, rens_cp]) rfl (x_slices_pdqsortOrdered_int64_0o_ok 0 ((a0.length : Nat) : Int) r2 a0 r3 hf3) rfl (news_of trivial) (show List.Nodup [0] from by decide) (by simp [ren, rens, sigma, of_decide_eq_true hn4]) (by simp [backOb, sigma, ren, rens, rens_f32, rens_f64, rens_i64, rens_ik, rens_str, rens_cp]) ?_
 refine zN ?_
 have hq := Option.some.inj h
 subst q0
 exact bodyQ.mk (r' := tup []) [(0, 0)] (.inl rfl) rfl (show List.Nodup [0] from by decide) rfl rfl (Res.zero rfl) (SelL.arr (f := i64) (fun _ => rfl) rfl trivial)
noncomputable def x_slices_Sorted_int64_0Fx_slices_Values_int64_int64_1 (a0 : List Int) : Option ((List Int)) :=
 obind (x_slices_Collect_int64_0Fx_slices_Values_int64_int64_1 a0) fun (r1 : List Int) =>
 obind (x_slices_Sort_int64_int64_0o r1) fun (r2 : List Int) =>
 need (decide (r2.length = r1.length)) <|
 some r2
theorem x_slices_Sorted_int64_0Fx_slices_Values_int64_int64_1_ok (a0 : List Int) (q0 : List Int) (h : x_slices_Sorted_int64_0Fx_slices_Values_int64_int64_1 a0 = some q0) : Ev Try.prog 157 [fn (.func 169) [] [ptr [sl a0.length (a0.map i64)]]] [] (oref 0 0 0 q0.length) [⟨0, some (q0.map i64)⟩] := by
 refine Ev.start Try.func157 rfl rfl 1 (τ := [(0, fn (.func 169) [] [ptr [sl a0.length (a0.map i64)]])]) rfl (Γ' := [⟨0, none⟩]) rfl (n := 19) rfl (g := 0) rfl (fun _ => rfl) ?_
 unfold x_slices_Sorted_int64_0Fx_slices_Values_int64_int64_1 at h
 refine zQ ?_
 refine za (r := nilsl) ?_
 refine zN ?_
 refine RunC.seq ?_
 obtain ⟨r1, hf1, h⟩ := obind_some h
 refine RunC.regionW ?_
 refine zm (r := fn (.func 169) [] [ptr [sl a0.length (a0.map i64)]]) ?_
 refine ROps.d (r := oref 0 1 0 r1.length) (fs := [(0, (r1.map i64))]) (Γ' := [⟨1, some (r1.map i64)⟩]) rfl rfl rfl (TOp.callBN (ls := [(r1.map i64)]) [0] (CallAs.func ent167 rfl rfl) (Bors.cons (Bor.fn Bors.nil (Bors.cons (Bor.ptr (Bors.cons (Bor.sl (fun _ => rfl)) Bors.nil)) Bors.nil)) Bors.nil) rfl (x_slices_Collect_int64_0Fx_slices_Values_int64_int64_1_ok a0 r1 hf1) (and_all (lts0_map (f := i64) (fun _ => rfl) _) rfl) (and_all (noss_map (f := i64) (fun _ => rfl) _) rfl) rfl (by decide) (ns_of ⟨⟨_, rfl⟩, trivial⟩)) rfl ?_
 refine za (r := oref 0 1 0 r1.length) ?_
 refine zN ?_
 refine RunC.seq ?_
 obtain ⟨r2, hf2, h⟩ := obind_some h
 obtain ⟨hn3, h⟩ := need_some h
 refine RunC.regionW ?_
 refine zm (r := oref 0 1 0 r1.length) ?_
 refine ROps.callO (A := [oref 0 1 0 r1.length]) (args := [oref 0 0 0 r1.length]) (Γc := [⟨0, some (r1.map i64)⟩]) (Γc' := [⟨0, some (r2.map i64)⟩]) (r' := tup []) (Γ' := [⟨1, some (r2.map i64)⟩]) [(0, 1)] [] rfl (CallAs.func ent168 rfl rfl) rfl rfl (SelOk.of (show List.Nodup [0] from by decide) (SelL.arr0 (f := i64) (fun _ => rfl) rfl trivial)) (live_of ⟨⟨_, _, rfl⟩, trivial⟩) (by simp [ren, rens, sigma, rens_f32, rens_f64, rens_i64, rens_ik, rens_str, rens_cp]) rfl (x_slices_Sort_int64_int64_0o_ok r1 r2 hf2) rfl (news_of trivial) (show List.Nodup [0] from by decide) (by simp [ren, rens, sigma, of_decide_eq_true hn3]) (by simp [backOb, sigma, ren, rens, rens_f32, rens_f64, rens_i64, rens_ik, rens_str, rens_cp]) ?_
 refine zN ?_
 refine zQ ?_
 refine zm (r := oref 0 1 0 r1.length) ?_
 refine za (r := oref 0 1 0 r1.length) ?_
 refine zN ?_
 refine RunC.ret ?_
 have hq := Option.some.inj h
 subst q0
 exact bodyQ.mk (r' := oref 0 1 0 r2.length) [(0, 1)] (.inr rfl) rfl (show List.Nodup [0] from by decide) rfl rfl (Res.eq (Res.one rfl (RV.tmp rfl)) (by rw [(show r2.length = r1.length from (of_decide_eq_true hn3))] <;> rfl)) (SelL.arr0 (f := i64) (fun _ => rfl) rfl trivial)
noncomputable def i_isPermutation_b1 (r2 : List Int) (v3 : Int) : Option (LR (Int) (Unit) (Bool)) :=
 bsel (decide (v3 < ((r2.length : Nat) : Int))) (
  obind (at? r2 v3) fun (e4 : Int) =>
  bsel (!decide (e4 = v3)) (
   some (LR.ret false)) (
   olet (IntKind.i64.wrap (v3 + 1)) fun (x5 : Int) =>
   some (LR.next x5))) (
  some (LR.out ()))
noncomputable def i_isPermutation_s1 (r2 : List Int) : (Int) → Option (LR (Int) (Unit) (Bool)) := fun s => i_isPermutation_b1 r2 s
noncomputable def i_isPermutation_k1  : Option (Bool) :=
 some true
noncomputable def i_isPermutation (a0 : List Int) : Option (Bool) :=
 obind (x_slices_Values_int64_int64 a0) fun (r1 : List Int) =>
 obind (x_slices_Sorted_int64_0Fx_slices_Values_int64_int64_1 r1) fun (r2 : List Int) =>
 obind (loopM (i_isPermutation_s1 r2) 0) fun z => osum z (fun _ => i_isPermutation_k1) (fun r => some r)
theorem i_isPermutation_ok (a0 : List Int) (q0 : Bool) (h : i_isPermutation a0 = some q0) : Ev Try.prog 115 [sl a0.length (a0.map i64)] [] (b q0) [] := by
 refine Ev.start Try.func115 rfl rfl 1 (τ := [(0, sl a0.length (a0.map i64))]) rfl (Γ' := [⟨0, none⟩]) rfl (n := 37) rfl (g := 0) rfl (fun _ => rfl) ?_
 unfold i_isPermutation at h
 refine zQ ?_
 refine za (r := b false) ?_
 refine zN ?_
 iterate 2 (refine RunC.seq ?_)
 obtain ⟨r1, hf1, h⟩ := obind_some h
 obtain ⟨r2, hf2, h⟩ := obind_some h
 refine RunC.regionW ?_
 refine zm (r := sl a0.length (a0.map i64)) ?_
 refine ROps.d (r := fn (.func 169) [] [ptr [sl r1.length (r1.map i64)]]) (fs := []) (Γ' := [⟨0, none⟩]) rfl rfl rfl (TOp.call (CallAs.func ent158 rfl rfl) (lts_cons (lt_sl (fun _ => rfl)) lts_nil) (lt_fn lts_nil (lts_cons (lt_ptr (lts_cons (lt_sl (fun _ => rfl)) lts_nil)) lts_nil)) (x_slices_Values_int64_int64_ok a0 r1 hf1)) rfl ?_
 refine ROps.d (r := oref 0 1 0 r2.length) (fs := [(0, (r2.map i64))]) (Γ' := [⟨1, some (r2.map i64)⟩]) rfl rfl rfl (TOp.callBN (ls := [(r2.map i64)]) [0] (CallAs.func ent157 rfl rfl) (Bors.cons (Bor.fn Bors.nil (Bors.cons (Bor.ptr (Bors.cons (Bor.sl (fun _ => rfl)) Bors.nil)) Bors.nil)) Bors.nil) rfl (x_slices_Sorted_int64_0Fx_slices_Values_int64_int64_1_ok r1 r2 hf2) (and_all (lts0_map (f := i64) (fun _ => rfl) _) rfl) (and_all (noss_map (f := i64) (fun _ => rfl) _) rfl) rfl (by decide) (ns_of ⟨⟨_, rfl⟩, trivial⟩)) rfl ?_
 refine zl (r := i64 ((r2.length : Nat) : Int)) (LOp.len_oref und44 rfl rfl) ?_
 refine zm (r := i64 0) ?_
 refine zN ?_
 obtain ⟨z2, hz_2, h⟩ := obind_some h
 refine RunC.cutN (fun τ Γ => WeakLe τ [] ∧ DeadLe Γ [⟨1, none⟩] ∧ z2 = .inl ()) ?_ ?_
 ·refine RunC.block (RunC.loop (RunL.loopM (x := z2) (i_isPermutation_s1 r2) (fun (s : Int) τ Γ => WeakLe τ [(7, oref 0 1 0 r2.length), (8, i64 ((r2.length : Nat) : Int)), (9, i64 s)] ∧ DeadLe Γ [⟨1, some (r2.map i64)⟩]) ?_ _ _ _ hz_2 ⟨⟨aR, aR, aR, trivial⟩, ⟨⟨rfl, .inr rfl⟩, trivial⟩⟩))
  rintro v3 τ2 Γ2 y2_ ⟨hw2, hd2⟩ h2_ ho2 hr2
  refine RunC.wl (τ' := [(7, oref 0 1 0 r2.length), (8, i64 ((r2.length : Nat) : Int)), (9, i64 v3)]) (Γ' := [⟨1, some (r2.map i64)⟩]) hw2 hd2 ?_
  replace h2_ : i_isPermutation_b1 r2 v3 = some y2_ := h2_
  unfold i_isPermutation_b1 at h2_
  refine RunC.seq ?_
  rcases bsel_some h2_ with ⟨hc3, h2_⟩ | ⟨hc3, h2_⟩
  ·refine RunC.regionW ?_
   refine zl (r := b true) (LOp.eqb (LOp.lss rfl rfl rfl) hc3) ?_
   refine zN ?_
   refine RunC.seq ?_
   refine RunC.cond_true rfl rfl ?_
   refine RunC.skip ?_
   refine RunC.seq ?_
   refine RunC.block ?_
   refine RunC.seq ?_
   obtain ⟨e4, he4, h2_⟩ := obind_some h2_
   refine RunC.regionW ?_
   refine zm (r := i64 v3) ?_
   refine ROps.d (r := optr 0 1 v3.toNat) (fs := []) (Γ' := [⟨1, some (r2.map i64)⟩]) rfl rfl rfl (TOp.ixo und44 siz2 rfl rfl rfl (at_in he4 rfl) rfl) rfl ?_
   refine ROps.d (r := i64 e4) (fs := []) (Γ' := [⟨1, some (r2.map i64)⟩]) rfl rfl rfl (TOp.load1_o rfl (at_cell he4) agg2 rfl rfl) rfl ?_
   refine za (r := i64 v3) ?_
   refine za (r := i64 e4) ?_
   refine zN ?_
   refine RunC.seq ?_
   rcases bsel_some h2_ with ⟨hc5, h2_⟩ | ⟨hc5, h2_⟩
   ·refine RunC.regionW ?_
    refine zm (r := i64 e4) ?_
    refine zm (r := i64 v3) ?_
    refine zl (r := b true) (LOp.eqb (LOp.neq rfl rfl rfl) hc5) ?_
    refine zN ?_
    refine RunC.cond_true rfl rfl ?_
    refine zQ ?_
    refine za (r := b false) ?_
    refine zN ?_
    refine RunC.ret ?_
    cases Option.some.inj h2_
    have hx3_ := hr2 _ rfl
    subst hx3_
    have hq := Option.some.inj h
    subst q0
    exact bodyQ.pure (.inr rfl) rfl (Res.one rfl (RV.tmp rfl))
   ·refine RunC.regionW ?_
    refine zm (r := i64 e4) ?_
    refine zm (r := i64 v3) ?_
    refine zl (r := b false) (LOp.eqb (LOp.neq rfl rfl rfl) hc5) ?_
    refine zN ?_
    refine RunC.cond_false rfl rfl ?_
    refine RunC.skip ?_
    obtain ⟨x5, hx6, h2_⟩ := olet_some h2_
    refine RunC.regionW ?_
    refine zl (r := i64 x5) (LOp.eqr (LOp.add rfl rfl rfl) (congrArg (ik .i64) hx6)) ?_
    refine zm (r := i64 x5) ?_
    refine zN ?_
    cases Option.some.inj h2_
    exact ⟨_, rfl, ⟨aR, aR, aR, trivial⟩, ⟨⟨rfl, .inr rfl⟩, trivial⟩⟩
  ·refine RunC.regionW ?_
   refine zl (r := b false) (LOp.eqb (LOp.lss rfl rfl rfl) hc3) ?_
   refine zN ?_
   refine RunC.seq ?_
   refine RunC.cond_false rfl rfl ?_
   refine RunC.exit ?_
   cases Option.some.inj h2_
   have hx := ho2 _ rfl
   exact ⟨trivial, ⟨⟨rfl, .inl rfl⟩, trivial⟩, hx⟩
 ·rintro τ4 Γ4 ⟨hw4, hd4, rfl⟩
  refine RunC.wl hw4 hd4 ?_
  replace h : i_isPermutation_k1 = some q0 := h
  unfold i_isPermutation_k1 at h
  refine zQ ?_
  refine za (r := b true) ?_
  refine zN ?_
  refine RunC.ret ?_
  have hq := Option.some.inj h
  subst q0
  exact bodyQ.pure (.inr rfl) rfl (Res.one rfl (RV.tmp rfl))
noncomputable def i_IsOrder (a0 : List Int) : Option (Bool) :=
 obind (i_length_int64 a0) fun (r1 : Int) =>
 obind (i_isSide r1) fun (r2 : Bool) =>
 bsel r2 (
  obind (i_isPermutation a0) fun (r3 : Bool) =>
  some r3) (
  some false)
theorem i_IsOrder_ok (a0 : List Int) (q0 : Bool) (h : i_IsOrder a0 = some q0) : Ev Try.prog 44 [sl a0.length (a0.map i64)] [] (b q0) [] := by
 refine Ev.start Try.func44 rfl rfl 0 (τ := [(0, sl a0.length (a0.map i64))]) rfl (Γ' := []) rfl (n := 21) rfl (g := 0) rfl (fun _ => rfl) ?_
 unfold i_IsOrder at h
 refine zQ ?_
 refine za (r := b false) ?_
 refine zN ?_
 refine RunC.seq ?_
 obtain ⟨r1, hf1, h⟩ := obind_some h
 obtain ⟨r2, hf2, h⟩ := obind_some h
 rcases bsel_some h with ⟨hc3, h⟩ | ⟨hc3, h⟩
 ·obtain ⟨r3, hf4, h⟩ := obind_some h
  refine RunC.regionW ?_
  refine zm (r := sl a0.length (a0.map i64)) ?_
  refine ROps.d (r := i64 r1) (fs := []) (Γ' := []) rfl rfl rfl (TOp.callB (CallAs.func ent101 rfl rfl) (Bors.cons (Bor.sl (fun _ => rfl)) Bors.nil) rfl rfl (i_length_int64_ok a0 r1 hf1)) rfl ?_
  refine ROps.d (r := b true) (fs := []) (Γ' := []) rfl rfl rfl (TOp.eqb (TOp.callB (CallAs.func ent59 rfl rfl) (Bors.cons (Bor.pure rfl) Bors.nil) rfl rfl (i_isSide_ok r1 r2 hf2)) hc3) rfl ?_
  refine zm (r := b true) ?_
  refine zm (r := sl a0.length (a0.map i64)) ?_
  refine ROps.d (r := b r3) (fs := []) (Γ' := []) rfl rfl rfl (TOp.callB (CallAs.func ent115 rfl rfl) (Bors.cons (Bor.sl (fun _ => rfl)) Bors.nil) rfl rfl (i_isPermutation_ok a0 r3 hf4)) rfl ?_
  refine zl (r := b r3) (LOp.pick_true rfl rfl rfl) ?_
  refine za (r := b r3) ?_
  refine zN ?_
  refine RunC.ret ?_
  have hq := Option.some.inj h
  subst q0
  exact bodyQ.pure (.inr rfl) rfl (Res.one rfl (RV.tmp rfl))
 ·refine RunC.regionW ?_
  refine zm (r := sl a0.length (a0.map i64)) ?_
  refine ROps.d (r := i64 r1) (fs := []) (Γ' := []) rfl rfl rfl (TOp.callB (CallAs.func ent101 rfl rfl) (Bors.cons (Bor.sl (fun _ => rfl)) Bors.nil) rfl rfl (i_length_int64_ok a0 r1 hf1)) rfl ?_
  refine ROps.d (r := b false) (fs := []) (Γ' := []) rfl rfl rfl (TOp.eqb (TOp.callB (CallAs.func ent59 rfl rfl) (Bors.cons (Bor.pure rfl) Bors.nil) rfl rfl (i_isSide_ok r1 r2 hf2)) hc3) rfl ?_
  refine zm (r := b false) ?_
  iterate 2 (refine ROps.s rfl rfl rfl ?_)
  refine zl (r := b false) (LOp.pick_false rfl rfl rfl) ?_
  refine za (r := b false) ?_
  refine zN ?_
  refine RunC.ret ?_
  have hq := Option.some.inj h
  subst q0
  exact bodyQ.pure (.inr rfl) rfl (Res.one rfl (RV.tmp rfl))
noncomputable def i_BackOrder_b1 (a0 : List Int) (L2 : List Int) (v4 : Int) : Option (LR ((List Int) × Int) ((List Int)) (Bool × (List Int))) :=
 bsel (decide (v4 < (a0.length : Int))) (
  obind (at? a0 v4) fun (e5 : Int) =>
  obind (setAt? L2 e5 v4) fun (L6 : List Int) =>
  olet (IntKind.i64.wrap (v4 + 1)) fun (x7 : Int) =>
  some (LR.next (L6, x7))) (
  some (LR.out L2))
noncomputable def i_BackOrder_s1 (a0 : List Int) : ((List Int) × Int) → Option (LR ((List Int) × Int) ((List Int)) (Bool × (List Int))) := fun s => i_BackOrder_b1 a0 s.1 s.2
noncomputable def i_BackOrder_k1 (L8 : List Int) : Option (Bool × (List Int)) :=
 some (true, L8)
noncomputable def i_BackOrder (a0 : List Int) : Option (Bool × (List Int)) :=
 obind (i_IsOrder a0) fun (r1 : Bool) =>
 bsel r1 (
  need (mkok 8 (a0.length : Int)) <|
  obind (loopM (i_BackOrder_s1 a0) ((List.replicate (a0.length : Int).toNat 0), 0)) fun z => osum z (fun e => i_BackOrder_k1 e) (fun r => some r)) (
  some (false, ([] : List Int)))
theorem i_BackOrder_ok (a0 : List Int) (q0 : Bool) (q1 : List Int) (h : i_BackOrder a0 = some (q0, q1)) : Ev Try.prog 41 [sl a0.length (a0.map i64)] [] (tup [oref 0 0 0 q1.length, b q0]) [⟨0, some (q1.map i64)⟩] := by
 refine Ev.start Try.func41 rfl rfl 1 (τ := [(0, sl a0.length (a0.map i64))]) rfl (Γ' := [⟨0, none⟩]) rfl (n := 53) rfl (g := 0) rfl (fun _ => rfl) ?_
 unfold i_BackOrder at h
 refine zQ ?_
 refine za (r := nilsl) ?_
 refine za (r := b false) ?_
 refine zN ?_
 iterate 2 (refine RunC.seq ?_)
 obtain ⟨r1, hf1, h⟩ := obind_some h
 rcases bsel_some h with ⟨hc2, h⟩ | ⟨hc2, h⟩
 ·refine RunC.regionW ?_
  refine zm (r := sl a0.length (a0.map i64)) ?_
  refine ROps.d (r := b true) (fs := []) (Γ' := [⟨0, none⟩]) rfl rfl rfl (TOp.eqb (TOp.callB (CallAs.func ent44 rfl rfl) (Bors.cons (Bor.sl (fun _ => rfl)) Bors.nil) rfl rfl (i_IsOrder_ok a0 r1 hf1)) hc2) rfl ?_
  refine zl (r := b false) (LOp.eqb (LOp.not rfl rfl) rfl) ?_
  refine zN ?_
  refine RunC.cond_false rfl rfl ?_
  refine RunC.skip ?_
  refine RunC.seq ?_
  obtain ⟨hm3, h⟩ := need_some h
  refine RunC.regionW ?_
  refine zm (r := sl a0.length (a0.map i64)) ?_
  refine zl (r := i64 (a0.length : Int)) (LOp.len_sl und44 rfl rfl) ?_
  refine ROps.d (r := oref 0 1 0 ((a0.length : Int).toNat)) (fs := [(0, ((List.replicate (a0.length : Int).toNat 0).map i64))]) (Γ' := [⟨1, some ((List.replicate (a0.length : Int).toNat 0).map i64)⟩]) rfl rfl rfl (TOp.mkS (g := ⟨0, none⟩) (t := 44) (e := 2) (by_ := 8) (f := i64) (zv := 0) 0 rfl und44 tin2 rfl siz2 zer2 rfl zel2 rfl rfl rfl hm3) rfl ?_
  refine za (r := oref 0 1 0 ((a0.length : Int).toNat)) ?_
  refine zN ?_
  refine RunC.seq ?_
  refine zQ ?_
  refine zm (r := sl a0.length (a0.map i64)) ?_
  refine zl (r := i64 (a0.length : Int)) (LOp.len_sl und44 rfl rfl) ?_
  refine zm (r := i64 0) ?_
  refine zN ?_
  obtain ⟨z2, hz_2, h⟩ := obind_some h
  refine RunC.cutN (fun τ Γ => ∃ (L8 : List Int), L8.length = (a0.length : Int).toNat ∧ WeakLe τ [(4, oref 0 1 0 ((a0.length : Int).toNat))] ∧ DeadLe Γ [⟨1, some (L8.map i64)⟩] ∧ z2 = .inl L8) ?_ ?_
  ·refine RunC.block (RunC.loop (RunL.loopM (x := z2) (i_BackOrder_s1 a0) (fun (s : (List Int) × Int) τ Γ => s.1.length = (a0.length : Int).toNat ∧ WeakLe τ [(4, oref 0 1 0 ((a0.length : Int).toNat)), (13, sl a0.length (a0.map i64)), (14, i64 (a0.length : Int)), (15, i64 s.2)] ∧ DeadLe Γ [⟨1, some (s.1.map i64)⟩]) ?_ _ _ _ hz_2 ⟨List.length_replicate, ⟨aR, aR, aR, aR, trivial⟩, ⟨⟨rfl, .inr rfl⟩, trivial⟩⟩))
   rintro ⟨L2, v4⟩ τ2 Γ2 y2_ ⟨hl3, hw2, hd2⟩ h2_ ho2 hr2
   refine RunC.wl (τ' := [(4, oref 0 1 0 ((a0.length : Int).toNat)), (13, sl a0.length (a0.map i64)), (14, i64 (a0.length : Int)), (15, i64 v4)]) (Γ' := [⟨1, some (L2.map i64)⟩]) hw2 hd2 ?_
   replace hl3 : L2.length = (a0.length : Int).toNat := hl3
   replace h2_ : i_BackOrder_b1 a0 L2 v4 = some y2_ := h2_
   unfold i_BackOrder_b1 at h2_
   refine RunC.seq ?_
   rcases bsel_some h2_ with ⟨hc4, h2_⟩ | ⟨hc4, h2_⟩
   ·refine RunC.regionW ?_
    refine zl (r := b true) (LOp.eqb (LOp.lss rfl rfl rfl) hc4) ?_
    refine zN ?_
    refine RunC.seq ?_
    refine RunC.cond_true rfl rfl ?_
    refine RunC.skip ?_
    refine RunC.seq ?_
    refine RunC.block ?_
    refine RunC.seq ?_
    obtain ⟨e5, he5, h2_⟩ := obind_some h2_
    refine RunC.regionW ?_
    refine zm (r := i64 v4) ?_
    refine zl (r := ptr [i64 e5]) (LOp.le (LOp.ix (f := i64) und44 siz2 rfl rfl rfl rfl he5) ALe.ptr) ?_
    refine zl (r := i64 e5) (LOp.load1 agg2 rfl rfl) ?_
    refine za (r := i64 v4) ?_
    refine za (r := i64 e5) ?_
    refine zN ?_
    obtain ⟨L6, he6, h2_⟩ := obind_some h2_
    refine RunC.regionW ?_
    refine zm (r := oref 0 1 0 ((a0.length : Int).toNat)) ?_
    refine zm (r := i64 e5) ?_
    refine zm (r := i64 v4) ?_
    refine ROps.d (r := optr 0 1 e5.toNat) (fs := []) (Γ' := [⟨1, some (L2.map i64)⟩]) rfl rfl rfl (TOp.ixo und44 siz2 rfl rfl rfl (set_in he6 hl3) rfl) rfl ?_
    refine ROps.st (f := i64) (i := e5) (Γ' := [⟨1, some (L6.map i64)⟩]) rfl siz2 rfl rfl rfl aR rfl rfl rfl he6 rfl ?_
    refine zN ?_
    obtain ⟨x7, hx7, h2_⟩ := olet_some h2_
    refine RunC.regionW ?_
    refine zl (r := i64 x7) (LOp.eqr (LOp.add rfl rfl rfl) (congrArg (ik .i64) hx7)) ?_
    refine zm (r := i64 x7) ?_
    refine zN ?_
    cases Option.some.inj h2_
    exact ⟨_, rfl, ((setAt?_len he6).trans hl3), ⟨aR, aR, aR, aR, trivial⟩, ⟨⟨rfl, .inr rfl⟩, trivial⟩⟩
   ·refine RunC.regionW ?_
    refine zl (r := b false) (LOp.eqb (LOp.lss rfl rfl rfl) hc4) ?_
    refine zN ?_
    refine RunC.seq ?_
    refine RunC.cond_false rfl rfl ?_
    refine RunC.exit ?_
    cases Option.some.inj h2_
    have hx := ho2 _ rfl
    exact ⟨L2, hl3, ⟨aR, trivial⟩, ⟨⟨rfl, .inr rfl⟩, trivial⟩, hx⟩
  ·rintro τ3 Γ3 ⟨L8, hl9, hw3, hd3, rfl⟩
   refine RunC.wl hw3 hd3 ?_
   replace h : i_BackOrder_k1 L8 = some (q0, q1) := h
   unfold i_BackOrder_k1 at h
   refine zQ ?_
   refine zm (r := oref 0 1 0 ((a0.length : Int).toNat)) ?_
   refine za (r := oref 0 1 0 ((a0.length : Int).toNat)) ?_
   refine za (r := b true) ?_
   refine zN ?_
   refine RunC.ret ?_
   have hq := Option.some.inj h
   obtain ⟨hq0, hq⟩ := Prod.mk.inj hq
   subst q0
   subst q1
   exact bodyQ.mk (r' := tup [oref 0 1 0 L8.length, b true]) [(0, 1)] (.inr rfl) rfl (show List.Nodup [0] from by decide) rfl rfl (Res.eq (Res.two rfl (RV.tmp rfl) (RV.tmp rfl)) (by rw [(show L8.length = (a0.length : Int).toNat from hl9)] <;> rfl)) (SelL.arr0 (f := i64) (fun _ => rfl) rfl trivial)
 ·refine RunC.regionW ?_
  refine zm (r := sl a0.length (a0.map i64)) ?_
  refine ROps.d (r := b false) (fs := []) (Γ' := [⟨0, none⟩]) rfl rfl rfl (TOp.eqb (TOp.callB (CallAs.func ent44 rfl rfl) (Bors.cons (Bor.sl (fun _ => rfl)) Bors.nil) rfl rfl (i_IsOrder_ok a0 r1 hf1)) hc2) rfl ?_
  refine zl (r := b true) (LOp.eqb (LOp.not rfl rfl) rfl) ?_
  refine zN ?_
  refine RunC.cond_true rfl rfl ?_
  refine zQ ?_
  refine za (r := nilsl) ?_
  refine za (r := b false) ?_
  refine zN ?_
  refine RunC.nil_slot (Γ' := [⟨1, some (([] : List Int).map i64)⟩]) 2 0 rfl rfl rfl ?_
  refine RunC.ret ?_
  have hq := Option.some.inj h
  obtain ⟨hq0, hq⟩ := Prod.mk.inj hq
  subst q0
  subst q1
  exact bodyQ.mk (r' := tup [oref 0 1 0 (([] : List Int).length), b false]) [(0, 1)] (.inr rfl) rfl (show List.Nodup [0] from by decide) rfl rfl (Res.eq (Res.two rfl (RV.tmp rfl) (RV.tmp rfl)) (by rw [(show ([] : List Int).length = 0 from rfl)] <;> rfl)) (SelL.arr0 (f := i64) (fun _ => rfl) rfl trivial)
noncomputable def i_length_float32 (a0 : List F) : Option (Int) :=
 some (a0.length : Int)
theorem i_length_float32_ok (a0 : List F) (q0 : Int) (h : i_length_float32 a0 = some q0) : Ev Try.prog 71 [(sFc a0)] [] (i64 q0) [] := by
 refine Ev.start Try.func71 rfl rfl 0 (τ := [(0, (sFc a0))]) rfl (Γ' := []) rfl (n := 11) rfl (g := 0) rfl (fun _ => rfl) ?_
 unfold i_length_float32 at h
 refine zQ ?_
 refine za (r := i64 0) ?_
 refine zN ?_
 refine zQ ?_
 refine zm (r := (sFc a0)) ?_
 refine zl (r := i64 (a0.length : Int)) (LOp.len_sl und24 rfl rfl) ?_
 refine za (r := i64 (a0.length : Int)) ?_
 refine zN ?_
 refine RunC.ret ?_
 have hq := Option.some.inj h
 subst q0
 exact bodyQ.pure (.inr rfl) rfl (Res.one rfl (RV.tmp rfl))
noncomputable def x_math_IsNaN (a0 : F) : Option (Bool) :=
 some (!feq .f64 a0 a0)
theorem x_math_IsNaN_ok (a0 : F) (q0 : Bool) (h : x_math_IsNaN a0 = some q0) : Ev Try.prog 162 [f64 a0] [] (b q0) [] := by
 refine Ev.start Try.func162 rfl rfl 0 (τ := [(0, f64 a0)]) rfl (Γ' := []) rfl (n := 13) rfl (g := 0) rfl (fun _ => rfl) ?_
 unfold x_math_IsNaN at h
 refine zQ ?_
 refine za (r := b false) ?_
 refine zN ?_
 refine zQ ?_
 iterate 2 (refine zm (r := f64 a0) ?_)
 refine zl (r := b (!feq .f64 a0 a0)) (LOp.fne rfl (OpF.tmp rfl) (OpF.tmp rfl)) ?_
 refine za (r := b (!feq .f64 a0 a0)) ?_
 refine zN ?_
 refine RunC.ret ?_
 have hq := Option.some.inj h
 subst q0
 exact bodyQ.pure (.inr rfl) rfl (Res.one rfl (RV.tmp rfl))
noncomputable def x_math_Abs (a0 : F) : Option (F) :=
 olet (fabs a0) fun (x1 : F) =>
 some x1
theorem x_math_Abs_ok (a0 : F) (q0 : F) (h : x_math_Abs a0 = some q0) : Ev Try.prog 110 [f64 a0] [] (f64 q0) [] := by
 refine Ev.start Try.func110 rfl rfl 0 (τ := [(0, f64 a0)]) rfl (Γ' := []) rfl (n := 15) rfl (g := 0) rfl (fun _ => rfl) ?_
 unfold x_math_Abs at h
 refine zQ ?_
 refine zl (r := f64 (some 0)) (LOp.le (LOp.assign rfl rfl) (ALe.fl (by kernel_rfl) (by kernel_rfl))) ?_
 refine zN ?_
 refine RunC.seq ?_
 obtain ⟨x1, hx1, h⟩ := olet_some h
 refine RunC.regionW ?_
 refine zm (r := f64 a0) ?_
 refine zl (r := bt .f64 .u64 a0) (LOp.fbits ext154 rfl (OpF.tmp rfl)) ?_
 refine zl (r := bt .f64 .u64 x1) (LOp.eqr (LOp.andNot_bt rfl rfl rfl) (congrArg (bt .f64 .u64) hx1)) ?_
 refine zl (r := f64 x1) (LOp.ffrom ext153 rfl rfl) ?_
 refine za (r := f64 x1) ?_
 refine zN ?_
 refine RunC.ret ?_
 have hq := Option.some.inj h
 subst q0
 exact bodyQ.pure (.inr rfl) rfl (Res.one rfl (RV.tmp rfl))
noncomputable def x_math_IsInf_k1 (y3 : F) : Option (Bool) :=
 some (flt .f64 (some 9218868437227405311) y3)
noncomputable def x_math_IsInf (a0 : F) (a1 : Int) : Option (Bool) :=
 bsel (decide (a1 = 0)) (
  obind (x_math_Abs a0) fun (r1 : F) =>
  x_math_IsInf_k1 r1) (
  bsel (decide (a1 < 0)) (
   olet (fneg .f64 a0) fun (x2 : F) =>
   x_math_IsInf_k1 x2) (
   x_math_IsInf_k1 a0))
theorem x_math_IsInf_ok (a0 : F) (a1 : Int) (q0 : Bool) (h : x_math_IsInf a0 a1 = some q0) : Ev Try.prog 163 [f64 a0, i64 a1] [] (b q0) [] := by
 refine Ev.start Try.func163 rfl rfl 0 (τ := [(0, f64 a0), (1, i64 a1)]) rfl (Γ' := []) rfl (n := 31) rfl (g := 0) rfl (fun _ => rfl) ?_
 unfold x_math_IsInf at h
 refine zQ ?_
 refine za (r := b false) ?_
 refine zN ?_
 refine RunC.seq ?_
 refine RunC.cutN (fun τ Γ => ∃ (y3 : F), WeakLe τ [(0, f64 y3)] ∧ DeadLe Γ [] ∧ x_math_IsInf_k1 y3 = some q0) ?_ ?_
 ·refine RunC.seq ?_
  rcases bsel_some h with ⟨hc1, h⟩ | ⟨hc1, h⟩
  ·refine RunC.regionW ?_
   refine zm (r := i64 a1) ?_
   refine zl (r := b true) (LOp.eqb (LOp.eql rfl rfl rfl) hc1) ?_
   refine zN ?_
   refine RunC.cond_true rfl rfl ?_
   obtain ⟨r1, hf2, h⟩ := obind_some h
   refine RunC.regionW ?_
   refine zm (r := f64 a0) ?_
   refine ROps.d (r := f64 r1) (fs := []) (Γ' := []) rfl rfl rfl (TOp.callB (CallAs.func ent110 rfl rfl) (Bors.cons (Bor.pure rfl) Bors.nil) rfl rfl (x_math_Abs_ok a0 r1 hf2)) rfl ?_
   refine za (r := f64 r1) ?_
   refine zN ?_
   exact ⟨r1, ⟨aR, trivial⟩, trivial, h⟩
  ·refine RunC.regionW ?_
   refine zm (r := i64 a1) ?_
   refine zl (r := b false) (LOp.eqb (LOp.eql rfl rfl rfl) hc1) ?_
   refine zN ?_
   refine RunC.cond_false rfl rfl ?_
   refine RunC.seq ?_
   rcases bsel_some h with ⟨hc3, h⟩ | ⟨hc3, h⟩
   ·refine RunC.regionW ?_
    refine zm (r := i64 a1) ?_
    refine zl (r := b true) (LOp.eqb (LOp.lss rfl rfl rfl) hc3) ?_
    refine zN ?_
    refine RunC.cond_true rfl rfl ?_
    obtain ⟨x2, hx4, h⟩ := olet_some h
    refine RunC.regionW ?_
    refine zm (r := f64 a0) ?_
    refine zl (r := f64 x2) (LOp.eqr (LOp.fneg rfl (OpF.tmp rfl)) (congrArg (f .f64) hx4)) ?_
    refine za (r := f64 x2) ?_
    refine zN ?_
    exact ⟨x2, ⟨aR, trivial⟩, trivial, h⟩
   ·refine RunC.regionW ?_
    refine zm (r := i64 a1) ?_
    refine zl (r := b false) (LOp.eqb (LOp.lss rfl rfl rfl) hc3) ?_
    refine zN ?_
    refine RunC.cond_false rfl rfl ?_
    refine RunC.skip ?_
    exact ⟨a0, ⟨aR, trivial⟩, trivial, h⟩
 ·rintro τ2 Γ2 ⟨y3, hw2, hd2, h⟩
  refine RunC.wl hw2 hd2 ?_
  unfold x_math_IsInf_k1 at h
  refine zQ ?_
  refine zm (r := f64 y3) ?_
  refine zl (r := b (flt .f64 (some 9218868437227405311) y3)) (LOp.fgt rfl (OpF.tmp rfl) (OpF.const rfl (by kernel_rfl) (by kernel_rfl))) ?_
  refine za (r := b (flt .f64 (some 9218868437227405311) y3)) ?_
  refine zN ?_
  refine RunC.ret ?_
  have hq := Option.some.inj h
  subst q0
  exact bodyQ.pure (.inr rfl) rfl (Res.one rfl (RV.tmp rfl))
noncomputable def i_isFinite64 (a0 : F) : Option (Bool) :=
 obind (x_math_IsNaN a0) fun (r1 : Bool) =>
 bsel r1 (
  some false) (
  obind (x_math_IsInf a0 0) fun (r2 : Bool) =>
  some (!r2))
theorem i_isFinite64_ok (a0 : F) (q0 : Bool) (h : i_isFinite64 a0 = some q0) : Ev Try.prog 150 [f64 a0] [] (b q0) [] := by
 refine Ev.start Try.func150 rfl rfl 0 (τ := [(0, f64 a0)]) rfl (Γ' := []) rfl (n := 23) rfl (g := 0) rfl (fun _ => rfl) ?_
 unfold i_isFinite64 at h
 refine zQ ?_
 refine za (r := b false) ?_
 refine zN ?_
 refine RunC.seq ?_
 obtain ⟨r1, hf1, h⟩ := obind_some h
 rcases bsel_some h with ⟨hc2, h⟩ | ⟨hc2, h⟩
 ·refine RunC.regionW ?_
  refine zm (r := f64 a0) ?_
  refine ROps.d (r := b true) (fs := []) (Γ' := []) rfl rfl rfl (TOp.eqb (TOp.callB (CallAs.func ent162 rfl rfl) (Bors.cons (Bor.pure rfl) Bors.nil) rfl rfl (x_math_IsNaN_ok a0 r1 hf1)) hc2) rfl ?_
  refine zl (r := b false) (LOp.eqb (LOp.not rfl rfl) rfl) ?_
  refine zm (r := b false) ?_
  iterate 3 (refine ROps.s rfl rfl rfl ?_)
  refine zl (r := b false) (LOp.pick_false rfl rfl rfl) ?_
  refine za (r := b false) ?_
  refine zN ?_
  refine RunC.ret ?_
  have hq := Option.some.inj h
  subst q0
  exact bodyQ.pure (.inr rfl) rfl (Res.one rfl (RV.tmp rfl))
 ·obtain ⟨r2, hf3, h⟩ := obind_some h
  refine RunC.regionW ?_
  refine zm (r := f64 a0) ?_
  refine ROps.d (r := b false) (fs := []) (Γ' := []) rfl rfl rfl (TOp.eqb (TOp.callB (CallAs.func ent162 rfl rfl) (Bors.cons (Bor.pure rfl) Bors.nil) rfl rfl (x_math_IsNaN_ok a0 r1 hf1)) hc2) rfl ?_
  refine zl (r := b true) (LOp.eqb (LOp.not rfl rfl) rfl) ?_
  refine zm (r := b true) ?_
  refine zm (r := f64 a0) ?_
  refine ROps.d (r := b r2) (fs := []) (Γ' := []) rfl rfl rfl (TOp.callB (CallAs.func ent163 rfl rfl) (Bors.cons (Bor.pure rfl) (Bors.cons (Bor.pure rfl) Bors.nil)) rfl rfl (x_math_IsInf_ok a0 0 r2 hf3)) rfl ?_
  refine zl (r := b (!r2)) (LOp.not rfl rfl) ?_
  refine zl (r := b (!r2)) (LOp.pick_true rfl rfl rfl) ?_
  refine za (r := b (!r2)) ?_
  refine zN ?_
  refine RunC.ret ?_
  have hq := Option.some.inj h
  subst q0
  exact bodyQ.pure (.inr rfl) rfl (Res.one rfl (RV.tmp rfl))
noncomputable def i_IsFinite (a0 : F) : Option (Bool) :=
 olet (fwiden a0) fun (x1 : F) =>
 obind (i_isFinite64 x1) fun (r2 : Bool) =>
 some r2
theorem i_IsFinite_ok (a0 : F) (q0 : Bool) (h : i_IsFinite a0 = some q0) : Ev Try.prog 107 [f32 a0] [] (b q0) [] := by
 refine Ev.start Try.func107 rfl rfl 0 (τ := [(0, f32 a0)]) rfl (Γ' := []) rfl (n := 13) rfl (g := 0) rfl (fun _ => rfl) ?_
 unfold i_IsFinite at h
 refine zQ ?_
 refine za (r := b false) ?_
 refine zN ?_
 refine RunC.seq ?_
 obtain ⟨x1, hx1, h⟩ := olet_some h
 obtain ⟨r2, hf2, h⟩ := obind_some h
 refine RunC.regionW ?_
 refine zm (r := f32 a0) ?_
 refine ROps.d (r := f64 x1) (fs := []) (Γ' := []) rfl rfl rfl (TOp.eqr (TOp.widen (src := 36) (dst := 37) ⟨_, pun36⟩ pun37 rfl (OpF.tmp rfl)) (congrArg (f .f64) hx1)) rfl ?_
 refine ROps.d (r := b r2) (fs := []) (Γ' := []) rfl rfl rfl (TOp.callB (CallAs.func ent150 rfl rfl) (Bors.cons (Bor.pure rfl) Bors.nil) rfl rfl (i_isFinite64_ok x1 r2 hf2)) rfl ?_
 refine za (r := b r2) ?_
 refine zN ?_
 refine RunC.ret ?_
 have hq := Option.some.inj h
 subst q0
 exact bodyQ.pure (.inr rfl) rfl (Res.one rfl (RV.tmp rfl))
noncomputable def i_areFinite_1 (a0 : F) : Option (Bool) :=
 obind (i_IsFinite a0) fun (r1 : Bool) =>
 some (!r1)
theorem i_areFinite_1_ok (a0 : F) (q0 : Bool) (h : i_areFinite_1 a0 = some q0) : Ev Try.prog 133 [f32 a0] [] (b q0) [] := by
 refine Ev.start Try.func133 rfl rfl 0 (τ := [(0, f32 a0)]) rfl (Γ' := []) rfl (n := 13) rfl (g := 0) rfl (fun _ => rfl) ?_
 unfold i_areFinite_1 at h
 refine zQ ?_
 refine za (r := b false) ?_
 refine zN ?_
 refine RunC.seq ?_
 obtain ⟨r1, hf1, h⟩ := obind_some h
 refine RunC.regionW ?_
 refine zm (r := f32 a0) ?_
 refine ROps.d (r := b r1) (fs := []) (Γ' := []) rfl rfl rfl (TOp.callB (CallAs.func ent107 rfl rfl) (Bors.cons (Bor.pure rfl) Bors.nil) rfl rfl (i_IsFinite_ok a0 r1 hf1)) rfl ?_
 refine zl (r := b (!r1)) (LOp.not rfl rfl) ?_
 refine za (r := b (!r1)) ?_
 refine zN ?_
 refine RunC.ret ?_
 have hq := Option.some.inj h
 subst q0
 exact bodyQ.pure (.inr rfl) rfl (Res.one rfl (RV.tmp rfl))
noncomputable def x_slices_IndexFunc_float32_float32_1Fi_areFinite_1_b1 (a0 : List F) (v1 : Int) : Option (LR (Int) (Unit) (Int)) :=
 bsel (decide (v1 < (a0.length : Int))) (
  obind (at? a0 v1) fun (e2 : F) =>
  obind (i_areFinite_1 e2) fun (r3 : Bool) =>
  bsel r3 (
   some (LR.ret v1)) (
   olet (IntKind.i64.wrap (v1 + 1)) fun (x4 : Int) =>
   some (LR.next x4))) (
  some (LR.out ()))
noncomputable def x_slices_IndexFunc_float32_float32_1Fi_areFinite_1_s1 (a0 : List F) : (Int) → Option (LR (Int) (Unit) (Int)) := fun s => x_slices_IndexFunc_float32_float32_1Fi_areFinite_1_b1 a0 s
noncomputable def x_slices_IndexFunc_float32_float32_1Fi_areFinite_1_k1  : Option (Int) :=
 some (-1)
noncomputable def x_slices_IndexFunc_float32_float32_1Fi_areFinite_1 (a0 : List F) : Option (Int) :=
 obind (loopM (x_slices_IndexFunc_float32_float32_1Fi_areFinite_1_s1 a0) 0) fun z => osum z (fun _ => x_slices_IndexFunc_float32_float32_1Fi_areFinite_1_k1) (fun r => some r)
theorem x_slices_IndexFunc_float32_float32_1Fi_areFinite_1_ok (a0 : List F) (q0 : Int) (h : x_slices_IndexFunc_float32_float32_1Fi_areFinite_1 a0 = some q0) : Ev Try.prog 160 [(sFc a0), fn (.func 133) [] []] [] (i64 q0) [] := by
 refine Ev.start Try.func160 rfl rfl 0 (τ := [(0, (sFc a0)), (1, fn (.func 133) [] [])]) rfl (Γ' := []) rfl (n := 39) rfl (g := 0) rfl (fun _ => rfl) ?_
 unfold x_slices_IndexFunc_float32_float32_1Fi_areFinite_1 at h
 refine zQ ?_
 refine za (r := i64 0) ?_
 refine zN ?_
 refine RunC.seq ?_
 refine zQ ?_
 refine zm (r := (sFc a0)) ?_
 refine zl (r := i64 (a0.length : Int)) (LOp.len_sl und24 rfl rfl) ?_
 refine zm (r := i64 0) ?_
 refine zN ?_
 obtain ⟨z2, hz_2, h⟩ := obind_some h
 refine RunC.cutN (fun τ Γ => WeakLe τ [] ∧ DeadLe Γ [] ∧ z2 = .inl ()) ?_ ?_
 ·refine RunC.block (RunC.loop (RunL.loopM (x := z2) (x_slices_IndexFunc_float32_float32_1Fi_areFinite_1_s1 a0) (fun (s : Int) τ Γ => WeakLe τ [(0, (sFc a0)), (1, fn (.func 133) [] []), (7, i64 (a0.length : Int)), (8, i64 s)] ∧ DeadLe Γ []) ?_ _ _ _ hz_2 ⟨⟨aR, aR, aR, aR, trivial⟩, trivial⟩))
  rintro v1 τ2 Γ2 y2_ ⟨hw2, hd2⟩ h2_ ho2 hr2
  refine RunC.wl (τ' := [(0, (sFc a0)), (1, fn (.func 133) [] []), (7, i64 (a0.length : Int)), (8, i64 v1)]) (Γ' := []) hw2 hd2 ?_
  replace h2_ : x_slices_IndexFunc_float32_float32_1Fi_areFinite_1_b1 a0 v1 = some y2_ := h2_
  unfold x_slices_IndexFunc_float32_float32_1Fi_areFinite_1_b1 at h2_
  refine RunC.seq ?_
  rcases bsel_some h2_ with ⟨hc1, h2_⟩ | ⟨hc1, h2_⟩
  ·refine RunC.regionW ?_
   refine zl (r := b true) (LOp.eqb (LOp.lss rfl rfl rfl) hc1) ?_
   refine zN ?_
   refine RunC.seq ?_
   refine RunC.cond_true rfl rfl ?_
   refine RunC.skip ?_
   refine RunC.seq ?_
   refine RunC.block ?_
   refine zQ ?_
   refine zm (r := i64 v1) ?_
   refine za (r := i64 v1) ?_
   refine zN ?_
   refine RunC.seq ?_
   obtain ⟨e2, he2, h2_⟩ := obind_some h2_
   obtain ⟨r3, hf3, h2_⟩ := obind_some h2_
   rcases bsel_some h2_ with ⟨hc4, h2_⟩ | ⟨hc4, h2_⟩
   ·refine RunC.regionW ?_
    refine zm (r := fn (.func 133) [] []) ?_
    refine zm (r := (sFc a0)) ?_
    refine zm (r := i64 v1) ?_
    refine zl (r := ptr [f32 e2]) (LOp.le (LOp.ix (f := f32) und24 siz36 rfl rfl rfl rfl he2) ALe.ptr) ?_
    refine zl (r := f32 e2) (LOp.load1 agg36 rfl rfl) ?_
    refine ROps.d (r := b true) (fs := []) (Γ' := []) rfl rfl rfl (TOp.eqb (TOp.callB (CallAs.fn ent133 rfl rfl rfl rfl) (Bors.cons (Bor.pure rfl) Bors.nil) rfl rfl (i_areFinite_1_ok e2 r3 hf3)) hc4) rfl ?_
    refine zN ?_
    refine RunC.cond_true rfl rfl ?_
    refine zQ ?_
    refine zm (r := i64 v1) ?_
    refine za (r := i64 v1) ?_
    refine zN ?_
    refine RunC.ret ?_
    cases Option.some.inj h2_
    have hx3_ := hr2 _ rfl
    subst hx3_
    have hq := Option.some.inj h
    subst q0
    exact bodyQ.pure (.inr rfl) rfl (Res.one rfl (RV.tmp rfl))
   ·refine RunC.regionW ?_
    refine zm (r := fn (.func 133) [] []) ?_
    refine zm (r := (sFc a0)) ?_
    refine zm (r := i64 v1) ?_
    refine zl (r := ptr [f32 e2]) (LOp.le (LOp.ix (f := f32) und24 siz36 rfl rfl rfl rfl he2) ALe.ptr) ?_
    refine zl (r := f32 e2) (LOp.load1 agg36 rfl rfl) ?_
    refine ROps.d (r := b false) (fs := []) (Γ' := []) rfl rfl rfl (TOp.eqb (TOp.callB (CallAs.fn ent133 rfl rfl rfl rfl) (Bors.cons (Bor.pure rfl) Bors.nil) rfl rfl (i_areFinite_1_ok e2 r3 hf3)) hc4) rfl ?_
    refine zN ?_
    refine RunC.cond_false rfl rfl ?_
    refine RunC.skip ?_
    obtain ⟨x4, hx5, h2_⟩ := olet_some h2_
    refine RunC.regionW ?_
    refine zl (r := i64 x4) (LOp.eqr (LOp.add rfl rfl rfl) (congrArg (ik .i64) hx5)) ?_
    refine zm (r := i64 x4) ?_
    refine zN ?_
    cases Option.some.inj h2_
    exact ⟨_, rfl, ⟨aR, aR, aR, aR, trivial⟩, trivial⟩
  ·refine RunC.regionW ?_
   refine zl (r := b false) (LOp.eqb (LOp.lss rfl rfl rfl) hc1) ?_
   refine zN ?_
   refine RunC.seq ?_
   refine RunC.cond_false rfl rfl ?_
   refine RunC.exit ?_
   cases Option.some.inj h2_
   have hx := ho2 _ rfl
   exact ⟨trivial, trivial, hx⟩
 ·rintro τ4 Γ4 ⟨hw4, hd4, rfl⟩
  refine RunC.wl hw4 hd4 ?_
  replace h : x_slices_IndexFunc_float32_float32_1Fi_areFinite_1_k1 = some q0 := h
  unfold x_slices_IndexFunc_float32_float32_1Fi_areFinite_1_k1 at h
  refine zQ ?_
  refine za (r := i64 (-1)) ?_
  refine zN ?_
  refine RunC.ret ?_
  have hq := Option.some.inj h
  subst q0
  exact bodyQ.pure (.inr rfl) rfl (Res.one rfl (RV.tmp rfl))
noncomputable def x_slices_ContainsFunc_float32_float32_1Fi_areFinite_1 (a0 : List F) : Option (Bool) :=
 obind (x_slices_IndexFunc_float32_float32_1Fi_areFinite_1 a0) fun (r1 : Int) =>
 some (decide (0 ≤ r1))
theorem x_slices_ContainsFunc_float32_float32_1Fi_areFinite_1_ok (a0 : List F) (q0 : Bool) (h : x_slices_ContainsFunc_float32_float32_1Fi_areFinite_1 a0 = some q0) : Ev Try.prog 132 [(sFc a0), fn (.func 133) [] []] [] (b q0) [] := by
 refine Ev.start Try.func132 rfl rfl 0 (τ := [(0, (sFc a0)), (1, fn (.func 133) [] [])]) rfl (Γ' := []) rfl (n := 19) rfl (g := 0) rfl (fun _ => rfl) ?_
 unfold x_slices_ContainsFunc_float32_float32_1Fi_areFinite_1 at h
 refine zQ ?_
 refine za (r := b false) ?_
 refine zN ?_
 refine RunC.seq ?_
 obtain ⟨r1, hf1, h⟩ := obind_some h
 refine RunC.regionW ?_
 refine zm (r := (sFc a0)) ?_
 refine zm (r := fn (.func 133) [] []) ?_
 refine ROps.d (r := i64 r1) (fs := []) (Γ' := []) rfl rfl rfl (TOp.callB (CallAs.func ent160 rfl rfl) (Bors.cons (Bor.sl (fun _ => rfl)) (Bors.cons (Bor.fn Bors.nil Bors.nil) Bors.nil)) rfl rfl (x_slices_IndexFunc_float32_float32_1Fi_areFinite_1_ok a0 r1 hf1)) rfl ?_
 refine zl (r := b (decide (0 ≤ r1))) (LOp.geq rfl rfl rfl) ?_
 refine za (r := b (decide (0 ≤ r1))) ?_
 refine zN ?_
 refine RunC.ret ?_
 have hq := Option.some.inj h
 subst q0
 exact bodyQ.pure (.inr rfl) rfl (Res.one rfl (RV.tmp rfl))
noncomputable def i_areFinite (a0 : List F) : Option (Bool) :=
 obind (x_slices_ContainsFunc_float32_float32_1Fi_areFinite_1 a0) fun (r1 : Bool) =>
 some (!r1)
theorem i_areFinite_ok (a0 : List F) (q0 : Bool) (h : i_areFinite a0 = some q0) : Ev Try.prog 79 [(sFc a0)] [] (b q0) [] := by
 refine Ev.start Try.func79 rfl rfl 0 (τ := [(0, (sFc a0))]) rfl (Γ' := []) rfl (n := 13) rfl (g := 0) rfl (fun _ => rfl) ?_
 unfold i_areFinite at h
 refine zQ ?_
 refine za (r := b false) ?_
 refine zN ?_
 refine RunC.seq ?_
 obtain ⟨r1, hf1, h⟩ := obind_some h
 refine RunC.regionW ?_
 refine zm (r := (sFc a0)) ?_
 refine ROps.d (r := b r1) (fs := []) (Γ' := []) rfl rfl rfl (TOp.callB (CallAs.func ent132 rfl rfl) (Bors.cons (Bor.sl (fun _ => rfl)) (Bors.cons (Bor.fn Bors.nil Bors.nil) Bors.nil)) rfl rfl (x_slices_ContainsFunc_float32_float32_1Fi_areFinite_1_ok a0 r1 hf1)) rfl ?_
 refine zl (r := b (!r1)) (LOp.not rfl rfl) ?_
 refine za (r := b (!r1)) ?_
 refine zN ?_
 refine RunC.ret ?_
 have hq := Option.some.inj h
 subst q0
 exact bodyQ.pure (.inr rfl) rfl (Res.one rfl (RV.tmp rfl))
noncomputable def i_ValidMatrix (a0 : Int) (a1 : Int) (a2 : List F) : Option (Bool) :=
 obind (i_isSide a0) fun (r1 : Bool) =>
 bsel r1 (
  obind (i_isSide a1) fun (r2 : Bool) =>
  bsel r2 (
   obind (i_length_float32 a2) fun (r3 : Int) =>
   olet (IntKind.i64.wrap (a0 * a1)) fun (x4 : Int) =>
   bsel (decide (r3 = x4)) (
    obind (i_areFinite a2) fun (r5 : Bool) =>
    some r5) (
    some false)) (
   some false)) (
  some false)
theorem i_ValidMatrix_ok (a0 : Int) (a1 : Int) (a2 : List F) (q0 : Bool) (h : i_ValidMatrix a0 a1 a2 = some q0) : Ev Try.prog 66 [agg (mXc a0 a1 a2)] [] (b q0) [] := by
 refine Ev.start Try.func66 rfl rfl 0 (τ := [(0, agg (mXc a0 a1 a2))]) rfl (Γ' := []) rfl (n := 55) rfl (g := 0) rfl (fun _ => rfl) ?_
 unfold i_ValidMatrix at h
 refine zQ ?_
 refine ROps.d (r := ptr (mXc a0 a1 a2)) (fs := []) (Γ' := []) rfl rfl rfl (TOp.box_s rfl rfl rfl) rfl ?_
 refine za (r := b false) ?_
 refine zN ?_
 refine RunC.seq ?_
 obtain ⟨r1, hf1, h⟩ := obind_some h
 rcases bsel_some h with ⟨hc2, h⟩ | ⟨hc2, h⟩
 ·obtain ⟨r2, hf3, h⟩ := obind_some h
  rcases bsel_some h with ⟨hc4, h⟩ | ⟨hc4, h⟩
  ·obtain ⟨r3, hf5, h⟩ := obind_some h
   obtain ⟨x4, hx6, h⟩ := olet_some h
   rcases bsel_some h with ⟨hc7, h⟩ | ⟨hc7, h⟩
   ·obtain ⟨r5, hf8, h⟩ := obind_some h
    refine RunC.region_draw (Γ' := []) 25 mixed 
     (TR.l (r := ptr (mXc a0 a1 a2)) rfl rfl (LOp.fap und26 rfl siz2 rfl rfl rfl) <|
     (TR.l (r := i64 a0) rfl rfl (LOp.load1 agg2 rfl rfl) <|
     (TR.d (r := b true) (fs := []) rfl rfl (TOp.eqb (TOp.callB (CallAs.func ent59 rfl rfl) (Bors.cons (Bor.pure rfl) Bors.nil) rfl rfl (i_isSide_ok a0 r1 hf1)) hc2) <|
     (TR.l (r := b true) rfl rfl (LOp.move rfl rfl) <|
     (TR.l (r := ptr [i64 a1, (sFc a2)]) rfl rfl (LOp.fap und26 rfl siz2 rfl rfl rfl) <|
     (TR.l (r := i64 a1) rfl rfl (LOp.load1 agg2 rfl rfl) <|
     (TR.d (r := b true) (fs := []) rfl rfl (TOp.eqb (TOp.callB (CallAs.func ent59 rfl rfl) (Bors.cons (Bor.pure rfl) Bors.nil) rfl rfl (i_isSide_ok a1 r2 hf3)) hc4) <|
     (TR.l (r := b true) rfl rfl (LOp.pick_true rfl rfl rfl) <|
     (TR.l (r := b true) rfl rfl (LOp.move rfl rfl) <|
     (TR.l (r := ptr [(sFc a2)]) rfl rfl (LOp.fap und26 rfl siz24 rfl rfl rfl) <|
     (TR.l (r := (sFc a2)) rfl rfl (LOp.load1 agg24 rfl rfl) <|
     (TR.d (r := i64 r3) (fs := []) rfl rfl (TOp.callB (CallAs.func ent71 rfl rfl) (Bors.cons (Bor.sl (fun _ => rfl)) Bors.nil) rfl rfl (i_length_float32_ok a2 r3 hf5)) <|
     (TR.l (r := ptr (mXc a0 a1 a2)) rfl rfl (LOp.fap und26 rfl siz2 rfl rfl rfl) <|
     (TR.l (r := i64 a0) rfl rfl (LOp.load1 agg2 rfl rfl) <|
     (TR.l (r := ptr [i64 a1, (sFc a2)]) rfl rfl (LOp.fap und26 rfl siz2 rfl rfl rfl) <|
     (TR.l (r := i64 a1) rfl rfl (LOp.load1 agg2 rfl rfl) <|
     (TR.l (r := i64 x4) rfl rfl (LOp.eqr (LOp.mul rfl rfl rfl) (congrArg (ik .i64) hx6)) <|
     (TR.l (r := b true) rfl rfl (LOp.eqb (LOp.eql rfl rfl rfl) hc7) <|
     (TR.l (r := b true) rfl rfl (LOp.pick_true rfl rfl rfl) <|
     (TR.l (r := b true) rfl rfl (LOp.move rfl rfl) <|
     (TR.l (r := ptr [(sFc a2)]) rfl rfl (LOp.fap und26 rfl siz24 rfl rfl rfl) <|
     (TR.l (r := (sFc a2)) rfl rfl (LOp.load1 agg24 rfl rfl) <|
     (TR.d (r := b r5) (fs := []) rfl rfl (TOp.callB (CallAs.func ent79 rfl rfl) (Bors.cons (Bor.sl (fun _ => rfl)) Bors.nil) rfl rfl (i_areFinite_ok a2 r5 hf8)) <|
     (TR.l (r := b r5) rfl rfl (LOp.pick_true rfl rfl rfl) <|
     (TR.l (r := b r5) rfl rfl (LOp.assign rfl rfl) <|
     TR.nil))))))))))))))))))))))))) rfl (by kernel_rfl) rfl fills_nil rfl ?_
    iterate 25 refine ROps.dropS ?_
    refine ROps.drop0 ?_
    refine zN ?_
    refine RunC.ret ?_
    have hq := Option.some.inj h
    subst q0
    exact bodyQ.pure (.inr rfl) rfl (Res.one rfl (RV.tmp rfl))
   ·refine RunC.region_draw (Γ' := []) 25 mixed 
     (TR.l (r := ptr (mXc a0 a1 a2)) rfl rfl (LOp.fap und26 rfl siz2 rfl rfl rfl) <|
     (TR.l (r := i64 a0) rfl rfl (LOp.load1 agg2 rfl rfl) <|
     (TR.d (r := b true) (fs := []) rfl rfl (TOp.eqb (TOp.callB (CallAs.func ent59 rfl rfl) (Bors.cons (Bor.pure rfl) Bors.nil) rfl rfl (i_isSide_ok a0 r1 hf1)) hc2) <|
     (TR.l (r := b true) rfl rfl (LOp.move rfl rfl) <|
     (TR.l (r := ptr [i64 a1, (sFc a2)]) rfl rfl (LOp.fap und26 rfl siz2 rfl rfl rfl) <|
     (TR.l (r := i64 a1) rfl rfl (LOp.load1 agg2 rfl rfl) <|
     (TR.d (r := b true) (fs := []) rfl rfl (TOp.eqb (TOp.callB (CallAs.func ent59 rfl rfl) (Bors.cons (Bor.pure rfl) Bors.nil) rfl rfl (i_isSide_ok a1 r2 hf3)) hc4) <|
     (TR.l (r := b true) rfl rfl (LOp.pick_true rfl rfl rfl) <|
     (TR.l (r := b true) rfl rfl (LOp.move rfl rfl) <|
     (TR.l (r := ptr [(sFc a2)]) rfl rfl (LOp.fap und26 rfl siz24 rfl rfl rfl) <|
     (TR.l (r := (sFc a2)) rfl rfl (LOp.load1 agg24 rfl rfl) <|
     (TR.d (r := i64 r3) (fs := []) rfl rfl (TOp.callB (CallAs.func ent71 rfl rfl) (Bors.cons (Bor.sl (fun _ => rfl)) Bors.nil) rfl rfl (i_length_float32_ok a2 r3 hf5)) <|
     (TR.l (r := ptr (mXc a0 a1 a2)) rfl rfl (LOp.fap und26 rfl siz2 rfl rfl rfl) <|
     (TR.l (r := i64 a0) rfl rfl (LOp.load1 agg2 rfl rfl) <|
     (TR.l (r := ptr [i64 a1, (sFc a2)]) rfl rfl (LOp.fap und26 rfl siz2 rfl rfl rfl) <|
     (TR.l (r := i64 a1) rfl rfl (LOp.load1 agg2 rfl rfl) <|
     (TR.l (r := i64 x4) rfl rfl (LOp.eqr (LOp.mul rfl rfl rfl) (congrArg (ik .i64) hx6)) <|
     (TR.l (r := b false) rfl rfl (LOp.eqb (LOp.eql rfl rfl rfl) hc7) <|
     (TR.l (r := b false) rfl rfl (LOp.pick_true rfl rfl rfl) <|
     (TR.l (r := b false) rfl rfl (LOp.move rfl rfl) <|
     (TR.s rfl rfl <|
     (TR.s rfl rfl <|
     (TR.s rfl rfl <|
     (TR.l (r := b false) rfl rfl (LOp.pick_false rfl rfl rfl) <|
     (TR.l (r := b false) rfl rfl (LOp.assign rfl rfl) <|
     TR.nil))))))))))))))))))))))))) rfl (by kernel_rfl) rfl fills_nil rfl ?_
    iterate 25 refine ROps.dropS ?_
    refine ROps.drop0 ?_
    refine zN ?_
    refine RunC.ret ?_
    have hq := Option.some.inj h
    subst q0
    exact bodyQ.pure (.inr rfl) rfl (Res.one rfl (RV.tmp rfl))
  ·refine RunC.region_draw (Γ' := []) 25 mixed 
    (TR.l (r := ptr (mXc a0 a1 a2)) rfl rfl (LOp.fap und26 rfl siz2 rfl rfl rfl) <|
    (TR.l (r := i64 a0) rfl rfl (LOp.load1 agg2 rfl rfl) <|
    (TR.d (r := b true) (fs := []) rfl rfl (TOp.eqb (TOp.callB (CallAs.func ent59 rfl rfl) (Bors.cons (Bor.pure rfl) Bors.nil) rfl rfl (i_isSide_ok a0 r1 hf1)) hc2) <|
    (TR.l (r := b true) rfl rfl (LOp.move rfl rfl) <|
    (TR.l (r := ptr [i64 a1, (sFc a2)]) rfl rfl (LOp.fap und26 rfl siz2 rfl rfl rfl) <|
    (TR.l (r := i64 a1) rfl rfl (LOp.load1 agg2 rfl rfl) <|
    (TR.d (r := b false) (fs := []) rfl rfl (TOp.eqb (TOp.callB (CallAs.func ent59 rfl rfl) (Bors.cons (Bor.pure rfl) Bors.nil) rfl rfl (i_isSide_ok a1 r2 hf3)) hc4) <|
    (TR.l (r := b false) rfl rfl (LOp.pick_true rfl rfl rfl) <|
    (TR.l (r := b false) rfl rfl (LOp.move rfl rfl) <|
    (TR.s rfl rfl <|
    (TR.s rfl rfl <|
    (TR.s rfl rfl <|
    (TR.s rfl rfl <|
    (TR.s rfl rfl <|
    (TR.s rfl rfl <|
    (TR.s rfl rfl <|
    (TR.s rfl rfl <|
    (TR.s rfl rfl <|
    (TR.l (r := b false) rfl rfl (LOp.pick_false rfl rfl rfl) <|
    (TR.l (r := b false) rfl rfl (LOp.move rfl rfl) <|
    (TR.s rfl rfl <|
    (TR.s rfl rfl <|
    (TR.s rfl rfl <|
    (TR.l (r := b false) rfl rfl (LOp.pick_false rfl rfl rfl) <|
    (TR.l (r := b false) rfl rfl (LOp.assign rfl rfl) <|
    TR.nil))))))))))))))))))))))))) rfl (by kernel_rfl) rfl fills_nil rfl ?_
   iterate 25 refine ROps.dropS ?_
   refine ROps.drop0 ?_
   refine zN ?_
   refine RunC.ret ?_
   have hq := Option.some.inj h
   subst q0
   exact bodyQ.pure (.inr rfl) rfl (Res.one rfl (RV.tmp rfl))
 ·refine RunC.region_draw (Γ' := []) 25 mixed 
   (TR.l (r := ptr (mXc a0 a1 a2)) rfl rfl (LOp.fap und26 rfl siz2 rfl rfl rfl) <|
   (TR.l (r := i64 a0) rfl rfl (LOp.load1 agg2 rfl rfl) <|
   (TR.d (r := b false) (fs := []) rfl rfl (TOp.eqb (TOp.callB (CallAs.func ent59 rfl rfl) (Bors.cons (Bor.pure rfl) Bors.nil) rfl rfl (i_isSide_ok a0 r1 hf1)) hc2) <|
   (TR.l (r := b false) rfl rfl (LOp.move rfl rfl) <|
   (TR.s rfl rfl <|
   (TR.s rfl rfl <|
   (TR.s rfl rfl <|
   (TR.l (r := b false) rfl rfl (LOp.pick_false rfl rfl rfl) <|
   (TR.l (r := b false) rfl rfl (LOp.move rfl rfl) <|
   (TR.s rfl rfl <|
   (TR.s rfl rfl <|
   (TR.s rfl rfl <|
   (TR.s rfl rfl <|
   (TR.s rfl rfl <|
   (TR.s rfl rfl <|
   (TR.s rfl rfl <|
   (TR.s rfl rfl <|
   (TR.s rfl rfl <|
   (TR.l (r := b false) rfl rfl (LOp.pick_false rfl rfl rfl) <|
   (TR.l (r := b false) rfl rfl (LOp.move rfl rfl) <|
   (TR.s rfl rfl <|
   (TR.s rfl rfl <|
   (TR.s rfl rfl <|
   (TR.l (r := b false) rfl rfl (LOp.pick_false rfl rfl rfl) <|
   (TR.l (r := b false) rfl rfl (LOp.assign rfl rfl) <|
   TR.nil))))))))))))))))))))))))) rfl (by kernel_rfl) rfl fills_nil rfl ?_
  iterate 25 refine ROps.dropS ?_
  refine ROps.drop0 ?_
  refine zN ?_
  refine RunC.ret ?_
  have hq := Option.some.inj h
  subst q0
  exact bodyQ.pure (.inr rfl) rfl (Res.one rfl (RV.tmp rfl))
noncomputable def i_newMatrix (a0 : Int) (a1 : Int) : Option (Int × Int × (List F)) :=
 olet (IntKind.i64.wrap (a0 * a1)) fun (x1 : Int) =>
 need (mkok 4 x1) <|
 some (a0, a1, (List.replicate x1.toNat (some 0)))
theorem i_newMatrix_ok (a0 : Int) (a1 : Int) (q0 : Int) (q1 : Int) (q2 : List F) (h : i_newMatrix a0 a1 = some (q0, q1, q2)) : Ev Try.prog 126 [i64 a0, i64 a1] [] (agg (oXc q0 q1 0 0 q2.length)) [⟨0, some (q2.map f32)⟩] := by
 refine Ev.start Try.func126 rfl rfl 2 (τ := [(0, i64 a0), (1, i64 a1)]) rfl (Γ' := [⟨0, none⟩, ⟨0, none⟩]) rfl (n := 25) rfl (g := 0) rfl (fun _ => rfl) ?_
 unfold i_newMatrix at h
 refine zQ ?_
 refine ROps.d (r := optr 0 1 0) (fs := [(0, zMx)]) (Γ' := [⟨1, some zMx⟩, ⟨0, none⟩]) rfl rfl rfl (TOp.alloc_o (g := ⟨0, none⟩) 0 rfl zer26 zok26 rfl) rfl ?_
 refine zN ?_
 refine RunC.seq ?_
 obtain ⟨x1, hx1, h⟩ := olet_some h
 obtain ⟨hm2, h⟩ := need_some h
 refine RunC.regionW ?_
 iterate 2 (refine zm (r := i64 a0) ?_; refine zm (r := i64 a1) ?_)
 refine zl (r := i64 x1) (LOp.eqr (LOp.mul rfl rfl rfl) (congrArg (ik .i64) hx1)) ?_
 refine ROps.d (r := oref 1 1 0 x1.toNat) (fs := [(1, ((List.replicate x1.toNat (some 0)).map f32))]) (Γ' := [⟨1, some zMx⟩, ⟨1, some ((List.replicate x1.toNat (some 0)).map f32)⟩]) rfl rfl rfl (TOp.mkS (g := ⟨0, none⟩) (t := 24) (e := 36) (by_ := 4) (f := f32) (zv := some 0) 1 rfl und24 tin36 rfl siz36 zer36 rfl zel36 rfl rfl rfl hm2) rfl ?_
 refine zl (r := agg [i64 a0, i64 a1, oref 1 1 0 x1.toNat]) (LOp.build (qs := [(0, [i64 a0]), (1, [i64 a1]), (2, [oref 1 1 0 x1.toNat])]) zer26 zok26 und26 plc26 rfl ⟨rfl, ⟨_, ALe.refl _, rfl⟩, ⟨rfl, ⟨_, ALe.refl _, rfl⟩, ⟨rfl, ⟨_, ALe.refl _, rfl⟩, trivial⟩⟩⟩ rfl) ?_
 refine ROps.store_le (r := agg [i64 a0, i64 a1, oref 1 1 0 x1.toNat]) (l' := [i64 a0, i64 a1, oref 1 1 0 x1.toNat]) (Γ' := [⟨1, some [i64 a0, i64 a1, oref 1 1 0 x1.toNat]⟩, ⟨1, some ((List.replicate x1.toNat (some 0)).map f32)⟩]) rfl siz26 rfl rfl rfl aR rfl rfl rfl rfl (Nat.le_of_ble_eq_true rfl) rfl rfl ?_
 refine zN ?_
 refine RunC.ret ?_
 have hq := Option.some.inj h
 obtain ⟨hq0, hq⟩ := Prod.mk.inj hq
 obtain ⟨hq1, hq⟩ := Prod.mk.inj hq
 subst q0
 subst q1
 subst q2
 exact bodyQ.mk (r' := agg [i64 a0, i64 a1, oref 1 1 0 ((List.replicate x1.toNat (some 0)).length)]) [(1, 1)] (.inr rfl) rfl (show List.Nodup [1] from by decide) rfl rfl (Res.eq (Res.one rfl (RV.cell agg26 siz26 rfl rfl rfl rfl)) (by rw [(show (List.replicate x1.toNat (some 0)).length = x1.toNat from by simp)] <;> rfl)) (SelL.arr0 (f := f32) (fun _ => rfl) rfl trivial)
end Go.Proofs.Ytcjbfpoaidjpaaa
