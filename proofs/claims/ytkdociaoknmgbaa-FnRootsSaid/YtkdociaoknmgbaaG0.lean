/- Generated. -/
import Derived.Test.YtkdociaoknmgbaaTys
namespace Go.Proofs.Ytkdociaoknmgbaa
open Go Go.AM Go.AM.AV
set_option maxRecDepth 20000
set_option maxHeartbeats 4000000
set_option linter.unusedVariables false
set_option linter.unusedSimpArgs false
noncomputable def w_b10Long (a0 : List Int) (a1 : List Int) : Option (Bool) :=
 bsel (decide (1048576 < (a0.length : Int))) (
  some true) (
  some (decide (1048576 < (a1.length : Int))))
theorem w_b10Long_ok (a0 : List Int) (a1 : List Int) (q0 : Bool) (h : w_b10Long a0 a1 = some q0) : Ev Try.prog 7 [sl a0.length (a0.map (ik .u8)), sl a1.length (a1.map (ik .u8))] [] (b q0) [] := by
 refine Ev.start Try.func7 rfl rfl 0 (τ := [(0, sl a0.length (a0.map (ik .u8))), (1, sl a1.length (a1.map (ik .u8)))]) rfl (Γ' := []) rfl (n := 27) rfl (g := 0) rfl (fun _ => rfl) ?_
 unfold w_b10Long at h
 refine zQ ?_
 refine za (r := b false) ?_
 refine zN ?_
 refine RunC.seq ?_
 rcases bsel_some h with ⟨hc1, h⟩ | ⟨hc1, h⟩
 ·refine RunC.regionW ?_
  refine zm (r := sl a0.length (a0.map (ik .u8))) ?_
  refine zl (r := i64 (a0.length : Int)) (LOp.len_sl und22 rfl rfl) ?_
  refine zl (r := b true) (LOp.eqb (LOp.gtr rfl rfl rfl) hc1) ?_
  refine zm (r := b true) ?_
  iterate 3 (refine ROps.s rfl rfl rfl ?_)
  refine zl (r := b true) (LOp.pick_true rfl rfl rfl) ?_
  refine za (r := b true) ?_
  refine zN ?_
  refine RunC.ret ?_
  have hq := Option.some.inj h
  subst q0
  exact bodyQ.pure (.inr rfl) rfl (Res.one rfl (RV.tmp rfl))
 ·refine RunC.regionW ?_
  refine zm (r := sl a0.length (a0.map (ik .u8))) ?_
  refine zl (r := i64 (a0.length : Int)) (LOp.len_sl und22 rfl rfl) ?_
  refine zl (r := b false) (LOp.eqb (LOp.gtr rfl rfl rfl) hc1) ?_
  refine zm (r := b false) ?_
  refine zm (r := sl a1.length (a1.map (ik .u8))) ?_
  refine zl (r := i64 (a1.length : Int)) (LOp.len_sl und22 rfl rfl) ?_
  refine zl (r := b (decide (1048576 < (a1.length : Int)))) (LOp.gtr rfl rfl rfl) ?_
  refine zl (r := b (decide (1048576 < (a1.length : Int)))) (LOp.pick_false rfl rfl rfl) ?_
  refine za (r := b (decide (1048576 < (a1.length : Int)))) ?_
  refine zN ?_
  refine RunC.ret ?_
  have hq := Option.some.inj h
  subst q0
  exact bodyQ.pure (.inr rfl) rfl (Res.one rfl (RV.tmp rfl))
noncomputable def w_b10At (a0 : List Int) (a1 : Int) (a2 : Int) : Option (Int) :=
 bsel (decide (a2 ≤ 1)) (
  some 0) (
  bsel (decide (a1 < (a0.length : Int))) (
   obind (at? a0 a1) fun (e1 : Int) =>
   olet (IntKind.i64.wrap e1) fun (x2 : Int) =>
   need (!decide (a2 = 0)) <|
   olet (x2.tmod a2) fun (x3 : Int) =>
   some x3) (
   olet (IntKind.i64.wrap (a1 * 37)) fun (x4 : Int) =>
   olet (IntKind.i64.wrap (x4 + 11)) fun (x5 : Int) =>
   need (!decide (a2 = 0)) <|
   olet (x5.tmod a2) fun (x6 : Int) =>
   some x6))
theorem w_b10At_ok (a0 : List Int) (a1 : Int) (a2 : Int) (q0 : Int) (h : w_b10At a0 a1 a2 = some q0) : Ev Try.prog 8 [sl a0.length (a0.map (ik .u8)), i64 a1, i64 a2] [] (i64 q0) [] := by
 refine Ev.start Try.func8 rfl rfl 0 (τ := [(0, sl a0.length (a0.map (ik .u8))), (1, i64 a1), (2, i64 a2)]) rfl (Γ' := []) rfl (n := 51) rfl (g := 0) rfl (fun _ => rfl) ?_
 unfold w_b10At at h
 refine zQ ?_
 refine za (r := i64 0) ?_
 refine zN ?_
 iterate 2 (refine RunC.seq ?_)
 rcases bsel_some h with ⟨hc1, h⟩ | ⟨hc1, h⟩
 ·refine RunC.regionW ?_
  refine zm (r := i64 a2) ?_
  refine zl (r := b true) (LOp.eqb (LOp.leq rfl rfl rfl) hc1) ?_
  refine zN ?_
  refine RunC.cond_true rfl rfl ?_
  refine zQ ?_
  refine za (r := i64 0) ?_
  refine zN ?_
  refine RunC.ret ?_
  have hq := Option.some.inj h
  subst q0
  exact bodyQ.pure (.inr rfl) rfl (Res.one rfl (RV.tmp rfl))
 ·refine RunC.regionW ?_
  refine zm (r := i64 a2) ?_
  refine zl (r := b false) (LOp.eqb (LOp.leq rfl rfl rfl) hc1) ?_
  refine zN ?_
  refine RunC.cond_false rfl rfl ?_
  refine RunC.skip ?_
  iterate 2 (refine RunC.seq ?_)
  rcases bsel_some h with ⟨hc2, h⟩ | ⟨hc2, h⟩
  ·refine RunC.regionW ?_
   refine zm (r := i64 a1) ?_
   refine zm (r := sl a0.length (a0.map (ik .u8))) ?_
   refine zl (r := i64 (a0.length : Int)) (LOp.len_sl und22 rfl rfl) ?_
   refine zl (r := b true) (LOp.eqb (LOp.lss rfl rfl rfl) hc2) ?_
   refine zN ?_
   refine RunC.cond_true rfl rfl ?_
   refine RunC.seq ?_
   obtain ⟨e1, he3, h⟩ := obind_some h
   obtain ⟨x2, hx4, h⟩ := olet_some h
   obtain ⟨hz5, h⟩ := need_some h
   obtain ⟨x3, hx6, h⟩ := olet_some h
   refine RunC.regionW ?_
   refine zm (r := sl a0.length (a0.map (ik .u8))) ?_
   refine zm (r := i64 a1) ?_
   refine zl (r := ptr [ik .u8 e1]) (LOp.le (LOp.ix (f := (ik .u8)) und22 siz5 rfl rfl rfl rfl he3) ALe.ptr) ?_
   refine zl (r := ik .u8 e1) (LOp.load1 agg5 rfl rfl) ?_
   refine zl (r := i64 x2) (LOp.eqr (LOp.i2i (src := 5) (dst := 2) ⟨_, pun5⟩ pun2 rfl rfl) (congrArg (ik .i64) hx4)) ?_
   refine zm (r := i64 a2) ?_
   refine zl (r := i64 x3) (LOp.eqr (LOp.rem rfl rfl rfl (nz hz5)) (congrArg (ik .i64) hx6)) ?_
   refine za (r := i64 x3) ?_
   refine zN ?_
   refine RunC.ret ?_
   have hq := Option.some.inj h
   subst q0
   exact bodyQ.pure (.inr rfl) rfl (Res.one rfl (RV.tmp rfl))
  ·refine RunC.regionW ?_
   refine zm (r := i64 a1) ?_
   refine zm (r := sl a0.length (a0.map (ik .u8))) ?_
   refine zl (r := i64 (a0.length : Int)) (LOp.len_sl und22 rfl rfl) ?_
   refine zl (r := b false) (LOp.eqb (LOp.lss rfl rfl rfl) hc2) ?_
   refine zN ?_
   refine RunC.cond_false rfl rfl ?_
   refine RunC.skip ?_
   refine RunC.seq ?_
   obtain ⟨x4, hx7, h⟩ := olet_some h
   obtain ⟨x5, hx8, h⟩ := olet_some h
   obtain ⟨hz9, h⟩ := need_some h
   obtain ⟨x6, hx10, h⟩ := olet_some h
   refine RunC.regionW ?_
   refine zm (r := i64 a1) ?_
   refine zl (r := i64 x4) (LOp.eqr (LOp.mul rfl rfl rfl) (congrArg (ik .i64) hx7)) ?_
   refine zl (r := i64 x5) (LOp.eqr (LOp.add rfl rfl rfl) (congrArg (ik .i64) hx8)) ?_
   refine zm (r := i64 a2) ?_
   refine zl (r := i64 x6) (LOp.eqr (LOp.rem rfl rfl rfl (nz hz9)) (congrArg (ik .i64) hx10)) ?_
   refine za (r := i64 x6) ?_
   refine zN ?_
   refine RunC.ret ?_
   have hq := Option.some.inj h
   subst q0
   exact bodyQ.pure (.inr rfl) rfl (Res.one rfl (RV.tmp rfl))
noncomputable def s_l00From (a0 : List Int) : Option ((List Int) × Int × Int) :=
 some (a0, 0, 0)
theorem s_l00From_ok (a0 : List Int) (q0 : List Int) (q1 : Int) (q2 : Int) (h : s_l00From a0 = some (q0, q1, q2)) : Ev Try.prog 71 [sl a0.length (a0.map (ik .u8))] [] (optr 0 0 0) [⟨0, some [sl q0.length (q0.map (ik .u8)), i64 q1, ik .u64 q2]⟩] := by
 refine Ev.start Try.func71 rfl rfl 1 (τ := [(0, sl a0.length (a0.map (ik .u8)))]) rfl (Γ' := [⟨0, none⟩]) rfl (n := 13) rfl (g := 0) rfl (fun _ => rfl) ?_
 unfold s_l00From at h
 refine zQ ?_
 refine za (r := x (.pointer none)) ?_
 refine zN ?_
 refine zQ ?_
 refine zm (r := sl a0.length (a0.map (ik .u8))) ?_
 refine zl (r := agg [sl a0.length (a0.map (ik .u8)), i64 0, ik .u64 0]) (LOp.build (qs := [(0, [sl a0.length (a0.map (ik .u8))])]) zer136 zok136 und136 plc136 rfl ⟨rfl, ⟨_, ALe.refl _, rfl⟩, trivial⟩ rfl) ?_
 refine ROps.d (r := optr 0 1 0) (fs := [(0, [sl a0.length (a0.map (ik .u8)), i64 0, ik .u64 0])]) (Γ' := [⟨1, some [sl a0.length (a0.map (ik .u8)), i64 0, ik .u64 0]⟩]) rfl rfl rfl (TOp.box_o (g := ⟨0, none⟩) 0 rfl rfl rfl rfl) rfl ?_
 refine za (r := optr 0 1 0) ?_
 refine zN ?_
 refine RunC.ret ?_
 have hq := Option.some.inj h
 obtain ⟨hq0, hq⟩ := Prod.mk.inj hq
 obtain ⟨hq1, hq⟩ := Prod.mk.inj hq
 subst q0
 subst q1
 subst q2
 exact bodyQ.mk (r' := optr 0 1 0) [(0, 1)] (.inr rfl) rfl (show List.Nodup [0] from by decide) rfl rfl (Res.one rfl (RV.tmp rfl)) (SelL.cells0 rfl (by first | rfl | simp [ren, rens, sigma, rens_f32, rens_f64, rens_i64, rens_ik, rens_str, rens_cp]) (lts_cons (lt_slk (fun _ => rfl)) (lts_cons rfl (lts_cons rfl lts_nil))) trivial)
noncomputable def s_l02Blank (a0 : Int) (a1 : Int) : Option (Int × Int × (List F)) :=
 some (a0, a1, ([] : List F))
theorem s_l02Blank_ok (a0 : Int) (a1 : Int) (q0 : Int) (q1 : Int) (q2 : List F) (h : s_l02Blank a0 a1 = some (q0, q1, q2)) : Ev Try.prog 161 [i64 a0, i64 a1] [] (agg (oXc q0 q1 0 0 q2.length)) [⟨0, some (q2.map f32)⟩] := by
 refine Ev.start Try.func161 rfl rfl 2 (τ := [(0, i64 a0), (1, i64 a1)]) rfl (Γ' := [⟨0, none⟩, ⟨0, none⟩]) rfl (n := 19) rfl (g := 0) rfl (fun _ => rfl) ?_
 unfold s_l02Blank at h
 refine zQ ?_
 refine ROps.d (r := optr 0 1 0) (fs := [(0, zMx)]) (Γ' := [⟨1, some zMx⟩, ⟨0, none⟩]) rfl rfl rfl (TOp.alloc_o (g := ⟨0, none⟩) 0 rfl zer33 zok33 rfl) rfl ?_
 refine zN ?_
 refine zQ ?_
 refine zm (r := i64 a0) ?_
 refine zm (r := i64 a1) ?_
 refine ROps.d (r := oref 1 1 0 0) (fs := [(1, (([] : List F).map f32))]) (Γ' := [⟨1, some zMx⟩, ⟨1, some (([] : List F).map f32)⟩]) rfl rfl rfl (TOp.buildSlice_o (g := ⟨0, none⟩) (za := f32 (some 0)) (qs := []) 1 rfl und26 siz28 zer28 rfl zel28 rfl rfl trivial rfl) rfl ?_
 refine zl (r := agg [i64 a0, i64 a1, oref 1 1 0 0]) (LOp.build (qs := [(0, [i64 a0]), (1, [i64 a1]), (2, [oref 1 1 0 0])]) zer33 zok33 und33 plc33 rfl ⟨rfl, ⟨_, ALe.refl _, rfl⟩, ⟨rfl, ⟨_, ALe.refl _, rfl⟩, ⟨rfl, ⟨_, ALe.refl _, rfl⟩, trivial⟩⟩⟩ rfl) ?_
 refine ROps.store_le (r := agg [i64 a0, i64 a1, oref 1 1 0 0]) (l' := [i64 a0, i64 a1, oref 1 1 0 0]) (Γ' := [⟨1, some [i64 a0, i64 a1, oref 1 1 0 0]⟩, ⟨1, some (([] : List F).map f32)⟩]) rfl siz33 rfl rfl rfl aR rfl rfl rfl rfl (Nat.le_of_ble_eq_true rfl) rfl rfl ?_
 refine zN ?_
 refine RunC.ret ?_
 have hq := Option.some.inj h
 obtain ⟨hq0, hq⟩ := Prod.mk.inj hq
 obtain ⟨hq1, hq⟩ := Prod.mk.inj hq
 subst q0
 subst q1
 subst q2
 exact bodyQ.mk (r' := agg [i64 a0, i64 a1, oref 1 1 0 (([] : List F).length)]) [(1, 1)] (.inr rfl) rfl (show List.Nodup [1] from by decide) rfl rfl (Res.eq (Res.one rfl (RV.cell agg33 siz33 rfl rfl rfl rfl)) (by rw [(show ([] : List F).length = 0 from rfl)] <;> rfl)) (SelL.arr0 (f := f32) (fun _ => rfl) rfl trivial)
noncomputable def s_l00Src_next_0p0_C0_k1 (a0 : List Int) (a1 : Int) (a2 : Int) (v3 : Int) : Option (Int × Int × Int) :=
 olet (IntKind.i64.wrap (a1 + 1)) fun (x4 : Int) =>
 olet (IntKind.u64.wrap (a2 * 6364136223846793005)) fun (x5 : Int) =>
 olet (IntKind.u64.wrap v3) fun (x6 : Int) =>
 olet (IntKind.u64.wrap (x5 + x6)) fun (x7 : Int) =>
 olet (IntKind.u64.wrap (x7 + 1442695040888963407)) fun (x8 : Int) =>
 bsel (decide (x4 ≤ (a0.length : Int))) (
  some (v3, x4, x8)) (
  need (decide ((0 : Int) ≤ 40)) <|
  olet (ishr .u64 x8 40) fun (x9 : Int) =>
  olet (iand .u64 x9 255) fun (x10 : Int) =>
  olet (IntKind.i64.wrap x10) fun (x11 : Int) =>
  some (x11, x4, x8))
noncomputable def s_l00Src_next_0p0_C0 (a0 : List Int) (a1 : Int) (a2 : Int) : Option (Int × Int × Int) :=
 bsel (decide (a1 < (a0.length : Int))) (
  obind (at? a0 a1) fun (e1 : Int) =>
  olet (IntKind.i64.wrap e1) fun (x2 : Int) =>
  s_l00Src_next_0p0_C0_k1 a0 a1 a2 x2) (
  s_l00Src_next_0p0_C0_k1 a0 a1 a2 0)
theorem s_l00Src_next_0p0_C0_ok (a0 : List Int) (a1 : Int) (a2 : Int) (q0 : Int) (q1 : Int) (q2 : Int) (h : s_l00Src_next_0p0_C0 a0 a1 a2 = some (q0, q1, q2)) : Ev Try.prog 140 [optr 0 0 0] [⟨0, some [sl a0.length (a0.map (ik .u8)), i64 a1, ik .u64 a2]⟩] (i64 q0) [⟨0, some [sl a0.length (a0.map (ik .u8)), i64 q1, ik .u64 q2]⟩] := by
 refine Ev.start Try.func140 rfl rfl 0 (τ := [(0, optr 0 0 0)]) rfl (Γ' := [⟨0, some [sl a0.length (a0.map (ik .u8)), i64 a1, ik .u64 a2]⟩]) rfl (n := 124) rfl (g := 1) rfl (by decide) ?_
 unfold s_l00Src_next_0p0_C0 at h
 iterate 2 (refine zQ ?_; refine za (r := i64 0) ?_; refine zN ?_)
 refine RunC.seq ?_
 refine RunC.cutN (fun τ Γ => ∃ (v3 : Int), WeakLe τ [(0, optr 0 0 0), (3, i64 v3)] ∧ DeadLe Γ [⟨0, some [sl a0.length (a0.map (ik .u8)), i64 a1, ik .u64 a2]⟩] ∧ s_l00Src_next_0p0_C0_k1 a0 a1 a2 v3 = some (q0, q1, q2)) ?_ ?_
 ·refine RunC.seq ?_
  rcases bsel_some h with ⟨hc1, h⟩ | ⟨hc1, h⟩
  ·refine RunC.region_draw (Γ' := [⟨0, some [sl a0.length (a0.map (ik .u8)), i64 a1, ik .u64 a2]⟩]) 10 mixed 
    (TR.l (r := optr 0 0 0) rfl rfl (LOp.move rfl rfl) <|
    (TR.l (r := optr 0 0 0) rfl rfl (LOp.nilCheck_optr rfl rfl) <|
    (TR.l (r := optr 0 0 1) rfl rfl (LOp.fao und136 rfl siz3 rfl rfl rfl) <|
    (TR.d (r := i64 a1) (fs := []) rfl rfl (TOp.load1_o rfl rfl agg3 rfl rfl) <|
    (TR.l (r := optr 0 0 0) rfl rfl (LOp.move rfl rfl) <|
    (TR.l (r := optr 0 0 0) rfl rfl (LOp.nilCheck_optr rfl rfl) <|
    (TR.l (r := optr 0 0 0) rfl rfl (LOp.fao und136 rfl siz22 rfl rfl rfl) <|
    (TR.d (r := sl a0.length (a0.map (ik .u8))) (fs := []) rfl rfl (TOp.load1_o rfl rfl agg22 rfl rfl) <|
    (TR.l (r := i64 (a0.length : Int)) rfl rfl (LOp.len_sl und22 rfl rfl) <|
    (TR.l (r := b true) rfl rfl (LOp.eqb (LOp.lss rfl rfl rfl) hc1) <|
    TR.nil)))))))))) rfl (by kernel_rfl) rfl fills_nil rfl ?_
   iterate 10 refine ROps.dropS ?_
   refine ROps.drop0 ?_
   refine zN ?_
   refine RunC.cond_true rfl rfl ?_
   obtain ⟨e1, he2, h⟩ := obind_some h
   obtain ⟨x2, hx3, h⟩ := olet_some h
   refine RunC.region_draw (Γ' := [⟨0, some [sl a0.length (a0.map (ik .u8)), i64 a1, ik .u64 a2]⟩]) 12 mixed 
    (TR.l (r := optr 0 0 0) rfl rfl (LOp.move rfl rfl) <|
    (TR.l (r := optr 0 0 0) rfl rfl (LOp.nilCheck_optr rfl rfl) <|
    (TR.l (r := optr 0 0 0) rfl rfl (LOp.fao und136 rfl siz22 rfl rfl rfl) <|
    (TR.d (r := sl a0.length (a0.map (ik .u8))) (fs := []) rfl rfl (TOp.load1_o rfl rfl agg22 rfl rfl) <|
    (TR.l (r := optr 0 0 0) rfl rfl (LOp.move rfl rfl) <|
    (TR.l (r := optr 0 0 0) rfl rfl (LOp.nilCheck_optr rfl rfl) <|
    (TR.l (r := optr 0 0 1) rfl rfl (LOp.fao und136 rfl siz3 rfl rfl rfl) <|
    (TR.d (r := i64 a1) (fs := []) rfl rfl (TOp.load1_o rfl rfl agg3 rfl rfl) <|
    (TR.l (r := ptr [ik .u8 e1]) rfl rfl (LOp.le (LOp.ix (f := (ik .u8)) und22 siz5 rfl rfl rfl rfl he2) ALe.ptr) <|
    (TR.l (r := ik .u8 e1) rfl rfl (LOp.load1 agg5 rfl rfl) <|
    (TR.l (r := i64 x2) rfl rfl (LOp.eqr (LOp.i2i (src := 5) (dst := 3) ⟨_, pun5⟩ pun3 rfl rfl) (congrArg (ik .i64) hx3)) <|
    (TR.l (r := i64 x2) rfl rfl (LOp.assign rfl rfl) <|
    TR.nil)))))))))))) rfl (by kernel_rfl) rfl fills_nil rfl ?_
   iterate 12 refine ROps.dropS ?_
   refine ROps.drop0 ?_
   refine zN ?_
   exact ⟨x2, ⟨aR, aR, trivial⟩, ⟨⟨rfl, .inr rfl⟩, trivial⟩, h⟩
  ·refine RunC.region_draw (Γ' := [⟨0, some [sl a0.length (a0.map (ik .u8)), i64 a1, ik .u64 a2]⟩]) 10 mixed 
    (TR.l (r := optr 0 0 0) rfl rfl (LOp.move rfl rfl) <|
    (TR.l (r := optr 0 0 0) rfl rfl (LOp.nilCheck_optr rfl rfl) <|
    (TR.l (r := optr 0 0 1) rfl rfl (LOp.fao und136 rfl siz3 rfl rfl rfl) <|
    (TR.d (r := i64 a1) (fs := []) rfl rfl (TOp.load1_o rfl rfl agg3 rfl rfl) <|
    (TR.l (r := optr 0 0 0) rfl rfl (LOp.move rfl rfl) <|
    (TR.l (r := optr 0 0 0) rfl rfl (LOp.nilCheck_optr rfl rfl) <|
    (TR.l (r := optr 0 0 0) rfl rfl (LOp.fao und136 rfl siz22 rfl rfl rfl) <|
    (TR.d (r := sl a0.length (a0.map (ik .u8))) (fs := []) rfl rfl (TOp.load1_o rfl rfl agg22 rfl rfl) <|
    (TR.l (r := i64 (a0.length : Int)) rfl rfl (LOp.len_sl und22 rfl rfl) <|
    (TR.l (r := b false) rfl rfl (LOp.eqb (LOp.lss rfl rfl rfl) hc1) <|
    TR.nil)))))))))) rfl (by kernel_rfl) rfl fills_nil rfl ?_
   iterate 10 refine ROps.dropS ?_
   refine ROps.drop0 ?_
   refine zN ?_
   refine RunC.cond_false rfl rfl ?_
   refine RunC.skip ?_
   exact ⟨0, ⟨aR, aR, trivial⟩, ⟨⟨rfl, .inr rfl⟩, trivial⟩, h⟩
 ·rintro τ2 Γ2 ⟨v3, hw2, hd2, h⟩
  refine RunC.wl hw2 hd2 ?_
  unfold s_l00Src_next_0p0_C0_k1 at h
  refine RunC.seq ?_
  obtain ⟨x4, hx4, h⟩ := olet_some h
  refine RunC.regionW ?_
  refine zm (r := optr 0 0 0) ?_
  refine zl (r := optr 0 0 0) (LOp.nilCheck_optr rfl rfl) ?_
  refine zl (r := optr 0 0 1) (LOp.fao und136 rfl siz3 rfl rfl rfl) ?_
  refine ROps.d (r := i64 a1) (fs := []) (Γ' := [⟨0, some [sl a0.length (a0.map (ik .u8)), i64 a1, ik .u64 a2]⟩]) rfl rfl rfl (TOp.load1_o rfl rfl agg3 rfl rfl) rfl ?_
  refine zl (r := i64 x4) (LOp.eqr (LOp.add rfl rfl rfl) (congrArg (ik .i64) hx4)) ?_
  refine zl (r := optr 0 0 0) (LOp.nilCheck_optr rfl rfl) ?_
  refine zl (r := optr 0 0 1) (LOp.fao und136 rfl siz3 rfl rfl rfl) ?_
  refine ROps.store_le (r := i64 x4) (l' := [sl a0.length (a0.map (ik .u8)), i64 x4, ik .u64 a2]) (Γ' := [⟨0, some [sl a0.length (a0.map (ik .u8)), i64 x4, ik .u64 a2]⟩]) rfl siz3 rfl rfl rfl aR rfl rfl rfl rfl (Nat.le_of_ble_eq_true rfl) rfl rfl ?_
  refine zN ?_
  refine RunC.seq ?_
  obtain ⟨x5, hx5, h⟩ := olet_some h
  obtain ⟨x6, hx6, h⟩ := olet_some h
  obtain ⟨x7, hx7, h⟩ := olet_some h
  obtain ⟨x8, hx8, h⟩ := olet_some h
  refine RunC.regionW ?_
  iterate 2 (refine zm (r := optr 0 0 0) ?_)
  refine zl (r := optr 0 0 0) (LOp.nilCheck_optr rfl rfl) ?_
  refine zl (r := optr 0 0 2) (LOp.fao und136 rfl siz134 rfl rfl rfl) ?_
  refine ROps.d (r := ik .u64 a2) (fs := []) (Γ' := [⟨0, some [sl a0.length (a0.map (ik .u8)), i64 x4, ik .u64 a2]⟩]) rfl rfl rfl (TOp.load1_o rfl rfl agg134 rfl rfl) rfl ?_
  refine zl (r := ik .u64 x5) (LOp.eqr (LOp.mul rfl rfl rfl) (congrArg (ik .u64) hx5)) ?_
  refine zm (r := i64 v3) ?_
  refine zl (r := ik .u64 x6) (LOp.eqr (LOp.i2i (src := 3) (dst := 134) ⟨_, pun3⟩ pun134 rfl rfl) (congrArg (ik .u64) hx6)) ?_
  refine zl (r := ik .u64 x7) (LOp.eqr (LOp.add rfl rfl rfl) (congrArg (ik .u64) hx7)) ?_
  refine zl (r := ik .u64 x8) (LOp.eqr (LOp.add rfl rfl rfl) (congrArg (ik .u64) hx8)) ?_
  refine zl (r := optr 0 0 0) (LOp.nilCheck_optr rfl rfl) ?_
  refine zl (r := optr 0 0 2) (LOp.fao und136 rfl siz134 rfl rfl rfl) ?_
  refine ROps.store_le (r := ik .u64 x8) (l' := [sl a0.length (a0.map (ik .u8)), i64 x4, ik .u64 x8]) (Γ' := [⟨0, some [sl a0.length (a0.map (ik .u8)), i64 x4, ik .u64 x8]⟩]) rfl siz134 rfl rfl rfl aR rfl rfl rfl rfl (Nat.le_of_ble_eq_true rfl) rfl rfl ?_
  refine zN ?_
  refine RunC.wl (τ' := [(0, optr 0 0 0), (3, i64 v3)]) (Γ' := [⟨0, some [sl a0.length (a0.map (ik .u8)), i64 x4, ik .u64 x8]⟩]) ⟨aR, aR, trivial⟩ ⟨⟨rfl, .inr rfl⟩, trivial⟩ ?_
  iterate 2 (refine RunC.seq ?_)
  rcases bsel_some h with ⟨hc9, h⟩ | ⟨hc9, h⟩
  ·refine RunC.region_draw (Γ' := [⟨0, some [sl a0.length (a0.map (ik .u8)), i64 x4, ik .u64 x8]⟩]) 10 mixed 
    (TR.l (r := optr 0 0 0) rfl rfl (LOp.move rfl rfl) <|
    (TR.l (r := optr 0 0 0) rfl rfl (LOp.nilCheck_optr rfl rfl) <|
    (TR.l (r := optr 0 0 1) rfl rfl (LOp.fao und136 rfl siz3 rfl rfl rfl) <|
    (TR.d (r := i64 x4) (fs := []) rfl rfl (TOp.load1_o rfl rfl agg3 rfl rfl) <|
    (TR.l (r := optr 0 0 0) rfl rfl (LOp.move rfl rfl) <|
    (TR.l (r := optr 0 0 0) rfl rfl (LOp.nilCheck_optr rfl rfl) <|
    (TR.l (r := optr 0 0 0) rfl rfl (LOp.fao und136 rfl siz22 rfl rfl rfl) <|
    (TR.d (r := sl a0.length (a0.map (ik .u8))) (fs := []) rfl rfl (TOp.load1_o rfl rfl agg22 rfl rfl) <|
    (TR.l (r := i64 (a0.length : Int)) rfl rfl (LOp.len_sl und22 rfl rfl) <|
    (TR.l (r := b true) rfl rfl (LOp.eqb (LOp.leq rfl rfl rfl) hc9) <|
    TR.nil)))))))))) rfl (by kernel_rfl) rfl fills_nil rfl ?_
   iterate 10 refine ROps.dropS ?_
   refine ROps.drop0 ?_
   refine zN ?_
   refine RunC.cond_true rfl rfl ?_
   refine zQ ?_
   refine zm (r := i64 v3) ?_
   refine za (r := i64 v3) ?_
   refine zN ?_
   refine RunC.ret ?_
   have hq := Option.some.inj h
   obtain ⟨hq0, hq⟩ := Prod.mk.inj hq
   obtain ⟨hq1, hq⟩ := Prod.mk.inj hq
   subst q0
   subst q1
   subst q2
   exact bodyQ.mk (r' := i64 v3) [(0, 0)] (.inr rfl) rfl (show List.Nodup [0] from by decide) rfl rfl (Res.one rfl (RV.tmp rfl)) (SelL.cells rfl (by first | rfl | simp [ren, rens, sigma, rens_f32, rens_f64, rens_i64, rens_ik, rens_str, rens_cp]) (lts_cons (lt_slk (fun _ => rfl)) (lts_cons rfl (lts_cons rfl lts_nil))) trivial)
  ·refine RunC.region_draw (Γ' := [⟨0, some [sl a0.length (a0.map (ik .u8)), i64 x4, ik .u64 x8]⟩]) 10 mixed 
    (TR.l (r := optr 0 0 0) rfl rfl (LOp.move rfl rfl) <|
    (TR.l (r := optr 0 0 0) rfl rfl (LOp.nilCheck_optr rfl rfl) <|
    (TR.l (r := optr 0 0 1) rfl rfl (LOp.fao und136 rfl siz3 rfl rfl rfl) <|
    (TR.d (r := i64 x4) (fs := []) rfl rfl (TOp.load1_o rfl rfl agg3 rfl rfl) <|
    (TR.l (r := optr 0 0 0) rfl rfl (LOp.move rfl rfl) <|
    (TR.l (r := optr 0 0 0) rfl rfl (LOp.nilCheck_optr rfl rfl) <|
    (TR.l (r := optr 0 0 0) rfl rfl (LOp.fao und136 rfl siz22 rfl rfl rfl) <|
    (TR.d (r := sl a0.length (a0.map (ik .u8))) (fs := []) rfl rfl (TOp.load1_o rfl rfl agg22 rfl rfl) <|
    (TR.l (r := i64 (a0.length : Int)) rfl rfl (LOp.len_sl und22 rfl rfl) <|
    (TR.l (r := b false) rfl rfl (LOp.eqb (LOp.leq rfl rfl rfl) hc9) <|
    TR.nil)))))))))) rfl (by kernel_rfl) rfl fills_nil rfl ?_
   iterate 10 refine ROps.dropS ?_
   refine ROps.drop0 ?_
   refine zN ?_
   refine RunC.cond_false rfl rfl ?_
   refine RunC.skip ?_
   refine RunC.seq ?_
   obtain ⟨hz10, h⟩ := need_some h
   obtain ⟨x9, hx11, h⟩ := olet_some h
   obtain ⟨x10, hx12, h⟩ := olet_some h
   obtain ⟨x11, hx13, h⟩ := olet_some h
   refine RunC.regionW ?_
   refine zm (r := optr 0 0 0) ?_
   refine zl (r := optr 0 0 0) (LOp.nilCheck_optr rfl rfl) ?_
   refine zl (r := optr 0 0 2) (LOp.fao und136 rfl siz134 rfl rfl rfl) ?_
   refine ROps.d (r := ik .u64 x8) (fs := []) (Γ' := [⟨0, some [sl a0.length (a0.map (ik .u8)), i64 x4, ik .u64 x8]⟩]) rfl rfl rfl (TOp.load1_o rfl rfl agg134 rfl rfl) rfl ?_
   refine zl (r := ik .u64 x9) (LOp.eqr (LOp.shr rfl rfl rfl (of_decide_eq_true hz10)) (congrArg (ik .u64) hx11)) ?_
   refine zl (r := ik .u64 x10) (LOp.eqr (LOp.iand rfl rfl rfl) (congrArg (ik .u64) hx12)) ?_
   refine zl (r := i64 x11) (LOp.eqr (LOp.i2i (src := 134) (dst := 2) ⟨_, pun134⟩ pun2 rfl rfl) (congrArg (ik .i64) hx13)) ?_
   refine za (r := i64 x11) ?_
   refine zN ?_
   refine RunC.ret ?_
   have hq := Option.some.inj h
   obtain ⟨hq0, hq⟩ := Prod.mk.inj hq
   obtain ⟨hq1, hq⟩ := Prod.mk.inj hq
   subst q0
   subst q1
   subst q2
   exact bodyQ.mk (r' := i64 x11) [(0, 0)] (.inr rfl) rfl (show List.Nodup [0] from by decide) rfl rfl (Res.one rfl (RV.tmp rfl)) (SelL.cells rfl (by first | rfl | simp [ren, rens, sigma, rens_f32, rens_f64, rens_i64, rens_ik, rens_str, rens_cp]) (lts_cons (lt_slk (fun _ => rfl)) (lts_cons rfl (lts_cons rfl lts_nil))) trivial)
noncomputable def s_l00Src_pick_0p0_C0_k1 (a0 : Int) (v9 : Int) (v10 : Int) (v11 : Int) : Option (Int × Int × Int) :=
 need (!decide (a0 = 0)) <|
 olet (v11.tmod a0) fun (x12 : Int) =>
 some (x12, v9, v10)
noncomputable def s_l00Src_pick_0p0_C0 (a0 : Int) (a1 : List Int) (a2 : Int) (a3 : Int) : Option (Int × Int × Int) :=
 bsel (decide (a0 ≤ 1)) (
  some (0, a2, a3)) (
  obind3 (s_l00Src_next_0p0_C0 a1 a2 a3) fun (r1 : Int) (r2 : Int) (r3 : Int) =>
  bsel (decide (200 < a0)) (
   olet (IntKind.i64.wrap (r1 * 256)) fun (x4 : Int) =>
   obind3 (s_l00Src_next_0p0_C0 a1 r2 r3) fun (r5 : Int) (r6 : Int) (r7 : Int) =>
   olet (IntKind.i64.wrap (x4 + r5)) fun (x8 : Int) =>
   s_l00Src_pick_0p0_C0_k1 a0 r6 r7 x8) (
   s_l00Src_pick_0p0_C0_k1 a0 r2 r3 r1))
theorem s_l00Src_pick_0p0_C0_ok (a0 : Int) (a1 : List Int) (a2 : Int) (a3 : Int) (q0 : Int) (q1 : Int) (q2 : Int) (h : s_l00Src_pick_0p0_C0 a0 a1 a2 a3 = some (q0, q1, q2)) : Ev Try.prog 72 [optr 0 0 0, i64 a0] [⟨0, some [sl a1.length (a1.map (ik .u8)), i64 a2, ik .u64 a3]⟩] (i64 q0) [⟨0, some [sl a1.length (a1.map (ik .u8)), i64 q1, ik .u64 q2]⟩] := by
 refine Ev.start Try.func72 rfl rfl 0 (τ := [(0, optr 0 0 0), (1, i64 a0)]) rfl (Γ' := [⟨0, some [sl a1.length (a1.map (ik .u8)), i64 a2, ik .u64 a3]⟩]) rfl (n := 40) rfl (g := 1) rfl (by decide) ?_
 unfold s_l00Src_pick_0p0_C0 at h
 refine zQ ?_
 refine za (r := i64 0) ?_
 refine zN ?_
 iterate 2 (refine RunC.seq ?_)
 rcases bsel_some h with ⟨hc1, h⟩ | ⟨hc1, h⟩
 ·refine RunC.regionW ?_
  refine zm (r := i64 a0) ?_
  refine zl (r := b true) (LOp.eqb (LOp.leq rfl rfl rfl) hc1) ?_
  refine zN ?_
  refine RunC.cond_true rfl rfl ?_
  refine zQ ?_
  refine za (r := i64 0) ?_
  refine zN ?_
  refine RunC.ret ?_
  have hq := Option.some.inj h
  obtain ⟨hq0, hq⟩ := Prod.mk.inj hq
  obtain ⟨hq1, hq⟩ := Prod.mk.inj hq
  subst q0
  subst q1
  subst q2
  exact bodyQ.mk (r' := i64 0) [(0, 0)] (.inr rfl) rfl (show List.Nodup [0] from by decide) rfl rfl (Res.one rfl (RV.tmp rfl)) (SelL.cells rfl (by first | rfl | simp [ren, rens, sigma, rens_f32, rens_f64, rens_i64, rens_ik, rens_str, rens_cp]) (lts_cons (lt_slk (fun _ => rfl)) (lts_cons rfl (lts_cons rfl lts_nil))) trivial)
 ·refine RunC.regionW ?_
  refine zm (r := i64 a0) ?_
  refine zl (r := b false) (LOp.eqb (LOp.leq rfl rfl rfl) hc1) ?_
  refine zN ?_
  refine RunC.cond_false rfl rfl ?_
  refine RunC.skip ?_
  refine RunC.seq ?_
  obtain ⟨r1, r2, r3, hf2, h⟩ := obind3_some h
  refine RunC.regionW ?_
  refine zm (r := optr 0 0 0) ?_
  refine ROps.callO (A := [optr 0 0 0]) (args := [optr 0 0 0]) (Γc := [⟨0, some [sl a1.length (a1.map (ik .u8)), i64 a2, ik .u64 a3]⟩]) (Γc' := [⟨0, some [sl a1.length (a1.map (ik .u8)), i64 r2, ik .u64 r3]⟩]) (r' := i64 r1) (Γ' := [⟨0, some [sl a1.length (a1.map (ik .u8)), i64 r2, ik .u64 r3]⟩]) [(0, 0)] [] rfl (CallAs.func ent140 rfl rfl) rfl rfl (SelOk.of (show List.Nodup [0] from by decide) (SelL.cells0 rfl (by simp [ren, rens, sigma, rens_f32, rens_f64, rens_i64, rens_ik, rens_str, rens_cp]) (lts_cons (lt_slk (fun _ => rfl)) (lts_cons rfl (lts_cons rfl lts_nil))) trivial)) (live_of ⟨⟨_, _, rfl⟩, trivial⟩) (by simp [ren, rens, sigma, rens_f32, rens_f64, rens_i64, rens_ik, rens_str, rens_cp]) rfl (s_l00Src_next_0p0_C0_ok a1 a2 a3 r1 r2 r3 hf2) rfl (news_of trivial) (show List.Nodup [0] from by decide) (by simp [ren, rens, sigma]) (by simp [backOb, sigma, ren, rens, rens_f32, rens_f64, rens_i64, rens_ik, rens_str, rens_cp]) ?_
  refine za (r := i64 r1) ?_
  refine zN ?_
  refine RunC.seq ?_
  refine RunC.cutN (fun τ Γ => ∃ (v9 : Int) (v10 : Int) (v11 : Int), WeakLe τ [(1, i64 a0), (5, i64 v11)] ∧ DeadLe Γ [⟨0, some [sl a1.length (a1.map (ik .u8)), i64 v9, ik .u64 v10]⟩] ∧ s_l00Src_pick_0p0_C0_k1 a0 v9 v10 v11 = some (q0, q1, q2)) ?_ ?_
  ·refine RunC.seq ?_
   rcases bsel_some h with ⟨hc3, h⟩ | ⟨hc3, h⟩
   ·refine RunC.regionW ?_
    refine zm (r := i64 a0) ?_
    refine zl (r := b true) (LOp.eqb (LOp.gtr rfl rfl rfl) hc3) ?_
    refine zN ?_
    refine RunC.cond_true rfl rfl ?_
    obtain ⟨x4, hx4, h⟩ := olet_some h
    obtain ⟨r5, r6, r7, hf5, h⟩ := obind3_some h
    obtain ⟨x8, hx6, h⟩ := olet_some h
    refine RunC.regionW ?_
    refine zm (r := i64 r1) ?_
    refine zl (r := i64 x4) (LOp.eqr (LOp.mul rfl rfl rfl) (congrArg (ik .i64) hx4)) ?_
    refine zm (r := optr 0 0 0) ?_
    refine ROps.callO (A := [optr 0 0 0]) (args := [optr 0 0 0]) (Γc := [⟨0, some [sl a1.length (a1.map (ik .u8)), i64 r2, ik .u64 r3]⟩]) (Γc' := [⟨0, some [sl a1.length (a1.map (ik .u8)), i64 r6, ik .u64 r7]⟩]) (r' := i64 r5) (Γ' := [⟨0, some [sl a1.length (a1.map (ik .u8)), i64 r6, ik .u64 r7]⟩]) [(0, 0)] [] rfl (CallAs.func ent140 rfl rfl) rfl rfl (SelOk.of (show List.Nodup [0] from by decide) (SelL.cells0 rfl (by simp [ren, rens, sigma, rens_f32, rens_f64, rens_i64, rens_ik, rens_str, rens_cp]) (lts_cons (lt_slk (fun _ => rfl)) (lts_cons rfl (lts_cons rfl lts_nil))) trivial)) (live_of ⟨⟨_, _, rfl⟩, trivial⟩) (by simp [ren, rens, sigma, rens_f32, rens_f64, rens_i64, rens_ik, rens_str, rens_cp]) rfl (s_l00Src_next_0p0_C0_ok a1 r2 r3 r5 r6 r7 hf5) rfl (news_of trivial) (show List.Nodup [0] from by decide) (by simp [ren, rens, sigma]) (by simp [backOb, sigma, ren, rens, rens_f32, rens_f64, rens_i64, rens_ik, rens_str, rens_cp]) ?_
    refine zl (r := i64 x8) (LOp.eqr (LOp.add rfl rfl rfl) (congrArg (ik .i64) hx6)) ?_
    refine za (r := i64 x8) ?_
    refine zN ?_
    exact ⟨r6, r7, x8, ⟨aR, aR, trivial⟩, ⟨⟨rfl, .inr rfl⟩, trivial⟩, h⟩
   ·refine RunC.regionW ?_
    refine zm (r := i64 a0) ?_
    refine zl (r := b false) (LOp.eqb (LOp.gtr rfl rfl rfl) hc3) ?_
    refine zN ?_
    refine RunC.cond_false rfl rfl ?_
    refine RunC.skip ?_
    exact ⟨r2, r3, r1, ⟨aR, aR, trivial⟩, ⟨⟨rfl, .inr rfl⟩, trivial⟩, h⟩
  ·rintro τ2 Γ2 ⟨v9, v10, v11, hw2, hd2, h⟩
   refine RunC.wl hw2 hd2 ?_
   unfold s_l00Src_pick_0p0_C0_k1 at h
   refine RunC.seq ?_
   obtain ⟨hz7, h⟩ := need_some h
   obtain ⟨x12, hx8, h⟩ := olet_some h
   refine RunC.regionW ?_
   refine zm (r := i64 v11) ?_
   refine zm (r := i64 a0) ?_
   refine zl (r := i64 x12) (LOp.eqr (LOp.rem rfl rfl rfl (nz hz7)) (congrArg (ik .i64) hx8)) ?_
   refine za (r := i64 x12) ?_
   refine zN ?_
   refine RunC.ret ?_
   have hq := Option.some.inj h
   obtain ⟨hq0, hq⟩ := Prod.mk.inj hq
   obtain ⟨hq1, hq⟩ := Prod.mk.inj hq
   subst q0
   subst q1
   subst q2
   exact bodyQ.mk (r' := i64 x12) [(0, 0)] (.inr rfl) rfl (show List.Nodup [0] from by decide) rfl rfl (Res.one rfl (RV.tmp rfl)) (SelL.cells rfl (by first | rfl | simp [ren, rens, sigma, rens_f32, rens_f64, rens_i64, rens_ik, rens_str, rens_cp]) (lts_cons (lt_slk (fun _ => rfl)) (lts_cons rfl (lts_cons rfl lts_nil))) trivial)
noncomputable def s_B10Square_k5 (L15 : List F) (v18 : Int) (v31 : Int) (v32 : Int) (y33 : F) : Option (LR ((List F) × Int × Int × Int) ((List F) × Int × Int) (Int × Int × (List F))) :=
 need (apok 4 L15.length 1) <|
 olet (IntKind.i64.wrap (v18 + 1)) fun (x34 : Int) =>
 some (LR.next ((L15 ++ ([y33] : List F)), v31, v32, x34))
noncomputable def s_B10Square_b6 (a1 : Int) (r1 : List Int) (v12 : Int) (L15 : List F) (v16 : Int) (v17 : Int) (v18 : Int) : Option (LR ((List F) × Int × Int × Int) ((List F) × Int × Int) (Int × Int × (List F))) :=
 bsel (decide (v18 < a1)) (
  obind3 (s_l00Src_pick_0p0_C0 9 r1 v16 v17) fun (r19 : Int) (r20 : Int) (r21 : Int) =>
  olet (IntKind.i64.wrap (r19 - 4)) fun (x22 : Int) =>
  olet (fint .f32 x22) fun (x23 : F) =>
  olet (fop .quo .f32 x23 (some 1082130432)) fun (x24 : F) =>
  bsel (decide (v12 = v18)) (
   obind3 (s_l00Src_pick_0p0_C0 9 r1 r20 r21) fun (r25 : Int) (r26 : Int) (r27 : Int) =>
   olet (IntKind.i64.wrap (24 + r25)) fun (x28 : Int) =>
   olet (fint .f32 x28) fun (x29 : F) =>
   olet (fop .quo .f32 x29 (some 1082130432)) fun (x30 : F) =>
   s_B10Square_k5 L15 v18 r26 r27 x30) (
   s_B10Square_k5 L15 v18 r20 r21 x24)) (
  some (LR.out (L15, v16, v17)))
noncomputable def s_B10Square_s6 (a1 : Int) (r1 : List Int) (v12 : Int) : ((List F) × Int × Int × Int) → Option (LR ((List F) × Int × Int × Int) ((List F) × Int × Int) (Int × Int × (List F))) := fun s => s_B10Square_b6 a1 r1 v12 s.1 s.2.1 s.2.2.1 s.2.2.2
noncomputable def s_B10Square_k6 (v12 : Int) (L37 : List F) (v38 : Int) (v39 : Int) : Option (LR ((List F) × Int × Int × Int) ((List F)) (Int × Int × (List F))) :=
 olet (IntKind.i64.wrap (v12 + 1)) fun (x40 : Int) =>
 some (LR.next (L37, v38, v39, x40))
noncomputable def s_B10Square_b7 (a1 : Int) (r1 : List Int) (L9 : List F) (v10 : Int) (v11 : Int) (v12 : Int) : Option (LR ((List F) × Int × Int × Int) ((List F)) (Int × Int × (List F))) :=
 bsel (decide (v12 < a1)) (
  obind (loopM (s_B10Square_s6 a1 r1 v12) (L9, v10, v11, 0)) fun z => osum z (fun e => s_B10Square_k6 v12 e.1 e.2.1 e.2.2) (fun r => some (LR.ret r))) (
  some (LR.out L9))
noncomputable def s_B10Square_s7 (a1 : Int) (r1 : List Int) : ((List F) × Int × Int × Int) → Option (LR ((List F) × Int × Int × Int) ((List F)) (Int × Int × (List F))) := fun s => s_B10Square_b7 a1 r1 s.1 s.2.1 s.2.2.1 s.2.2.2
noncomputable def s_B10Square_k7 (r4 : Int) (r5 : Int) (L43 : List F) : Option (Int × Int × (List F)) :=
 some (r4, r5, L43)
noncomputable def s_B10Square (a0 : List Int) (a1 : Int) : Option (Int × Int × (List F)) :=
 obind3 (s_l00From a0) fun (r1 : List Int) (r2 : Int) (r3 : Int) =>
 obind3 (s_l02Blank a1 a1) fun (r4 : Int) (r5 : Int) (r6 : List F) =>
 obind (loopM (s_B10Square_s7 a1 r1) (r6, r2, r3, 0)) fun z => osum z (fun e => s_B10Square_k7 r4 r5 e) (fun r => some r)
theorem s_B10Square_ok (a0 : List Int) (a1 : Int) (q0 : Int) (q1 : Int) (q2 : List F) (h : s_B10Square a0 a1 = some (q0, q1, q2)) : Ev Try.prog 112 [sl a0.length (a0.map (ik .u8)), i64 a1] [] (agg (oXc q0 q1 0 0 q2.length)) [⟨0, some (q2.map f32)⟩] := by
 refine Ev.start Try.func112 rfl rfl 5 (τ := [(0, sl a0.length (a0.map (ik .u8))), (1, i64 a1)]) rfl (Γ' := [⟨0, none⟩, ⟨0, none⟩, ⟨0, none⟩, ⟨0, none⟩, ⟨0, none⟩]) rfl (n := 91) rfl (g := 0) rfl (fun _ => rfl) ?_
 unfold s_B10Square at h
 refine zQ ?_
 refine ROps.d (r := optr 0 1 0) (fs := [(0, zMx)]) (Γ' := [⟨1, some zMx⟩, ⟨0, none⟩, ⟨0, none⟩, ⟨0, none⟩, ⟨0, none⟩]) rfl rfl rfl (TOp.alloc_o (g := ⟨0, none⟩) 0 rfl zer33 zok33 rfl) rfl ?_
 refine zN ?_
 refine RunC.seq ?_
 obtain ⟨r1, r2, r3, hf1, h⟩ := obind3_some h
 refine RunC.regionW ?_
 refine zm (r := sl a0.length (a0.map (ik .u8))) ?_
 refine ROps.d (r := optr 1 1 0) (fs := [(1, [sl r1.length (r1.map (ik .u8)), i64 r2, ik .u64 r3])]) (Γ' := [⟨1, some zMx⟩, ⟨1, some [sl r1.length (r1.map (ik .u8)), i64 r2, ik .u64 r3]⟩, ⟨0, none⟩, ⟨0, none⟩, ⟨0, none⟩]) rfl rfl rfl (TOp.callN (A := [sl a0.length (a0.map (ik .u8))]) (ls := [[sl r1.length (r1.map (ik .u8)), i64 r2, ik .u64 r3]]) [1] (by exact (CallAs.func ent71 rfl rfl)) (lts_cons (lt_sl (fun _ => rfl)) lts_nil) (s_l00From_ok a0 r1 r2 r3 hf1) (and_all (lts_cons (lt_sl (fun _ => rfl)) (lts_cons rfl (lts_cons rfl lts_nil))) rfl) rfl (by decide) (ns_of ⟨⟨_, rfl⟩, trivial⟩)) rfl ?_
 refine za (r := optr 1 1 0) ?_
 refine zN ?_
 refine RunC.seq ?_
 obtain ⟨r4, r5, r6, hf2, h⟩ := obind3_some h
 refine RunC.regionW ?_
 iterate 2 (refine zm (r := i64 a1) ?_)
 refine ROps.d (r := agg (oXc r4 r5 2 1 r6.length)) (fs := [(2, (r6.map f32))]) (Γ' := [⟨1, some zMx⟩, ⟨1, some [sl r1.length (r1.map (ik .u8)), i64 r2, ik .u64 r3]⟩, ⟨1, some (r6.map f32)⟩, ⟨0, none⟩, ⟨0, none⟩]) rfl rfl rfl (TOp.callBN (ls := [(r6.map f32)]) [2] (CallAs.func ent161 rfl rfl) (Bors.cons (Bor.pure rfl) (Bors.cons (Bor.pure rfl) Bors.nil)) rfl (s_l02Blank_ok a1 a1 r4 r5 r6 hf2) (and_all (lts0_map (f := f32) (fun _ => rfl) _) rfl) (and_all (noss_map (f := f32) (fun _ => rfl) _) rfl) rfl (by decide) (ns_of ⟨⟨_, rfl⟩, trivial⟩)) rfl ?_
 refine ROps.d (r := optr 3 1 0) (fs := [(3, zMx)]) (Γ' := [⟨1, some zMx⟩, ⟨1, some [sl r1.length (r1.map (ik .u8)), i64 r2, ik .u64 r3]⟩, ⟨1, some (r6.map f32)⟩, ⟨1, some zMx⟩, ⟨0, none⟩]) rfl rfl rfl (TOp.alloc_o (g := ⟨0, none⟩) 3 rfl zer33 zok33 rfl) rfl ?_
 refine ROps.store_le (r := agg (oXc r4 r5 2 1 r6.length)) (l' := (oXc r4 r5 2 1 r6.length)) (Γ' := [⟨1, some zMx⟩, ⟨1, some [sl r1.length (r1.map (ik .u8)), i64 r2, ik .u64 r3]⟩, ⟨1, some (r6.map f32)⟩, ⟨1, some (oXc r4 r5 2 1 r6.length)⟩, ⟨0, none⟩]) rfl siz33 rfl rfl rfl aR rfl rfl rfl rfl (Nat.le_of_ble_eq_true rfl) rfl rfl ?_
 refine zN ?_
 refine RunC.seq ?_
 refine zQ ?_
 refine za (r := i64 0) ?_
 refine zN ?_
 obtain ⟨z8, hz_8, h⟩ := obind_some h
 refine RunC.cutN (fun τ Γ => ∃ (L43 : List F) (u41 : Nat) (u42 : Nat), WeakLe τ [(4, optr 0 1 0), (6, optr 3 1 0)] ∧ DeadLe Γ [⟨1, some zMx⟩, ⟨1, none⟩, ⟨u41, some (L43.map f32)⟩, ⟨1, some (oXc r4 r5 2 u41 L43.length)⟩, ⟨u42, none⟩] ∧ z8 = .inl L43) ?_ ?_
 ·refine RunC.block (RunC.loop (RunL.loopM (x := z8) (s_B10Square_s7 a1 r1) (fun (s : (List F) × Int × Int × Int) τ Γ => ∃ (u7 : Nat) (u8 : Nat), WeakLe τ [(1, i64 a1), (4, optr 0 1 0), (5, optr 1 1 0), (6, optr 3 1 0), (7, i64 s.2.2.2)] ∧ DeadLe Γ [⟨1, some zMx⟩, ⟨1, some [sl r1.length (r1.map (ik .u8)), i64 s.2.1, ik .u64 s.2.2.1]⟩, ⟨u7, some (s.1.map f32)⟩, ⟨1, some [i64 r4, i64 r5, oref 2 u7 0 s.1.length]⟩, ⟨u8, none⟩]) ?_ _ _ _ hz_8 ⟨1, 0, ⟨aR, aR, aR, aR, aR, trivial⟩, ⟨⟨rfl, .inr rfl⟩, ⟨rfl, .inr rfl⟩, ⟨rfl, .inr rfl⟩, ⟨rfl, .inr (by first | rfl | simp)⟩, ⟨rfl, .inl rfl⟩, trivial⟩⟩))
  rintro ⟨L9, v10, v11, v12⟩ τ8 Γ8 y8_ ⟨u7, u8, hw8, hd8⟩ h8_ ho8 hr8
  refine RunC.wl (τ' := [(1, i64 a1), (4, optr 0 1 0), (5, optr 1 1 0), (6, optr 3 1 0), (7, i64 v12)]) (Γ' := [⟨1, some zMx⟩, ⟨1, some [sl r1.length (r1.map (ik .u8)), i64 v10, ik .u64 v11]⟩, ⟨u7, some (L9.map f32)⟩, ⟨1, some (oXc r4 r5 2 u7 L9.length)⟩, ⟨u8, none⟩]) hw8 hd8 ?_
  replace h8_ : s_B10Square_b7 a1 r1 L9 v10 v11 v12 = some y8_ := h8_
  unfold s_B10Square_b7 at h8_
  iterate 2 (refine RunC.seq ?_)
  rcases bsel_some h8_ with ⟨hc3, h8_⟩ | ⟨hc3, h8_⟩
  ·refine RunC.regionW ?_
   refine zm (r := i64 v12) ?_
   refine zm (r := i64 a1) ?_
   refine zl (r := b true) (LOp.eqb (LOp.lss rfl rfl rfl) hc3) ?_
   refine zN ?_
   refine RunC.cond_true rfl rfl ?_
   refine RunC.skip ?_
   refine RunC.seq ?_
   refine RunC.block ?_
   refine zQ ?_
   refine za (r := i64 0) ?_
   refine zN ?_
   obtain ⟨z9, hz_9, h8_⟩ := obind_some h8_
   refine RunC.cutN (fun τ Γ => ∃ (L37 : List F) (v38 : Int) (v39 : Int) (u35 : Nat) (u36 : Nat), WeakLe τ [(1, i64 a1), (4, optr 0 1 0), (5, optr 1 1 0), (6, optr 3 1 0), (7, i64 v12)] ∧ DeadLe Γ [⟨1, some zMx⟩, ⟨1, some [sl r1.length (r1.map (ik .u8)), i64 v38, ik .u64 v39]⟩, ⟨u35, some (L37.map f32)⟩, ⟨1, some (oXc r4 r5 2 u35 L37.length)⟩, ⟨u36, none⟩] ∧ z9 = .inl (L37, v38, v39)) ?_ ?_
   ·refine RunC.block (RunC.loop (RunL.loopM (x := z9) (s_B10Square_s6 a1 r1 v12) (fun (s : (List F) × Int × Int × Int) τ Γ => ∃ (u13 : Nat) (u14 : Nat), WeakLe τ [(1, i64 a1), (4, optr 0 1 0), (5, optr 1 1 0), (6, optr 3 1 0), (7, i64 v12), (8, i64 s.2.2.2)] ∧ DeadLe Γ [⟨1, some zMx⟩, ⟨1, some [sl r1.length (r1.map (ik .u8)), i64 s.2.1, ik .u64 s.2.2.1]⟩, ⟨u13, some (s.1.map f32)⟩, ⟨1, some [i64 r4, i64 r5, oref 2 u13 0 s.1.length]⟩, ⟨u14, none⟩]) ?_ _ _ _ hz_9 ⟨u7, u8, ⟨aR, aR, aR, aR, aR, aR, trivial⟩, ⟨⟨rfl, .inr rfl⟩, ⟨rfl, .inr rfl⟩, ⟨rfl, .inr rfl⟩, ⟨rfl, .inr (by first | rfl | simp)⟩, ⟨rfl, .inl rfl⟩, trivial⟩⟩))
    rintro ⟨L15, v16, v17, v18⟩ τ9 Γ9 y9_ ⟨u13, u14, hw9, hd9⟩ h9_ ho9 hr9
    refine RunC.wl (τ' := [(1, i64 a1), (4, optr 0 1 0), (5, optr 1 1 0), (6, optr 3 1 0), (7, i64 v12), (8, i64 v18)]) (Γ' := [⟨1, some zMx⟩, ⟨1, some [sl r1.length (r1.map (ik .u8)), i64 v16, ik .u64 v17]⟩, ⟨u13, some (L15.map f32)⟩, ⟨1, some (oXc r4 r5 2 u13 L15.length)⟩, ⟨u14, none⟩]) hw9 hd9 ?_
    replace h9_ : s_B10Square_b6 a1 r1 v12 L15 v16 v17 v18 = some y9_ := h9_
    unfold s_B10Square_b6 at h9_
    iterate 2 (refine RunC.seq ?_)
    rcases bsel_some h9_ with ⟨hc4, h9_⟩ | ⟨hc4, h9_⟩
    ·refine RunC.regionW ?_
     refine zm (r := i64 v18) ?_
     refine zm (r := i64 a1) ?_
     refine zl (r := b true) (LOp.eqb (LOp.lss rfl rfl rfl) hc4) ?_
     refine zN ?_
     refine RunC.cond_true rfl rfl ?_
     refine RunC.skip ?_
     refine RunC.seq ?_
     refine RunC.block ?_
     refine RunC.seq ?_
     obtain ⟨r19, r20, r21, hf5, h9_⟩ := obind3_some h9_
     obtain ⟨x22, hx6, h9_⟩ := olet_some h9_
     obtain ⟨x23, hx7, h9_⟩ := olet_some h9_
     obtain ⟨x24, hx8, h9_⟩ := olet_some h9_
     refine RunC.regionW ?_
     refine zm (r := optr 1 1 0) ?_
     refine ROps.callO (A := [optr 1 1 0, i64 9]) (args := [optr 0 0 0, i64 9]) (Γc := [⟨0, some [sl r1.length (r1.map (ik .u8)), i64 v16, ik .u64 v17]⟩]) (Γc' := [⟨0, some [sl r1.length (r1.map (ik .u8)), i64 r20, ik .u64 r21]⟩]) (r' := i64 r19) (Γ' := [⟨1, some zMx⟩, ⟨1, some [sl r1.length (r1.map (ik .u8)), i64 r20, ik .u64 r21]⟩, ⟨u13, some (L15.map f32)⟩, ⟨1, some (oXc r4 r5 2 u13 L15.length)⟩, ⟨u14, none⟩]) [(1, 1)] [] rfl (CallAs.func ent72 rfl rfl) rfl rfl (SelOk.of (show List.Nodup [1] from by decide) (SelL.cells0 rfl (by simp [ren, rens, sigma, rens_f32, rens_f64, rens_i64, rens_ik, rens_str, rens_cp]) (lts_cons (lt_slk (fun _ => rfl)) (lts_cons rfl (lts_cons rfl lts_nil))) trivial)) (live_of ⟨⟨_, _, rfl⟩, trivial⟩) (by simp [ren, rens, sigma, rens_f32, rens_f64, rens_i64, rens_ik, rens_str, rens_cp]) rfl (s_l00Src_pick_0p0_C0_ok 9 r1 v16 v17 r19 r20 r21 hf5) rfl (news_of trivial) (show List.Nodup [1] from by decide) (by simp [ren, rens, sigma]) (by simp [backOb, sigma, ren, rens, rens_f32, rens_f64, rens_i64, rens_ik, rens_str, rens_cp]) ?_
     refine zl (r := i64 x22) (LOp.eqr (LOp.sub rfl rfl rfl) (congrArg (ik .i64) hx6)) ?_
     refine zl (r := f32 x23) (LOp.eqr (LOp.i2f (src := 2) (dst := 28) ⟨_, pun2⟩ pun28 rfl rfl) (congrArg (f .f32) hx7)) ?_
     refine ROps.d (r := f32 x24) (fs := []) (Γ' := [⟨1, some zMx⟩, ⟨1, some [sl r1.length (r1.map (ik .u8)), i64 r20, ik .u64 r21]⟩, ⟨u13, some (L15.map f32)⟩, ⟨1, some (oXc r4 r5 2 u13 L15.length)⟩, ⟨u14, none⟩]) rfl rfl rfl (TOp.eqr (TOp.fop (.inr (.inr (.inr rfl))) rfl (OpF.tmp rfl) (OpF.const rfl (by kernel_rfl) (by kernel_rfl))) (congrArg (f .f32) hx8)) rfl ?_
     refine za (r := f32 x24) ?_
     refine zN ?_
     refine RunC.seq ?_
     refine RunC.cutN (fun τ Γ => ∃ (v31 : Int) (v32 : Int) (y33 : F), WeakLe τ [(1, i64 a1), (4, optr 0 1 0), (5, optr 1 1 0), (6, optr 3 1 0), (7, i64 v12), (8, i64 v18), (9, f32 y33)] ∧ DeadLe Γ [⟨1, some zMx⟩, ⟨1, some [sl r1.length (r1.map (ik .u8)), i64 v31, ik .u64 v32]⟩, ⟨u13, some (L15.map f32)⟩, ⟨1, some (oXc r4 r5 2 u13 L15.length)⟩, ⟨u14, none⟩] ∧ s_B10Square_k5 L15 v18 v31 v32 y33 = some y9_) ?_ ?_
     ·refine RunC.seq ?_
      rcases bsel_some h9_ with ⟨hc9, h9_⟩ | ⟨hc9, h9_⟩
      ·refine RunC.regionW ?_
       refine zm (r := i64 v12) ?_
       refine zm (r := i64 v18) ?_
       refine zl (r := b true) (LOp.eqb (LOp.eql rfl rfl rfl) hc9) ?_
       refine zN ?_
       refine RunC.cond_true rfl rfl ?_
       obtain ⟨r25, r26, r27, hf10, h9_⟩ := obind3_some h9_
       obtain ⟨x28, hx11, h9_⟩ := olet_some h9_
       obtain ⟨x29, hx12, h9_⟩ := olet_some h9_
       obtain ⟨x30, hx13, h9_⟩ := olet_some h9_
       refine RunC.regionW ?_
       refine zm (r := optr 1 1 0) ?_
       refine ROps.callO (A := [optr 1 1 0, i64 9]) (args := [optr 0 0 0, i64 9]) (Γc := [⟨0, some [sl r1.length (r1.map (ik .u8)), i64 r20, ik .u64 r21]⟩]) (Γc' := [⟨0, some [sl r1.length (r1.map (ik .u8)), i64 r26, ik .u64 r27]⟩]) (r' := i64 r25) (Γ' := [⟨1, some zMx⟩, ⟨1, some [sl r1.length (r1.map (ik .u8)), i64 r26, ik .u64 r27]⟩, ⟨u13, some (L15.map f32)⟩, ⟨1, some (oXc r4 r5 2 u13 L15.length)⟩, ⟨u14, none⟩]) [(1, 1)] [] rfl (CallAs.func ent72 rfl rfl) rfl rfl (SelOk.of (show List.Nodup [1] from by decide) (SelL.cells0 rfl (by simp [ren, rens, sigma, rens_f32, rens_f64, rens_i64, rens_ik, rens_str, rens_cp]) (lts_cons (lt_slk (fun _ => rfl)) (lts_cons rfl (lts_cons rfl lts_nil))) trivial)) (live_of ⟨⟨_, _, rfl⟩, trivial⟩) (by simp [ren, rens, sigma, rens_f32, rens_f64, rens_i64, rens_ik, rens_str, rens_cp]) rfl (s_l00Src_pick_0p0_C0_ok 9 r1 r20 r21 r25 r26 r27 hf10) rfl (news_of trivial) (show List.Nodup [1] from by decide) (by simp [ren, rens, sigma]) (by simp [backOb, sigma, ren, rens, rens_f32, rens_f64, rens_i64, rens_ik, rens_str, rens_cp]) ?_
       refine zl (r := i64 x28) (LOp.eqr (LOp.add rfl rfl rfl) (congrArg (ik .i64) hx11)) ?_
       refine zl (r := f32 x29) (LOp.eqr (LOp.i2f (src := 2) (dst := 28) ⟨_, pun2⟩ pun28 rfl rfl) (congrArg (f .f32) hx12)) ?_
       refine ROps.d (r := f32 x30) (fs := []) (Γ' := [⟨1, some zMx⟩, ⟨1, some [sl r1.length (r1.map (ik .u8)), i64 r26, ik .u64 r27]⟩, ⟨u13, some (L15.map f32)⟩, ⟨1, some (oXc r4 r5 2 u13 L15.length)⟩, ⟨u14, none⟩]) rfl rfl rfl (TOp.eqr (TOp.fop (.inr (.inr (.inr rfl))) rfl (OpF.tmp rfl) (OpF.const rfl (by kernel_rfl) (by kernel_rfl))) (congrArg (f .f32) hx13)) rfl ?_
       refine za (r := f32 x30) ?_
       refine zN ?_
       exact ⟨r26, r27, x30, ⟨aR, aR, aR, aR, aR, aR, aR, trivial⟩, ⟨⟨rfl, .inr rfl⟩, ⟨rfl, .inr rfl⟩, ⟨rfl, .inr rfl⟩, ⟨rfl, .inr rfl⟩, ⟨rfl, .inl rfl⟩, trivial⟩, h9_⟩
      ·refine RunC.regionW ?_
       refine zm (r := i64 v12) ?_
       refine zm (r := i64 v18) ?_
       refine zl (r := b false) (LOp.eqb (LOp.eql rfl rfl rfl) hc9) ?_
       refine zN ?_
       refine RunC.cond_false rfl rfl ?_
       refine RunC.skip ?_
       exact ⟨r20, r21, x24, ⟨aR, aR, aR, aR, aR, aR, aR, trivial⟩, ⟨⟨rfl, .inr rfl⟩, ⟨rfl, .inr rfl⟩, ⟨rfl, .inr rfl⟩, ⟨rfl, .inr rfl⟩, ⟨rfl, .inl rfl⟩, trivial⟩, h9_⟩
     ·rintro τ10 Γ10 ⟨v31, v32, y33, hw10, hd10, h9_⟩
      refine RunC.wl hw10 hd10 ?_
      unfold s_B10Square_k5 at h9_
      obtain ⟨hm14, h9_⟩ := need_some h9_
      refine RunC.regionW ?_
      refine zl (r := optr 3 1 2) (LOp.fao und33 rfl siz26 rfl rfl rfl) ?_
      refine ROps.d (r := oref 2 u13 0 L15.length) (fs := []) (Γ' := [⟨1, some zMx⟩, ⟨1, some [sl r1.length (r1.map (ik .u8)), i64 v31, ik .u64 v32]⟩, ⟨u13, some (L15.map f32)⟩, ⟨1, some (oXc r4 r5 2 u13 L15.length)⟩, ⟨u14, none⟩]) rfl rfl rfl (TOp.load1_o rfl rfl agg26 rfl rfl) rfl ?_
      refine zm (r := f32 y33) ?_
      refine ROps.d (r := oref 4 (u14 + 1) 0 1) (fs := [(4, (([y33] : List F).map f32))]) (Γ' := [⟨1, some zMx⟩, ⟨1, some [sl r1.length (r1.map (ik .u8)), i64 v31, ik .u64 v32]⟩, ⟨u13, some (L15.map f32)⟩, ⟨1, some (oXc r4 r5 2 u13 L15.length)⟩, ⟨(u14 + 1), some (([y33] : List F).map f32)⟩]) rfl rfl rfl (TOp.buildSlice_o (g := ⟨u14, none⟩) (za := f32 (some 0)) (qs := [(0, [f32 y33])]) 4 rfl und26 siz28 zer28 rfl zel28 rfl rfl ⟨rfl, ⟨_, ALe.refl _, rfl⟩, trivial⟩ rfl) rfl ?_
      refine ROps.app (f := f32) (xs := L15) (ys := ([y33] : List F)) (Γ' := [⟨1, some zMx⟩, ⟨1, some [sl r1.length (r1.map (ik .u8)), i64 v31, ik .u64 v32]⟩, ⟨(u13 + 1), some ((L15 ++ ([y33] : List F)).map f32)⟩, ⟨1, some (oXc r4 r5 2 u13 L15.length)⟩, ⟨(u14 + 1), some (([y33] : List F).map f32)⟩]) rfl pun26 inf28 rfl rfl rfl rfl rfl rfl rfl rfl rfl (by simp) (ReadAs.own rfl (by simp)) (ones_map (fun _ => rfl)) (ap_by hm14) (ap_mx hm14) rfl ?_
      refine zl (r := optr 3 1 2) (LOp.fao und33 rfl siz26 rfl rfl rfl) ?_
      refine ROps.store_le (r := oref 2 (u13 + 1) 0 (L15.length + 1)) (l' := [i64 r4, i64 r5, oref 2 (u13 + 1) 0 (L15.length + 1)]) (Γ' := [⟨1, some zMx⟩, ⟨1, some [sl r1.length (r1.map (ik .u8)), i64 v31, ik .u64 v32]⟩, ⟨(u13 + 1), some ((L15 ++ ([y33] : List F)).map f32)⟩, ⟨1, some [i64 r4, i64 r5, oref 2 (u13 + 1) 0 (L15.length + 1)]⟩, ⟨(u14 + 1), some (([y33] : List F).map f32)⟩]) rfl siz26 rfl rfl rfl aR rfl rfl rfl rfl (Nat.le_of_ble_eq_true rfl) rfl rfl ?_
      refine zN ?_
      refine RunC.wl (τ' := [(1, i64 a1), (4, optr 0 1 0), (5, optr 1 1 0), (6, optr 3 1 0), (7, i64 v12), (8, i64 v18)]) (Γ' := [⟨1, some zMx⟩, ⟨1, some [sl r1.length (r1.map (ik .u8)), i64 v31, ik .u64 v32]⟩, ⟨(u13 + 1), some ((L15 ++ ([y33] : List F)).map f32)⟩, ⟨1, some [i64 r4, i64 r5, oref 2 (u13 + 1) 0 (L15.length + 1)]⟩, ⟨(u14 + 1), none⟩]) ⟨aR, aR, aR, aR, aR, aR, trivial⟩ ⟨⟨rfl, .inr rfl⟩, ⟨rfl, .inr rfl⟩, ⟨rfl, .inr rfl⟩, ⟨rfl, .inr rfl⟩, ⟨rfl, .inl rfl⟩, trivial⟩ ?_
      obtain ⟨x34, hx15, h9_⟩ := olet_some h9_
      refine RunC.regionW ?_
      refine zm (r := i64 v18) ?_
      refine zl (r := i64 x34) (LOp.eqr (LOp.add rfl rfl rfl) (congrArg (ik .i64) hx15)) ?_
      refine za (r := i64 x34) ?_
      refine zN ?_
      cases Option.some.inj h9_
      exact ⟨_, rfl, (u13 + 1), (u14 + 1), ⟨aR, aR, aR, aR, aR, aR, trivial⟩, ⟨⟨rfl, .inr rfl⟩, ⟨rfl, .inr rfl⟩, ⟨rfl, .inr rfl⟩, ⟨rfl, .inr (by first | rfl | simp)⟩, ⟨rfl, .inl rfl⟩, trivial⟩⟩
    ·refine RunC.regionW ?_
     refine zm (r := i64 v18) ?_
     refine zm (r := i64 a1) ?_
     refine zl (r := b false) (LOp.eqb (LOp.lss rfl rfl rfl) hc4) ?_
     refine zN ?_
     refine RunC.cond_false rfl rfl ?_
     refine RunC.exit ?_
     cases Option.some.inj h9_
     have hx := ho9 _ rfl
     exact ⟨L15, v16, v17, u13, u14, ⟨aR, aR, aR, aR, aR, trivial⟩, ⟨⟨rfl, .inr rfl⟩, ⟨rfl, .inr rfl⟩, ⟨rfl, .inr rfl⟩, ⟨rfl, .inr (by first | rfl | simp)⟩, ⟨rfl, .inl rfl⟩, trivial⟩, hx⟩
   ·rintro τ11 Γ11 ⟨L37, v38, v39, u35, u36, hw11, hd11, rfl⟩
    refine RunC.wl hw11 hd11 ?_
    replace h8_ : s_B10Square_k6 v12 L37 v38 v39 = some y8_ := h8_
    unfold s_B10Square_k6 at h8_
    obtain ⟨x40, hx16, h8_⟩ := olet_some h8_
    refine RunC.regionW ?_
    refine zm (r := i64 v12) ?_
    refine zl (r := i64 x40) (LOp.eqr (LOp.add rfl rfl rfl) (congrArg (ik .i64) hx16)) ?_
    refine za (r := i64 x40) ?_
    refine zN ?_
    cases Option.some.inj h8_
    exact ⟨_, rfl, u35, u36, ⟨aR, aR, aR, aR, aR, trivial⟩, ⟨⟨rfl, .inr rfl⟩, ⟨rfl, .inr rfl⟩, ⟨rfl, .inr rfl⟩, ⟨rfl, .inr (by first | rfl | simp)⟩, ⟨rfl, .inl rfl⟩, trivial⟩⟩
  ·refine RunC.regionW ?_
   refine zm (r := i64 v12) ?_
   refine zm (r := i64 a1) ?_
   refine zl (r := b false) (LOp.eqb (LOp.lss rfl rfl rfl) hc3) ?_
   refine zN ?_
   refine RunC.cond_false rfl rfl ?_
   refine RunC.exit ?_
   cases Option.some.inj h8_
   have hx := ho8 _ rfl
   exact ⟨L9, u7, u8, ⟨aR, aR, trivial⟩, ⟨⟨rfl, .inr rfl⟩, ⟨rfl, .inl rfl⟩, ⟨rfl, .inr rfl⟩, ⟨rfl, .inr (by first | rfl | simp)⟩, ⟨rfl, .inl rfl⟩, trivial⟩, hx⟩
 ·rintro τ12 Γ12 ⟨L43, u41, u42, hw12, hd12, rfl⟩
  refine RunC.wl hw12 hd12 ?_
  replace h : s_B10Square_k7 r4 r5 L43 = some (q0, q1, q2) := h
  unfold s_B10Square_k7 at h
  refine zQ ?_
  refine ROps.d (r := agg (oXc r4 r5 2 u41 L43.length)) (fs := []) (Γ' := [⟨1, some zMx⟩, ⟨1, none⟩, ⟨u41, some (L43.map f32)⟩, ⟨1, some (oXc r4 r5 2 u41 L43.length)⟩, ⟨u42, none⟩]) rfl rfl rfl (TOp.loadAgg_o rfl agg33 siz33 rfl rfl rfl rfl) rfl ?_
  refine ROps.store_le (r := agg (oXc r4 r5 2 u41 L43.length)) (l' := (oXc r4 r5 2 u41 L43.length)) (Γ' := [⟨1, some (oXc r4 r5 2 u41 L43.length)⟩, ⟨1, none⟩, ⟨u41, some (L43.map f32)⟩, ⟨1, some (oXc r4 r5 2 u41 L43.length)⟩, ⟨u42, none⟩]) rfl siz33 rfl rfl rfl aR rfl rfl rfl rfl (Nat.le_of_ble_eq_true rfl) rfl rfl ?_
  refine zN ?_
  refine RunC.ret ?_
  have hq := Option.some.inj h
  obtain ⟨hq0, hq⟩ := Prod.mk.inj hq
  obtain ⟨hq1, hq⟩ := Prod.mk.inj hq
  subst q0
  subst q1
  subst q2
  exact bodyQ.mk (r' := agg (oXc r4 r5 2 u41 L43.length)) [(2, u41)] (.inr rfl) rfl (show List.Nodup [2] from by decide) (by simp [ren, rens, sigma]) rfl (Res.one rfl (RV.cell agg33 siz33 rfl rfl rfl rfl)) (SelL.arr0 (f := f32) (fun _ => rfl) rfl trivial)
noncomputable def s_B10Even_b2 (a1 : Int) (v6 : Int) (L7 : List F) (v9 : Int) : Option (LR ((List F) × Int) ((List F)) (Int × Int × (List F))) :=
 bsel (decide (v9 < v6)) (
  olet (IntKind.i64.wrap (v9 * a1)) fun (x10 : Int) =>
  olet (IntKind.i64.wrap (x10 + v6)) fun (x11 : Int) =>
  olet (IntKind.i64.wrap (v6 * a1)) fun (x12 : Int) =>
  olet (IntKind.i64.wrap (x12 + v9)) fun (x13 : Int) =>
  obind (at? L7 x13) fun (e14 : F) =>
  obind (setAt? L7 x11 e14) fun (L15 : List F) =>
  olet (IntKind.i64.wrap (v9 + 1)) fun (x16 : Int) =>
  some (LR.next (L15, x16))) (
  some (LR.out L7))
noncomputable def s_B10Even_s2 (a1 : Int) (v6 : Int) : ((List F) × Int) → Option (LR ((List F) × Int) ((List F)) (Int × Int × (List F))) := fun s => s_B10Even_b2 a1 v6 s.1 s.2
noncomputable def s_B10Even_k2 (v6 : Int) (L17 : List F) : Option (LR ((List F) × Int) ((List F)) (Int × Int × (List F))) :=
 olet (IntKind.i64.wrap (v6 + 1)) fun (x19 : Int) =>
 some (LR.next (L17, x19))
noncomputable def s_B10Even_b3 (a1 : Int) (L4 : List F) (v6 : Int) : Option (LR ((List F) × Int) ((List F)) (Int × Int × (List F))) :=
 bsel (decide (v6 < a1)) (
  obind (loopM (s_B10Even_s2 a1 v6) (L4, 0)) fun z => osum z (fun e => s_B10Even_k2 v6 e) (fun r => some (LR.ret r))) (
  some (LR.out L4))
noncomputable def s_B10Even_s3 (a1 : Int) : ((List F) × Int) → Option (LR ((List F) × Int) ((List F)) (Int × Int × (List F))) := fun s => s_B10Even_b3 a1 s.1 s.2
noncomputable def s_B10Even_k3 (r1 : Int) (r2 : Int) (L20 : List F) : Option (Int × Int × (List F)) :=
 some (r1, r2, L20)
noncomputable def s_B10Even (a0 : List Int) (a1 : Int) : Option (Int × Int × (List F)) :=
 obind3 (s_B10Square a0 a1) fun (r1 : Int) (r2 : Int) (r3 : List F) =>
 obind (loopM (s_B10Even_s3 a1) (r3, 0)) fun z => osum z (fun e => s_B10Even_k3 r1 r2 e) (fun r => some r)
theorem s_B10Even_ok (a0 : List Int) (a1 : Int) (q0 : Int) (q1 : Int) (q2 : List F) (h : s_B10Even a0 a1 = some (q0, q1, q2)) : Ev Try.prog 43 [sl a0.length (a0.map (ik .u8)), i64 a1] [] (agg (oXc q0 q1 0 0 q2.length)) [⟨0, some (q2.map f32)⟩] := by
 refine Ev.start Try.func43 rfl rfl 3 (τ := [(0, sl a0.length (a0.map (ik .u8))), (1, i64 a1)]) rfl (Γ' := [⟨0, none⟩, ⟨0, none⟩, ⟨0, none⟩]) rfl (n := 79) rfl (g := 0) rfl (fun _ => rfl) ?_
 unfold s_B10Even at h
 refine zQ ?_
 refine ROps.d (r := optr 0 1 0) (fs := [(0, zMx)]) (Γ' := [⟨1, some zMx⟩, ⟨0, none⟩, ⟨0, none⟩]) rfl rfl rfl (TOp.alloc_o (g := ⟨0, none⟩) 0 rfl zer33 zok33 rfl) rfl ?_
 refine zN ?_
 refine RunC.seq ?_
 obtain ⟨r1, r2, r3, hf1, h⟩ := obind3_some h
 refine RunC.regionW ?_
 refine zm (r := sl a0.length (a0.map (ik .u8))) ?_
 refine zm (r := i64 a1) ?_
 refine ROps.d (r := agg (oXc r1 r2 1 1 r3.length)) (fs := [(1, (r3.map f32))]) (Γ' := [⟨1, some zMx⟩, ⟨1, some (r3.map f32)⟩, ⟨0, none⟩]) rfl rfl rfl (TOp.callBN (ls := [(r3.map f32)]) [1] (CallAs.func ent112 rfl rfl) (Bors.cons (Bor.sl (fun _ => rfl)) (Bors.cons (Bor.pure rfl) Bors.nil)) rfl (s_B10Square_ok a0 a1 r1 r2 r3 hf1) (and_all (lts0_map (f := f32) (fun _ => rfl) _) rfl) (and_all (noss_map (f := f32) (fun _ => rfl) _) rfl) rfl (by decide) (ns_of ⟨⟨_, rfl⟩, trivial⟩)) rfl ?_
 refine ROps.d (r := optr 2 1 0) (fs := [(2, zMx)]) (Γ' := [⟨1, some zMx⟩, ⟨1, some (r3.map f32)⟩, ⟨1, some zMx⟩]) rfl rfl rfl (TOp.alloc_o (g := ⟨0, none⟩) 2 rfl zer33 zok33 rfl) rfl ?_
 refine ROps.store_le (r := agg (oXc r1 r2 1 1 r3.length)) (l' := (oXc r1 r2 1 1 r3.length)) (Γ' := [⟨1, some zMx⟩, ⟨1, some (r3.map f32)⟩, ⟨1, some (oXc r1 r2 1 1 r3.length)⟩]) rfl siz33 rfl rfl rfl aR rfl rfl rfl rfl (Nat.le_of_ble_eq_true rfl) rfl rfl ?_
 refine zN ?_
 refine RunC.seq ?_
 refine zQ ?_
 refine za (r := i64 0) ?_
 refine zN ?_
 obtain ⟨z4, hz_4, h⟩ := obind_some h
 refine RunC.cutN (fun τ Γ => ∃ (L20 : List F), L20.length = r3.length ∧ WeakLe τ [(4, optr 0 1 0), (5, optr 2 1 0)] ∧ DeadLe Γ [⟨1, some zMx⟩, ⟨1, some (L20.map f32)⟩, ⟨1, some (oXc r1 r2 1 1 r3.length)⟩] ∧ z4 = .inl L20) ?_ ?_
 ·refine RunC.block (RunC.loop (RunL.loopM (x := z4) (s_B10Even_s3 a1) (fun (s : (List F) × Int) τ Γ => s.1.length = r3.length ∧ WeakLe τ [(1, i64 a1), (4, optr 0 1 0), (5, optr 2 1 0), (6, i64 s.2)] ∧ DeadLe Γ [⟨1, some zMx⟩, ⟨1, some (s.1.map f32)⟩, ⟨1, some (oXc r1 r2 1 1 r3.length)⟩]) ?_ _ _ _ hz_4 ⟨rfl, ⟨aR, aR, aR, aR, trivial⟩, ⟨⟨rfl, .inr rfl⟩, ⟨rfl, .inr rfl⟩, ⟨rfl, .inr rfl⟩, trivial⟩⟩))
  rintro ⟨L4, v6⟩ τ4 Γ4 y4_ ⟨hl5, hw4, hd4⟩ h4_ ho4 hr4
  refine RunC.wl (τ' := [(1, i64 a1), (4, optr 0 1 0), (5, optr 2 1 0), (6, i64 v6)]) (Γ' := [⟨1, some zMx⟩, ⟨1, some (L4.map f32)⟩, ⟨1, some (oXc r1 r2 1 1 r3.length)⟩]) hw4 hd4 ?_
  replace hl5 : L4.length = r3.length := hl5
  replace h4_ : s_B10Even_b3 a1 L4 v6 = some y4_ := h4_
  unfold s_B10Even_b3 at h4_
  iterate 2 (refine RunC.seq ?_)
  rcases bsel_some h4_ with ⟨hc2, h4_⟩ | ⟨hc2, h4_⟩
  ·refine RunC.regionW ?_
   refine zm (r := i64 v6) ?_
   refine zm (r := i64 a1) ?_
   refine zl (r := b true) (LOp.eqb (LOp.lss rfl rfl rfl) hc2) ?_
   refine zN ?_
   refine RunC.cond_true rfl rfl ?_
   refine RunC.skip ?_
   refine RunC.seq ?_
   refine RunC.block ?_
   refine zQ ?_
   refine za (r := i64 0) ?_
   refine zN ?_
   obtain ⟨z5, hz_5, h4_⟩ := obind_some h4_
   refine RunC.cutN (fun τ Γ => ∃ (L17 : List F), L17.length = r3.length ∧ WeakLe τ [(1, i64 a1), (4, optr 0 1 0), (5, optr 2 1 0), (6, i64 v6)] ∧ DeadLe Γ [⟨1, some zMx⟩, ⟨1, some (L17.map f32)⟩, ⟨1, some (oXc r1 r2 1 1 r3.length)⟩] ∧ z5 = .inl L17) ?_ ?_
   ·refine RunC.block (RunC.loop (RunL.loopM (x := z5) (s_B10Even_s2 a1 v6) (fun (s : (List F) × Int) τ Γ => s.1.length = r3.length ∧ WeakLe τ [(1, i64 a1), (4, optr 0 1 0), (5, optr 2 1 0), (6, i64 v6), (7, i64 s.2)] ∧ DeadLe Γ [⟨1, some zMx⟩, ⟨1, some (s.1.map f32)⟩, ⟨1, some (oXc r1 r2 1 1 r3.length)⟩]) ?_ _ _ _ hz_5 ⟨hl5, ⟨aR, aR, aR, aR, aR, trivial⟩, ⟨⟨rfl, .inr rfl⟩, ⟨rfl, .inr rfl⟩, ⟨rfl, .inr rfl⟩, trivial⟩⟩))
    rintro ⟨L7, v9⟩ τ5 Γ5 y5_ ⟨hl8, hw5, hd5⟩ h5_ ho5 hr5
    refine RunC.wl (τ' := [(1, i64 a1), (4, optr 0 1 0), (5, optr 2 1 0), (6, i64 v6), (7, i64 v9)]) (Γ' := [⟨1, some zMx⟩, ⟨1, some (L7.map f32)⟩, ⟨1, some (oXc r1 r2 1 1 r3.length)⟩]) hw5 hd5 ?_
    replace hl8 : L7.length = r3.length := hl8
    replace h5_ : s_B10Even_b2 a1 v6 L7 v9 = some y5_ := h5_
    unfold s_B10Even_b2 at h5_
    iterate 2 (refine RunC.seq ?_)
    rcases bsel_some h5_ with ⟨hc3, h5_⟩ | ⟨hc3, h5_⟩
    ·refine RunC.regionW ?_
     refine zm (r := i64 v9) ?_
     refine zm (r := i64 v6) ?_
     refine zl (r := b true) (LOp.eqb (LOp.lss rfl rfl rfl) hc3) ?_
     refine zN ?_
     refine RunC.cond_true rfl rfl ?_
     refine RunC.skip ?_
     refine RunC.seq ?_
     refine RunC.block ?_
     obtain ⟨x10, hx4, h5_⟩ := olet_some h5_
     obtain ⟨x11, hx5, h5_⟩ := olet_some h5_
     obtain ⟨x12, hx6, h5_⟩ := olet_some h5_
     obtain ⟨x13, hx7, h5_⟩ := olet_some h5_
     obtain ⟨e14, he8, h5_⟩ := obind_some h5_
     obtain ⟨L15, he9, h5_⟩ := obind_some h5_
     refine RunC.region_draw (Γ' := [⟨1, some zMx⟩, ⟨1, some (L7.map f32)⟩, ⟨1, some (oXc r1 r2 1 1 r3.length)⟩]) 17 mixed 
      (TR.l (r := optr 2 1 2) rfl rfl (LOp.fao und33 rfl siz26 rfl rfl rfl) <|
      (TR.d (r := oref 1 1 0 r3.length) (fs := []) rfl rfl (TOp.load1_o rfl rfl agg26 rfl rfl) <|
      (TR.l (r := i64 v9) rfl rfl (LOp.move rfl rfl) <|
      (TR.l (r := i64 a1) rfl rfl (LOp.move rfl rfl) <|
      (TR.l (r := i64 x10) rfl rfl (LOp.eqr (LOp.mul rfl rfl rfl) (congrArg (ik .i64) hx4)) <|
      (TR.l (r := i64 v6) rfl rfl (LOp.move rfl rfl) <|
      (TR.l (r := i64 x11) rfl rfl (LOp.eqr (LOp.add rfl rfl rfl) (congrArg (ik .i64) hx5)) <|
      (TR.l (r := optr 2 1 2) rfl rfl (LOp.fao und33 rfl siz26 rfl rfl rfl) <|
      (TR.d (r := oref 1 1 0 r3.length) (fs := []) rfl rfl (TOp.load1_o rfl rfl agg26 rfl rfl) <|
      (TR.l (r := i64 v6) rfl rfl (LOp.move rfl rfl) <|
      (TR.l (r := i64 a1) rfl rfl (LOp.move rfl rfl) <|
      (TR.l (r := i64 x12) rfl rfl (LOp.eqr (LOp.mul rfl rfl rfl) (congrArg (ik .i64) hx6)) <|
      (TR.l (r := i64 v9) rfl rfl (LOp.move rfl rfl) <|
      (TR.l (r := i64 x13) rfl rfl (LOp.eqr (LOp.add rfl rfl rfl) (congrArg (ik .i64) hx7)) <|
      (TR.d (r := optr 1 1 x13.toNat) (fs := []) rfl rfl (TOp.ixo und26 siz28 rfl rfl rfl (at_in he8 hl8) rfl) <|
      (TR.d (r := f32 e14) (fs := []) rfl rfl (TOp.load1_o rfl (at_cell he8) agg28 rfl rfl) <|
      (TR.d (r := optr 1 1 x11.toNat) (fs := []) rfl rfl (TOp.ixo und26 siz28 rfl rfl rfl (set_in he9 hl8) rfl) <|
      TR.nil))))))))))))))))) rfl (by kernel_rfl) rfl fills_nil rfl ?_
     iterate 17 refine ROps.dropS ?_
     refine ROps.drop0 ?_
     refine ROps.st (f := f32) (i := x11) (Γ' := [⟨1, some zMx⟩, ⟨1, some (L15.map f32)⟩, ⟨1, some (oXc r1 r2 1 1 r3.length)⟩]) rfl siz28 rfl rfl rfl aR rfl rfl rfl he9 rfl ?_
     refine zN ?_
     refine RunC.wl (τ' := [(1, i64 a1), (4, optr 0 1 0), (5, optr 2 1 0), (6, i64 v6), (7, i64 v9)]) (Γ' := [⟨1, some zMx⟩, ⟨1, some (L15.map f32)⟩, ⟨1, some (oXc r1 r2 1 1 r3.length)⟩]) ⟨aR, aR, aR, aR, aR, trivial⟩ ⟨⟨rfl, .inr rfl⟩, ⟨rfl, .inr rfl⟩, ⟨rfl, .inr rfl⟩, trivial⟩ ?_
     obtain ⟨x16, hx10, h5_⟩ := olet_some h5_
     refine RunC.regionW ?_
     refine zm (r := i64 v9) ?_
     refine zl (r := i64 x16) (LOp.eqr (LOp.add rfl rfl rfl) (congrArg (ik .i64) hx10)) ?_
     refine za (r := i64 x16) ?_
     refine zN ?_
     cases Option.some.inj h5_
     exact ⟨_, rfl, ((setAt?_len he9).trans hl8), ⟨aR, aR, aR, aR, aR, trivial⟩, ⟨⟨rfl, .inr rfl⟩, ⟨rfl, .inr rfl⟩, ⟨rfl, .inr rfl⟩, trivial⟩⟩
    ·refine RunC.regionW ?_
     refine zm (r := i64 v9) ?_
     refine zm (r := i64 v6) ?_
     refine zl (r := b false) (LOp.eqb (LOp.lss rfl rfl rfl) hc3) ?_
     refine zN ?_
     refine RunC.cond_false rfl rfl ?_
     refine RunC.exit ?_
     cases Option.some.inj h5_
     have hx := ho5 _ rfl
     exact ⟨L7, hl8, ⟨aR, aR, aR, aR, trivial⟩, ⟨⟨rfl, .inr rfl⟩, ⟨rfl, .inr rfl⟩, ⟨rfl, .inr rfl⟩, trivial⟩, hx⟩
   ·rintro τ6 Γ6 ⟨L17, hl18, hw6, hd6, rfl⟩
    refine RunC.wl hw6 hd6 ?_
    replace h4_ : s_B10Even_k2 v6 L17 = some y4_ := h4_
    unfold s_B10Even_k2 at h4_
    obtain ⟨x19, hx11, h4_⟩ := olet_some h4_
    refine RunC.regionW ?_
    refine zm (r := i64 v6) ?_
    refine zl (r := i64 x19) (LOp.eqr (LOp.add rfl rfl rfl) (congrArg (ik .i64) hx11)) ?_
    refine za (r := i64 x19) ?_
    refine zN ?_
    cases Option.some.inj h4_
    exact ⟨_, rfl, hl18, ⟨aR, aR, aR, aR, trivial⟩, ⟨⟨rfl, .inr rfl⟩, ⟨rfl, .inr rfl⟩, ⟨rfl, .inr rfl⟩, trivial⟩⟩
  ·refine RunC.regionW ?_
   refine zm (r := i64 v6) ?_
   refine zm (r := i64 a1) ?_
   refine zl (r := b false) (LOp.eqb (LOp.lss rfl rfl rfl) hc2) ?_
   refine zN ?_
   refine RunC.cond_false rfl rfl ?_
   refine RunC.exit ?_
   cases Option.some.inj h4_
   have hx := ho4 _ rfl
   exact ⟨L4, hl5, ⟨aR, aR, trivial⟩, ⟨⟨rfl, .inr rfl⟩, ⟨rfl, .inr rfl⟩, ⟨rfl, .inr rfl⟩, trivial⟩, hx⟩
 ·rintro τ7 Γ7 ⟨L20, hl21, hw7, hd7, rfl⟩
  refine RunC.wl hw7 hd7 ?_
  replace h : s_B10Even_k3 r1 r2 L20 = some (q0, q1, q2) := h
  unfold s_B10Even_k3 at h
  refine zQ ?_
  refine ROps.d (r := agg (oXc r1 r2 1 1 r3.length)) (fs := []) (Γ' := [⟨1, some zMx⟩, ⟨1, some (L20.map f32)⟩, ⟨1, some (oXc r1 r2 1 1 r3.length)⟩]) rfl rfl rfl (TOp.loadAgg_o rfl agg33 siz33 rfl rfl rfl rfl) rfl ?_
  refine ROps.store_le (r := agg (oXc r1 r2 1 1 r3.length)) (l' := (oXc r1 r2 1 1 r3.length)) (Γ' := [⟨1, some (oXc r1 r2 1 1 r3.length)⟩, ⟨1, some (L20.map f32)⟩, ⟨1, some (oXc r1 r2 1 1 r3.length)⟩]) rfl siz33 rfl rfl rfl aR rfl rfl rfl rfl (Nat.le_of_ble_eq_true rfl) rfl rfl ?_
  refine zN ?_
  refine RunC.ret ?_
  have hq := Option.some.inj h
  obtain ⟨hq0, hq⟩ := Prod.mk.inj hq
  obtain ⟨hq1, hq⟩ := Prod.mk.inj hq
  subst q0
  subst q1
  subst q2
  exact bodyQ.mk (r' := agg (oXc r1 r2 1 1 L20.length)) [(1, 1)] (.inr rfl) rfl (show List.Nodup [1] from by decide) rfl rfl (Res.eq (Res.one rfl (RV.cell agg33 siz33 rfl rfl rfl rfl)) (by rw [(show L20.length = r3.length from hl21)] <;> rfl)) (SelL.arr0 (f := f32) (fun _ => rfl) rfl trivial)
noncomputable def s_B10Vector_b1 (r1 : List Int) (L6 : List F) (v7 : Int) (v8 : Int) (v9 : Int) : Option (LR ((List F) × Int × Int × Int) ((List F)) ((List F))) :=
 bsel (decide (0 < v9)) (
  obind3 (s_l00Src_pick_0p0_C0 33 r1 v7 v8) fun (r10 : Int) (r11 : Int) (r12 : Int) =>
  olet (IntKind.i64.wrap (r10 - 16)) fun (x13 : Int) =>
  olet (fint .f32 x13) fun (x14 : F) =>
  olet (fop .quo .f32 x14 (some 1082130432)) fun (x15 : F) =>
  need (apok 4 L6.length 1) <|
  olet (IntKind.i64.wrap (v9 - 1)) fun (x16 : Int) =>
  some (LR.next ((L6 ++ ([x15] : List F)), r11, r12, x16))) (
  some (LR.out L6))
noncomputable def s_B10Vector_s1 (r1 : List Int) : ((List F) × Int × Int × Int) → Option (LR ((List F) × Int × Int × Int) ((List F)) ((List F))) := fun s => s_B10Vector_b1 r1 s.1 s.2.1 s.2.2.1 s.2.2.2
noncomputable def s_B10Vector_k1 (L19 : List F) : Option ((List F)) :=
 some L19
noncomputable def s_B10Vector (a0 : List Int) (a1 : Int) : Option ((List F)) :=
 obind3 (s_l00From a0) fun (r1 : List Int) (r2 : Int) (r3 : Int) =>
 obind (loopM (s_B10Vector_s1 r1) (([] : List F), r2, r3, a1)) fun z => osum z (fun e => s_B10Vector_k1 e) (fun r => some r)
theorem s_B10Vector_ok (a0 : List Int) (a1 : Int) (q0 : List F) (h : s_B10Vector a0 a1 = some q0) : Ev Try.prog 18 [sl a0.length (a0.map (ik .u8)), i64 a1] [] (oref 0 0 0 q0.length) [⟨0, some (q0.map f32)⟩] := by
 refine Ev.start Try.func18 rfl rfl 3 (τ := [(0, sl a0.length (a0.map (ik .u8))), (1, i64 a1)]) rfl (Γ' := [⟨0, none⟩, ⟨0, none⟩, ⟨0, none⟩]) rfl (n := 47) rfl (g := 0) rfl (fun _ => rfl) ?_
 unfold s_B10Vector at h
 refine zQ ?_
 refine za (r := nilsl) ?_
 refine zN ?_
 refine RunC.seq ?_
 obtain ⟨r1, r2, r3, hf1, h⟩ := obind3_some h
 refine RunC.regionW ?_
 refine zm (r := sl a0.length (a0.map (ik .u8))) ?_
 refine ROps.d (r := optr 0 1 0) (fs := [(0, [sl r1.length (r1.map (ik .u8)), i64 r2, ik .u64 r3])]) (Γ' := [⟨1, some [sl r1.length (r1.map (ik .u8)), i64 r2, ik .u64 r3]⟩, ⟨0, none⟩, ⟨0, none⟩]) rfl rfl rfl (TOp.callN (A := [sl a0.length (a0.map (ik .u8))]) (ls := [[sl r1.length (r1.map (ik .u8)), i64 r2, ik .u64 r3]]) [0] (by exact (CallAs.func ent71 rfl rfl)) (lts_cons (lt_sl (fun _ => rfl)) lts_nil) (s_l00From_ok a0 r1 r2 r3 hf1) (and_all (lts_cons (lt_sl (fun _ => rfl)) (lts_cons rfl (lts_cons rfl lts_nil))) rfl) rfl (by decide) (ns_of ⟨⟨_, rfl⟩, trivial⟩)) rfl ?_
 refine za (r := optr 0 1 0) ?_
 refine zN ?_
 refine zQ ?_
 refine ROps.d (r := oref 1 1 0 0) (fs := [(1, (([] : List F).map f32))]) (Γ' := [⟨1, some [sl r1.length (r1.map (ik .u8)), i64 r2, ik .u64 r3]⟩, ⟨1, some (([] : List F).map f32)⟩, ⟨0, none⟩]) rfl rfl rfl (TOp.buildSlice_o (g := ⟨0, none⟩) (za := f32 (some 0)) (qs := []) 1 rfl und26 siz28 zer28 rfl zel28 rfl rfl trivial rfl) rfl ?_
 refine za (r := oref 1 1 0 0) ?_
 refine zN ?_
 refine RunC.seq ?_
 obtain ⟨z2, hz_2, h⟩ := obind_some h
 refine RunC.cutN (fun τ Γ => ∃ (L19 : List F) (u17 : Nat) (u18 : Nat), WeakLe τ [(6, oref 1 u17 0 L19.length)] ∧ DeadLe Γ [⟨1, none⟩, ⟨u17, some (L19.map f32)⟩, ⟨u18, none⟩] ∧ z2 = .inl L19) ?_ ?_
 ·refine RunC.block (RunC.loop (RunL.loopM (x := z2) (s_B10Vector_s1 r1) (fun (s : (List F) × Int × Int × Int) τ Γ => ∃ (u4 : Nat) (u5 : Nat), WeakLe τ [(1, i64 s.2.2.2), (5, optr 0 1 0), (6, oref 1 u4 0 s.1.length)] ∧ DeadLe Γ [⟨1, some [sl r1.length (r1.map (ik .u8)), i64 s.2.1, ik .u64 s.2.2.1]⟩, ⟨u4, some (s.1.map f32)⟩, ⟨u5, none⟩]) ?_ _ _ _ hz_2 ⟨1, 0, ⟨aR, aR, aR, trivial⟩, ⟨⟨rfl, .inr rfl⟩, ⟨rfl, .inr rfl⟩, ⟨rfl, .inl rfl⟩, trivial⟩⟩))
  rintro ⟨L6, v7, v8, v9⟩ τ2 Γ2 y2_ ⟨u4, u5, hw2, hd2⟩ h2_ ho2 hr2
  refine RunC.wl (τ' := [(1, i64 v9), (5, optr 0 1 0), (6, oref 1 u4 0 L6.length)]) (Γ' := [⟨1, some [sl r1.length (r1.map (ik .u8)), i64 v7, ik .u64 v8]⟩, ⟨u4, some (L6.map f32)⟩, ⟨u5, none⟩]) hw2 hd2 ?_
  replace h2_ : s_B10Vector_b1 r1 L6 v7 v8 v9 = some y2_ := h2_
  unfold s_B10Vector_b1 at h2_
  iterate 2 (refine RunC.seq ?_)
  rcases bsel_some h2_ with ⟨hc2, h2_⟩ | ⟨hc2, h2_⟩
  ·refine RunC.regionW ?_
   refine zm (r := i64 v9) ?_
   refine zl (r := b true) (LOp.eqb (LOp.gtr rfl rfl rfl) hc2) ?_
   refine zN ?_
   refine RunC.cond_true rfl rfl ?_
   refine RunC.skip ?_
   refine RunC.seq ?_
   refine RunC.block ?_
   obtain ⟨r10, r11, r12, hf3, h2_⟩ := obind3_some h2_
   obtain ⟨x13, hx4, h2_⟩ := olet_some h2_
   obtain ⟨x14, hx5, h2_⟩ := olet_some h2_
   obtain ⟨x15, hx6, h2_⟩ := olet_some h2_
   obtain ⟨hm7, h2_⟩ := need_some h2_
   refine RunC.regionW ?_
   refine zm (r := oref 1 u4 0 L6.length) ?_
   refine zm (r := optr 0 1 0) ?_
   refine ROps.callO (A := [optr 0 1 0, i64 33]) (args := [optr 0 0 0, i64 33]) (Γc := [⟨0, some [sl r1.length (r1.map (ik .u8)), i64 v7, ik .u64 v8]⟩]) (Γc' := [⟨0, some [sl r1.length (r1.map (ik .u8)), i64 r11, ik .u64 r12]⟩]) (r' := i64 r10) (Γ' := [⟨1, some [sl r1.length (r1.map (ik .u8)), i64 r11, ik .u64 r12]⟩, ⟨u4, some (L6.map f32)⟩, ⟨u5, none⟩]) [(0, 1)] [] rfl (CallAs.func ent72 rfl rfl) rfl rfl (SelOk.of (show List.Nodup [0] from by decide) (SelL.cells0 rfl (by simp [ren, rens, sigma, rens_f32, rens_f64, rens_i64, rens_ik, rens_str, rens_cp]) (lts_cons (lt_slk (fun _ => rfl)) (lts_cons rfl (lts_cons rfl lts_nil))) trivial)) (live_of ⟨⟨_, _, rfl⟩, trivial⟩) (by simp [ren, rens, sigma, rens_f32, rens_f64, rens_i64, rens_ik, rens_str, rens_cp]) rfl (s_l00Src_pick_0p0_C0_ok 33 r1 v7 v8 r10 r11 r12 hf3) rfl (news_of trivial) (show List.Nodup [0] from by decide) (by simp [ren, rens, sigma]) (by simp [backOb, sigma, ren, rens, rens_f32, rens_f64, rens_i64, rens_ik, rens_str, rens_cp]) ?_
   refine zl (r := i64 x13) (LOp.eqr (LOp.sub rfl rfl rfl) (congrArg (ik .i64) hx4)) ?_
   refine zl (r := f32 x14) (LOp.eqr (LOp.i2f (src := 2) (dst := 28) ⟨_, pun2⟩ pun28 rfl rfl) (congrArg (f .f32) hx5)) ?_
   refine ROps.d (r := f32 x15) (fs := []) (Γ' := [⟨1, some [sl r1.length (r1.map (ik .u8)), i64 r11, ik .u64 r12]⟩, ⟨u4, some (L6.map f32)⟩, ⟨u5, none⟩]) rfl rfl rfl (TOp.eqr (TOp.fop (.inr (.inr (.inr rfl))) rfl (OpF.tmp rfl) (OpF.const rfl (by kernel_rfl) (by kernel_rfl))) (congrArg (f .f32) hx6)) rfl ?_
   refine ROps.d (r := oref 2 (u5 + 1) 0 1) (fs := [(2, (([x15] : List F).map f32))]) (Γ' := [⟨1, some [sl r1.length (r1.map (ik .u8)), i64 r11, ik .u64 r12]⟩, ⟨u4, some (L6.map f32)⟩, ⟨(u5 + 1), some (([x15] : List F).map f32)⟩]) rfl rfl rfl (TOp.buildSlice_o (g := ⟨u5, none⟩) (za := f32 (some 0)) (qs := [(0, [f32 x15])]) 2 rfl und26 siz28 zer28 rfl zel28 rfl rfl ⟨rfl, ⟨_, ALe.refl _, rfl⟩, trivial⟩ rfl) rfl ?_
   refine ROps.app (f := f32) (xs := L6) (ys := ([x15] : List F)) (Γ' := [⟨1, some [sl r1.length (r1.map (ik .u8)), i64 r11, ik .u64 r12]⟩, ⟨(u4 + 1), some ((L6 ++ ([x15] : List F)).map f32)⟩, ⟨(u5 + 1), some (([x15] : List F).map f32)⟩]) rfl pun26 inf28 rfl rfl rfl rfl rfl rfl rfl rfl rfl (by simp) (ReadAs.own rfl (by simp)) (ones_map (fun _ => rfl)) (ap_by hm7) (ap_mx hm7) rfl ?_
   refine za (r := oref 1 (u4 + 1) 0 (L6.length + 1)) ?_
   refine zN ?_
   refine RunC.wl (τ' := [(1, i64 v9), (5, optr 0 1 0), (6, oref 1 (u4 + 1) 0 (L6.length + 1))]) (Γ' := [⟨1, some [sl r1.length (r1.map (ik .u8)), i64 r11, ik .u64 r12]⟩, ⟨(u4 + 1), some ((L6 ++ ([x15] : List F)).map f32)⟩, ⟨(u5 + 1), none⟩]) ⟨aR, aR, aR, trivial⟩ ⟨⟨rfl, .inr rfl⟩, ⟨rfl, .inr rfl⟩, ⟨rfl, .inl rfl⟩, trivial⟩ ?_
   obtain ⟨x16, hx8, h2_⟩ := olet_some h2_
   refine RunC.regionW ?_
   refine zm (r := i64 v9) ?_
   refine zl (r := i64 x16) (LOp.eqr (LOp.sub rfl rfl rfl) (congrArg (ik .i64) hx8)) ?_
   refine za (r := i64 x16) ?_
   refine zN ?_
   cases Option.some.inj h2_
   exact ⟨_, rfl, (u4 + 1), (u5 + 1), ⟨aR, aR, (ALe.eq (by rw [(app_len rfl rfl)] <;> rfl)), trivial⟩, ⟨⟨rfl, .inr rfl⟩, ⟨rfl, .inr rfl⟩, ⟨rfl, .inl rfl⟩, trivial⟩⟩
  ·refine RunC.regionW ?_
   refine zm (r := i64 v9) ?_
   refine zl (r := b false) (LOp.eqb (LOp.gtr rfl rfl rfl) hc2) ?_
   refine zN ?_
   refine RunC.cond_false rfl rfl ?_
   refine RunC.exit ?_
   cases Option.some.inj h2_
   have hx := ho2 _ rfl
   exact ⟨L6, u4, u5, ⟨aR, trivial⟩, ⟨⟨rfl, .inl rfl⟩, ⟨rfl, .inr rfl⟩, ⟨rfl, .inl rfl⟩, trivial⟩, hx⟩
 ·rintro τ3 Γ3 ⟨L19, u17, u18, hw3, hd3, rfl⟩
  refine RunC.wl hw3 hd3 ?_
  replace h : s_B10Vector_k1 L19 = some q0 := h
  unfold s_B10Vector_k1 at h
  refine zQ ?_
  refine zm (r := oref 1 u17 0 L19.length) ?_
  refine za (r := oref 1 u17 0 L19.length) ?_
  refine zN ?_
  refine RunC.ret ?_
  have hq := Option.some.inj h
  subst q0
  exact bodyQ.mk (r' := oref 1 u17 0 L19.length) [(1, u17)] (.inr rfl) rfl (show List.Nodup [1] from by decide) (by simp [ren, rens, sigma]) rfl (Res.one rfl (RV.tmp rfl)) (SelL.arr0 (f := f32) (fun _ => rfl) rfl trivial)
noncomputable def i_inRange (a0 : Int) (a1 : Int) (a2 : Int) : Option (Bool) :=
 bsel (decide (a1 ≤ a0)) (
  some (decide (a0 ≤ a2))) (
  some false)
theorem i_inRange_ok (a0 : Int) (a1 : Int) (a2 : Int) (q0 : Bool) (h : i_inRange a0 a1 a2 = some q0) : Ev Try.prog 85 [i64 a0, i64 a1, i64 a2] [] (b q0) [] := by
 refine Ev.start Try.func85 rfl rfl 0 (τ := [(0, i64 a0), (1, i64 a1), (2, i64 a2)]) rfl (Γ' := []) rfl (n := 31) rfl (g := 0) rfl (fun _ => rfl) ?_
 unfold i_inRange at h
 refine zQ ?_
 refine za (r := b false) ?_
 refine zN ?_
 refine RunC.seq ?_
 rcases bsel_some h with ⟨hc1, h⟩ | ⟨hc1, h⟩
 ·refine RunC.regionW ?_
  refine zm (r := i64 a1) ?_
  refine zm (r := i64 a0) ?_
  refine zl (r := b true) (LOp.eqb (LOp.leq rfl rfl rfl) hc1) ?_
  refine zm (r := b true) ?_
  refine zm (r := i64 a0) ?_
  refine zm (r := i64 a2) ?_
  refine zl (r := b (decide (a0 ≤ a2))) (LOp.leq rfl rfl rfl) ?_
  refine zl (r := b (decide (a0 ≤ a2))) (LOp.pick_true rfl rfl rfl) ?_
  refine za (r := b (decide (a0 ≤ a2))) ?_
  refine zN ?_
  refine RunC.ret ?_
  have hq := Option.some.inj h
  subst q0
  exact bodyQ.pure (.inr rfl) rfl (Res.one rfl (RV.tmp rfl))
 ·refine RunC.regionW ?_
  refine zm (r := i64 a1) ?_
  refine zm (r := i64 a0) ?_
  refine zl (r := b false) (LOp.eqb (LOp.leq rfl rfl rfl) hc1) ?_
  refine zm (r := b false) ?_
  iterate 3 (refine ROps.s rfl rfl rfl ?_)
  refine zl (r := b false) (LOp.pick_false rfl rfl rfl) ?_
  refine za (r := b false) ?_
  refine zN ?_
  refine RunC.ret ?_
  have hq := Option.some.inj h
  subst q0
  exact bodyQ.pure (.inr rfl) rfl (Res.one rfl (RV.tmp rfl))
noncomputable def i_isSide (a0 : Int) : Option (Bool) :=
 obind (i_inRange a0 1 12) fun (r1 : Bool) =>
 some r1
theorem i_isSide_ok (a0 : Int) (q0 : Bool) (h : i_isSide a0 = some q0) : Ev Try.prog 89 [i64 a0] [] (b q0) [] := by
 refine Ev.start Try.func89 rfl rfl 0 (τ := [(0, i64 a0)]) rfl (Γ' := []) rfl (n := 11) rfl (g := 0) rfl (fun _ => rfl) ?_
 unfold i_isSide at h
 refine zQ ?_
 refine za (r := b false) ?_
 refine zN ?_
 refine RunC.seq ?_
 obtain ⟨r1, hf1, h⟩ := obind_some h
 refine RunC.regionW ?_
 refine zm (r := i64 a0) ?_
 refine ROps.d (r := b r1) (fs := []) (Γ' := []) rfl rfl rfl (TOp.callB (CallAs.func ent85 rfl rfl) (Bors.cons (Bor.pure rfl) (Bors.cons (Bor.pure rfl) (Bors.cons (Bor.pure rfl) Bors.nil))) rfl rfl (i_inRange_ok a0 1 12 r1 hf1)) rfl ?_
 refine za (r := b r1) ?_
 refine zN ?_
 refine RunC.ret ?_
 have hq := Option.some.inj h
 subst q0
 exact bodyQ.pure (.inr rfl) rfl (Res.one rfl (RV.tmp rfl))
noncomputable def i_length_float32 (a0 : List F) : Option (Int) :=
 some (a0.length : Int)
theorem i_length_float32_ok (a0 : List F) (q0 : Int) (h : i_length_float32 a0 = some q0) : Ev Try.prog 62 [(sFc a0)] [] (i64 q0) [] := by
 refine Ev.start Try.func62 rfl rfl 0 (τ := [(0, (sFc a0))]) rfl (Γ' := []) rfl (n := 11) rfl (g := 0) rfl (fun _ => rfl) ?_
 unfold i_length_float32 at h
 refine zQ ?_
 refine za (r := i64 0) ?_
 refine zN ?_
 refine zQ ?_
 refine zm (r := (sFc a0)) ?_
 refine zl (r := i64 (a0.length : Int)) (LOp.len_sl und26 rfl rfl) ?_
 refine za (r := i64 (a0.length : Int)) ?_
 refine zN ?_
 refine RunC.ret ?_
 have hq := Option.some.inj h
 subst q0
 exact bodyQ.pure (.inr rfl) rfl (Res.one rfl (RV.tmp rfl))
noncomputable def x_math_IsNaN (a0 : F) : Option (Bool) :=
 some (!feq .f64 a0 a0)
theorem x_math_IsNaN_ok (a0 : F) (q0 : Bool) (h : x_math_IsNaN a0 = some q0) : Ev Try.prog 173 [f64 a0] [] (b q0) [] := by
 refine Ev.start Try.func173 rfl rfl 0 (τ := [(0, f64 a0)]) rfl (Γ' := []) rfl (n := 13) rfl (g := 0) rfl (fun _ => rfl) ?_
 unfold x_math_IsNaN at h
 refine zQ ?_
 refine za (r := b false) ?_
 refine zN ?_
 refine zQ ?_
 iterate 2 (refine zm (r := f64 a0) ?_)
 refine zl (r := b (!feq .f64 a0 a0)) (LOp.fne rfl (OpF.tmp rfl) (OpF.tmp rfl)) ?_
 refine za (r := b (!feq .f64 a0 a0)) ?_
 refine zN ?_
 refine RunC.ret ?_
 have hq := Option.some.inj h
 subst q0
 exact bodyQ.pure (.inr rfl) rfl (Res.one rfl (RV.tmp rfl))
noncomputable def x_math_Abs (a0 : F) : Option (F) :=
 olet (fabs a0) fun (x1 : F) =>
 some x1
theorem x_math_Abs_ok (a0 : F) (q0 : F) (h : x_math_Abs a0 = some q0) : Ev Try.prog 180 [f64 a0] [] (f64 q0) [] := by
 refine Ev.start Try.func180 rfl rfl 0 (τ := [(0, f64 a0)]) rfl (Γ' := []) rfl (n := 15) rfl (g := 0) rfl (fun _ => rfl) ?_
 unfold x_math_Abs at h
 refine zQ ?_
 refine zl (r := f64 (some 0)) (LOp.le (LOp.assign rfl rfl) (ALe.fl (by kernel_rfl) (by kernel_rfl))) ?_
 refine zN ?_
 refine RunC.seq ?_
 obtain ⟨x1, hx1, h⟩ := olet_some h
 refine RunC.regionW ?_
 refine zm (r := f64 a0) ?_
 refine zl (r := bt .f64 .u64 a0) (LOp.fbits ext183 rfl (OpF.tmp rfl)) ?_
 refine zl (r := bt .f64 .u64 x1) (LOp.eqr (LOp.andNot_bt rfl rfl rfl) (congrArg (bt .f64 .u64) hx1)) ?_
 refine zl (r := f64 x1) (LOp.ffrom ext157 rfl rfl) ?_
 refine za (r := f64 x1) ?_
 refine zN ?_
 refine RunC.ret ?_
 have hq := Option.some.inj h
 subst q0
 exact bodyQ.pure (.inr rfl) rfl (Res.one rfl (RV.tmp rfl))
noncomputable def x_math_IsInf_k1 (y3 : F) : Option (Bool) :=
 some (flt .f64 (some 9218868437227405311) y3)
noncomputable def x_math_IsInf (a0 : F) (a1 : Int) : Option (Bool) :=
 bsel (decide (a1 = 0)) (
  obind (x_math_Abs a0) fun (r1 : F) =>
  x_math_IsInf_k1 r1) (
  bsel (decide (a1 < 0)) (
   olet (fneg .f64 a0) fun (x2 : F) =>
   x_math_IsInf_k1 x2) (
   x_math_IsInf_k1 a0))
theorem x_math_IsInf_ok (a0 : F) (a1 : Int) (q0 : Bool) (h : x_math_IsInf a0 a1 = some q0) : Ev Try.prog 174 [f64 a0, i64 a1] [] (b q0) [] := by
 refine Ev.start Try.func174 rfl rfl 0 (τ := [(0, f64 a0), (1, i64 a1)]) rfl (Γ' := []) rfl (n := 31) rfl (g := 0) rfl (fun _ => rfl) ?_
 unfold x_math_IsInf at h
 refine zQ ?_
 refine za (r := b false) ?_
 refine zN ?_
 refine RunC.seq ?_
 refine RunC.cutN (fun τ Γ => ∃ (y3 : F), WeakLe τ [(0, f64 y3)] ∧ DeadLe Γ [] ∧ x_math_IsInf_k1 y3 = some q0) ?_ ?_
 ·refine RunC.seq ?_
  rcases bsel_some h with ⟨hc1, h⟩ | ⟨hc1, h⟩
  ·refine RunC.regionW ?_
   refine zm (r := i64 a1) ?_
   refine zl (r := b true) (LOp.eqb (LOp.eql rfl rfl rfl) hc1) ?_
   refine zN ?_
   refine RunC.cond_true rfl rfl ?_
   obtain ⟨r1, hf2, h⟩ := obind_some h
   refine RunC.regionW ?_
   refine zm (r := f64 a0) ?_
   refine ROps.d (r := f64 r1) (fs := []) (Γ' := []) rfl rfl rfl (TOp.callB (CallAs.func ent180 rfl rfl) (Bors.cons (Bor.pure rfl) Bors.nil) rfl rfl (x_math_Abs_ok a0 r1 hf2)) rfl ?_
   refine za (r := f64 r1) ?_
   refine zN ?_
   exact ⟨r1, ⟨aR, trivial⟩, trivial, h⟩
  ·refine RunC.regionW ?_
   refine zm (r := i64 a1) ?_
   refine zl (r := b false) (LOp.eqb (LOp.eql rfl rfl rfl) hc1) ?_
   refine zN ?_
   refine RunC.cond_false rfl rfl ?_
   refine RunC.seq ?_
   rcases bsel_some h with ⟨hc3, h⟩ | ⟨hc3, h⟩
   ·refine RunC.regionW ?_
    refine zm (r := i64 a1) ?_
    refine zl (r := b true) (LOp.eqb (LOp.lss rfl rfl rfl) hc3) ?_
    refine zN ?_
    refine RunC.cond_true rfl rfl ?_
    obtain ⟨x2, hx4, h⟩ := olet_some h
    refine RunC.regionW ?_
    refine zm (r := f64 a0) ?_
    refine zl (r := f64 x2) (LOp.eqr (LOp.fneg rfl (OpF.tmp rfl)) (congrArg (f .f64) hx4)) ?_
    refine za (r := f64 x2) ?_
    refine zN ?_
    exact ⟨x2, ⟨aR, trivial⟩, trivial, h⟩
   ·refine RunC.regionW ?_
    refine zm (r := i64 a1) ?_
    refine zl (r := b false) (LOp.eqb (LOp.lss rfl rfl rfl) hc3) ?_
    refine zN ?_
    refine RunC.cond_false rfl rfl ?_
    refine RunC.skip ?_
    exact ⟨a0, ⟨aR, trivial⟩, trivial, h⟩
 ·rintro τ2 Γ2 ⟨y3, hw2, hd2, h⟩
  refine RunC.wl hw2 hd2 ?_
  unfold x_math_IsInf_k1 at h
  refine zQ ?_
  refine zm (r := f64 y3) ?_
  refine zl (r := b (flt .f64 (some 9218868437227405311) y3)) (LOp.fgt rfl (OpF.tmp rfl) (OpF.const rfl (by kernel_rfl) (by kernel_rfl))) ?_
  refine za (r := b (flt .f64 (some 9218868437227405311) y3)) ?_
  refine zN ?_
  refine RunC.ret ?_
  have hq := Option.some.inj h
  subst q0
  exact bodyQ.pure (.inr rfl) rfl (Res.one rfl (RV.tmp rfl))
noncomputable def i_isFinite64 (a0 : F) : Option (Bool) :=
 obind (x_math_IsNaN a0) fun (r1 : Bool) =>
 bsel r1 (
  some false) (
  obind (x_math_IsInf a0 0) fun (r2 : Bool) =>
  some (!r2))
theorem i_isFinite64_ok (a0 : F) (q0 : Bool) (h : i_isFinite64 a0 = some q0) : Ev Try.prog 145 [f64 a0] [] (b q0) [] := by
 refine Ev.start Try.func145 rfl rfl 0 (τ := [(0, f64 a0)]) rfl (Γ' := []) rfl (n := 23) rfl (g := 0) rfl (fun _ => rfl) ?_
 unfold i_isFinite64 at h
 refine zQ ?_
 refine za (r := b false) ?_
 refine zN ?_
 refine RunC.seq ?_
 obtain ⟨r1, hf1, h⟩ := obind_some h
 rcases bsel_some h with ⟨hc2, h⟩ | ⟨hc2, h⟩
 ·refine RunC.regionW ?_
  refine zm (r := f64 a0) ?_
  refine ROps.d (r := b true) (fs := []) (Γ' := []) rfl rfl rfl (TOp.eqb (TOp.callB (CallAs.func ent173 rfl rfl) (Bors.cons (Bor.pure rfl) Bors.nil) rfl rfl (x_math_IsNaN_ok a0 r1 hf1)) hc2) rfl ?_
  refine zl (r := b false) (LOp.eqb (LOp.not rfl rfl) rfl) ?_
  refine zm (r := b false) ?_
  iterate 3 (refine ROps.s rfl rfl rfl ?_)
  refine zl (r := b false) (LOp.pick_false rfl rfl rfl) ?_
  refine za (r := b false) ?_
  refine zN ?_
  refine RunC.ret ?_
  have hq := Option.some.inj h
  subst q0
  exact bodyQ.pure (.inr rfl) rfl (Res.one rfl (RV.tmp rfl))
 ·obtain ⟨r2, hf3, h⟩ := obind_some h
  refine RunC.regionW ?_
  refine zm (r := f64 a0) ?_
  refine ROps.d (r := b false) (fs := []) (Γ' := []) rfl rfl rfl (TOp.eqb (TOp.callB (CallAs.func ent173 rfl rfl) (Bors.cons (Bor.pure rfl) Bors.nil) rfl rfl (x_math_IsNaN_ok a0 r1 hf1)) hc2) rfl ?_
  refine zl (r := b true) (LOp.eqb (LOp.not rfl rfl) rfl) ?_
  refine zm (r := b true) ?_
  refine zm (r := f64 a0) ?_
  refine ROps.d (r := b r2) (fs := []) (Γ' := []) rfl rfl rfl (TOp.callB (CallAs.func ent174 rfl rfl) (Bors.cons (Bor.pure rfl) (Bors.cons (Bor.pure rfl) Bors.nil)) rfl rfl (x_math_IsInf_ok a0 0 r2 hf3)) rfl ?_
  refine zl (r := b (!r2)) (LOp.not rfl rfl) ?_
  refine zl (r := b (!r2)) (LOp.pick_true rfl rfl rfl) ?_
  refine za (r := b (!r2)) ?_
  refine zN ?_
  refine RunC.ret ?_
  have hq := Option.some.inj h
  subst q0
  exact bodyQ.pure (.inr rfl) rfl (Res.one rfl (RV.tmp rfl))
noncomputable def i_IsFinite (a0 : F) : Option (Bool) :=
 olet (fwiden a0) fun (x1 : F) =>
 obind (i_isFinite64 x1) fun (r2 : Bool) =>
 some r2
theorem i_IsFinite_ok (a0 : F) (q0 : Bool) (h : i_IsFinite a0 = some q0) : Ev Try.prog 80 [f32 a0] [] (b q0) [] := by
 refine Ev.start Try.func80 rfl rfl 0 (τ := [(0, f32 a0)]) rfl (Γ' := []) rfl (n := 13) rfl (g := 0) rfl (fun _ => rfl) ?_
 unfold i_IsFinite at h
 refine zQ ?_
 refine za (r := b false) ?_
 refine zN ?_
 refine RunC.seq ?_
 obtain ⟨x1, hx1, h⟩ := olet_some h
 obtain ⟨r2, hf2, h⟩ := obind_some h
 refine RunC.regionW ?_
 refine zm (r := f32 a0) ?_
 refine ROps.d (r := f64 x1) (fs := []) (Γ' := []) rfl rfl rfl (TOp.eqr (TOp.widen (src := 28) (dst := 40) ⟨_, pun28⟩ pun40 rfl (OpF.tmp rfl)) (congrArg (f .f64) hx1)) rfl ?_
 refine ROps.d (r := b r2) (fs := []) (Γ' := []) rfl rfl rfl (TOp.callB (CallAs.func ent145 rfl rfl) (Bors.cons (Bor.pure rfl) Bors.nil) rfl rfl (i_isFinite64_ok x1 r2 hf2)) rfl ?_
 refine za (r := b r2) ?_
 refine zN ?_
 refine RunC.ret ?_
 have hq := Option.some.inj h
 subst q0
 exact bodyQ.pure (.inr rfl) rfl (Res.one rfl (RV.tmp rfl))
noncomputable def i_areFinite_1 (a0 : F) : Option (Bool) :=
 obind (i_IsFinite a0) fun (r1 : Bool) =>
 some (!r1)
theorem i_areFinite_1_ok (a0 : F) (q0 : Bool) (h : i_areFinite_1 a0 = some q0) : Ev Try.prog 141 [f32 a0] [] (b q0) [] := by
 refine Ev.start Try.func141 rfl rfl 0 (τ := [(0, f32 a0)]) rfl (Γ' := []) rfl (n := 13) rfl (g := 0) rfl (fun _ => rfl) ?_
 unfold i_areFinite_1 at h
 refine zQ ?_
 refine za (r := b false) ?_
 refine zN ?_
 refine RunC.seq ?_
 obtain ⟨r1, hf1, h⟩ := obind_some h
 refine RunC.regionW ?_
 refine zm (r := f32 a0) ?_
 refine ROps.d (r := b r1) (fs := []) (Γ' := []) rfl rfl rfl (TOp.callB (CallAs.func ent80 rfl rfl) (Bors.cons (Bor.pure rfl) Bors.nil) rfl rfl (i_IsFinite_ok a0 r1 hf1)) rfl ?_
 refine zl (r := b (!r1)) (LOp.not rfl rfl) ?_
 refine za (r := b (!r1)) ?_
 refine zN ?_
 refine RunC.ret ?_
 have hq := Option.some.inj h
 subst q0
 exact bodyQ.pure (.inr rfl) rfl (Res.one rfl (RV.tmp rfl))
noncomputable def x_slices_IndexFunc_float32_float32_1Fi_areFinite_1_b1 (a0 : List F) (v1 : Int) : Option (LR (Int) (Unit) (Int)) :=
 bsel (decide (v1 < (a0.length : Int))) (
  obind (at? a0 v1) fun (e2 : F) =>
  obind (i_areFinite_1 e2) fun (r3 : Bool) =>
  bsel r3 (
   some (LR.ret v1)) (
   olet (IntKind.i64.wrap (v1 + 1)) fun (x4 : Int) =>
   some (LR.next x4))) (
  some (LR.out ()))
noncomputable def x_slices_IndexFunc_float32_float32_1Fi_areFinite_1_s1 (a0 : List F) : (Int) → Option (LR (Int) (Unit) (Int)) := fun s => x_slices_IndexFunc_float32_float32_1Fi_areFinite_1_b1 a0 s
noncomputable def x_slices_IndexFunc_float32_float32_1Fi_areFinite_1_k1  : Option (Int) :=
 some (-1)
noncomputable def x_slices_IndexFunc_float32_float32_1Fi_areFinite_1 (a0 : List F) : Option (Int) :=
 obind (loopM (x_slices_IndexFunc_float32_float32_1Fi_areFinite_1_s1 a0) 0) fun z => osum z (fun _ => x_slices_IndexFunc_float32_float32_1Fi_areFinite_1_k1) (fun r => some r)
theorem x_slices_IndexFunc_float32_float32_1Fi_areFinite_1_ok (a0 : List F) (q0 : Int) (h : x_slices_IndexFunc_float32_float32_1Fi_areFinite_1 a0 = some q0) : Ev Try.prog 164 [(sFc a0), fn (.func 141) [] []] [] (i64 q0) [] := by
 refine Ev.start Try.func164 rfl rfl 0 (τ := [(0, (sFc a0)), (1, fn (.func 141) [] [])]) rfl (Γ' := []) rfl (n := 39) rfl (g := 0) rfl (fun _ => rfl) ?_
 unfold x_slices_IndexFunc_float32_float32_1Fi_areFinite_1 at h
 refine zQ ?_
 refine za (r := i64 0) ?_
 refine zN ?_
 refine RunC.seq ?_
 refine zQ ?_
 refine zm (r := (sFc a0)) ?_
 refine zl (r := i64 (a0.length : Int)) (LOp.len_sl und26 rfl rfl) ?_
 refine zm (r := i64 0) ?_
 refine zN ?_
 obtain ⟨z2, hz_2, h⟩ := obind_some h
 refine RunC.cutN (fun τ Γ => WeakLe τ [] ∧ DeadLe Γ [] ∧ z2 = .inl ()) ?_ ?_
 ·refine RunC.block (RunC.loop (RunL.loopM (x := z2) (x_slices_IndexFunc_float32_float32_1Fi_areFinite_1_s1 a0) (fun (s : Int) τ Γ => WeakLe τ [(0, (sFc a0)), (1, fn (.func 141) [] []), (7, i64 (a0.length : Int)), (8, i64 s)] ∧ DeadLe Γ []) ?_ _ _ _ hz_2 ⟨⟨aR, aR, aR, aR, trivial⟩, trivial⟩))
  rintro v1 τ2 Γ2 y2_ ⟨hw2, hd2⟩ h2_ ho2 hr2
  refine RunC.wl (τ' := [(0, (sFc a0)), (1, fn (.func 141) [] []), (7, i64 (a0.length : Int)), (8, i64 v1)]) (Γ' := []) hw2 hd2 ?_
  replace h2_ : x_slices_IndexFunc_float32_float32_1Fi_areFinite_1_b1 a0 v1 = some y2_ := h2_
  unfold x_slices_IndexFunc_float32_float32_1Fi_areFinite_1_b1 at h2_
  refine RunC.seq ?_
  rcases bsel_some h2_ with ⟨hc1, h2_⟩ | ⟨hc1, h2_⟩
  ·refine RunC.regionW ?_
   refine zl (r := b true) (LOp.eqb (LOp.lss rfl rfl rfl) hc1) ?_
   refine zN ?_
   refine RunC.seq ?_
   refine RunC.cond_true rfl rfl ?_
   refine RunC.skip ?_
   refine RunC.seq ?_
   refine RunC.block ?_
   refine zQ ?_
   refine zm (r := i64 v1) ?_
   refine za (r := i64 v1) ?_
   refine zN ?_
   refine RunC.seq ?_
   obtain ⟨e2, he2, h2_⟩ := obind_some h2_
   obtain ⟨r3, hf3, h2_⟩ := obind_some h2_
   rcases bsel_some h2_ with ⟨hc4, h2_⟩ | ⟨hc4, h2_⟩
   ·refine RunC.regionW ?_
    refine zm (r := fn (.func 141) [] []) ?_
    refine zm (r := (sFc a0)) ?_
    refine zm (r := i64 v1) ?_
    refine zl (r := ptr [f32 e2]) (LOp.le (LOp.ix (f := f32) und26 siz28 rfl rfl rfl rfl he2) ALe.ptr) ?_
    refine zl (r := f32 e2) (LOp.load1 agg28 rfl rfl) ?_
    refine ROps.d (r := b true) (fs := []) (Γ' := []) rfl rfl rfl (TOp.eqb (TOp.callB (CallAs.fn ent141 rfl rfl rfl rfl) (Bors.cons (Bor.pure rfl) Bors.nil) rfl rfl (i_areFinite_1_ok e2 r3 hf3)) hc4) rfl ?_
    refine zN ?_
    refine RunC.cond_true rfl rfl ?_
    refine zQ ?_
    refine zm (r := i64 v1) ?_
    refine za (r := i64 v1) ?_
    refine zN ?_
    refine RunC.ret ?_
    cases Option.some.inj h2_
    have hx3_ := hr2 _ rfl
    subst hx3_
    have hq := Option.some.inj h
    subst q0
    exact bodyQ.pure (.inr rfl) rfl (Res.one rfl (RV.tmp rfl))
   ·refine RunC.regionW ?_
    refine zm (r := fn (.func 141) [] []) ?_
    refine zm (r := (sFc a0)) ?_
    refine zm (r := i64 v1) ?_
    refine zl (r := ptr [f32 e2]) (LOp.le (LOp.ix (f := f32) und26 siz28 rfl rfl rfl rfl he2) ALe.ptr) ?_
    refine zl (r := f32 e2) (LOp.load1 agg28 rfl rfl) ?_
    refine ROps.d (r := b false) (fs := []) (Γ' := []) rfl rfl rfl (TOp.eqb (TOp.callB (CallAs.fn ent141 rfl rfl rfl rfl) (Bors.cons (Bor.pure rfl) Bors.nil) rfl rfl (i_areFinite_1_ok e2 r3 hf3)) hc4) rfl ?_
    refine zN ?_
    refine RunC.cond_false rfl rfl ?_
    refine RunC.skip ?_
    obtain ⟨x4, hx5, h2_⟩ := olet_some h2_
    refine RunC.regionW ?_
    refine zl (r := i64 x4) (LOp.eqr (LOp.add rfl rfl rfl) (congrArg (ik .i64) hx5)) ?_
    refine zm (r := i64 x4) ?_
    refine zN ?_
    cases Option.some.inj h2_
    exact ⟨_, rfl, ⟨aR, aR, aR, aR, trivial⟩, trivial⟩
  ·refine RunC.regionW ?_
   refine zl (r := b false) (LOp.eqb (LOp.lss rfl rfl rfl) hc1) ?_
   refine zN ?_
   refine RunC.seq ?_
   refine RunC.cond_false rfl rfl ?_
   refine RunC.exit ?_
   cases Option.some.inj h2_
   have hx := ho2 _ rfl
   exact ⟨trivial, trivial, hx⟩
 ·rintro τ4 Γ4 ⟨hw4, hd4, rfl⟩
  refine RunC.wl hw4 hd4 ?_
  replace h : x_slices_IndexFunc_float32_float32_1Fi_areFinite_1_k1 = some q0 := h
  unfold x_slices_IndexFunc_float32_float32_1Fi_areFinite_1_k1 at h
  refine zQ ?_
  refine za (r := i64 (-1)) ?_
  refine zN ?_
  refine RunC.ret ?_
  have hq := Option.some.inj h
  subst q0
  exact bodyQ.pure (.inr rfl) rfl (Res.one rfl (RV.tmp rfl))
noncomputable def x_slices_ContainsFunc_float32_float32_1Fi_areFinite_1 (a0 : List F) : Option (Bool) :=
 obind (x_slices_IndexFunc_float32_float32_1Fi_areFinite_1 a0) fun (r1 : Int) =>
 some (decide (0 ≤ r1))
theorem x_slices_ContainsFunc_float32_float32_1Fi_areFinite_1_ok (a0 : List F) (q0 : Bool) (h : x_slices_ContainsFunc_float32_float32_1Fi_areFinite_1 a0 = some q0) : Ev Try.prog 121 [(sFc a0), fn (.func 141) [] []] [] (b q0) [] := by
 refine Ev.start Try.func121 rfl rfl 0 (τ := [(0, (sFc a0)), (1, fn (.func 141) [] [])]) rfl (Γ' := []) rfl (n := 19) rfl (g := 0) rfl (fun _ => rfl) ?_
 unfold x_slices_ContainsFunc_float32_float32_1Fi_areFinite_1 at h
 refine zQ ?_
 refine za (r := b false) ?_
 refine zN ?_
 refine RunC.seq ?_
 obtain ⟨r1, hf1, h⟩ := obind_some h
 refine RunC.regionW ?_
 refine zm (r := (sFc a0)) ?_
 refine zm (r := fn (.func 141) [] []) ?_
 refine ROps.d (r := i64 r1) (fs := []) (Γ' := []) rfl rfl rfl (TOp.callB (CallAs.func ent164 rfl rfl) (Bors.cons (Bor.sl (fun _ => rfl)) (Bors.cons (Bor.fn Bors.nil Bors.nil) Bors.nil)) rfl rfl (x_slices_IndexFunc_float32_float32_1Fi_areFinite_1_ok a0 r1 hf1)) rfl ?_
 refine zl (r := b (decide (0 ≤ r1))) (LOp.geq rfl rfl rfl) ?_
 refine za (r := b (decide (0 ≤ r1))) ?_
 refine zN ?_
 refine RunC.ret ?_
 have hq := Option.some.inj h
 subst q0
 exact bodyQ.pure (.inr rfl) rfl (Res.one rfl (RV.tmp rfl))
noncomputable def i_areFinite (a0 : List F) : Option (Bool) :=
 obind (x_slices_ContainsFunc_float32_float32_1Fi_areFinite_1 a0) fun (r1 : Bool) =>
 some (!r1)
theorem i_areFinite_ok (a0 : List F) (q0 : Bool) (h : i_areFinite a0 = some q0) : Ev Try.prog 74 [(sFc a0)] [] (b q0) [] := by
 refine Ev.start Try.func74 rfl rfl 0 (τ := [(0, (sFc a0))]) rfl (Γ' := []) rfl (n := 13) rfl (g := 0) rfl (fun _ => rfl) ?_
 unfold i_areFinite at h
 refine zQ ?_
 refine za (r := b false) ?_
 refine zN ?_
 refine RunC.seq ?_
 obtain ⟨r1, hf1, h⟩ := obind_some h
 refine RunC.regionW ?_
 refine zm (r := (sFc a0)) ?_
 refine ROps.d (r := b r1) (fs := []) (Γ' := []) rfl rfl rfl (TOp.callB (CallAs.func ent121 rfl rfl) (Bors.cons (Bor.sl (fun _ => rfl)) (Bors.cons (Bor.fn Bors.nil Bors.nil) Bors.nil)) rfl rfl (x_slices_ContainsFunc_float32_float32_1Fi_areFinite_1_ok a0 r1 hf1)) rfl ?_
 refine zl (r := b (!r1)) (LOp.not rfl rfl) ?_
 refine za (r := b (!r1)) ?_
 refine zN ?_
 refine RunC.ret ?_
 have hq := Option.some.inj h
 subst q0
 exact bodyQ.pure (.inr rfl) rfl (Res.one rfl (RV.tmp rfl))
noncomputable def i_ValidMatrix (a0 : Int) (a1 : Int) (a2 : List F) : Option (Bool) :=
 obind (i_isSide a0) fun (r1 : Bool) =>
 bsel r1 (
  obind (i_isSide a1) fun (r2 : Bool) =>
  bsel r2 (
   obind (i_length_float32 a2) fun (r3 : Int) =>
   olet (IntKind.i64.wrap (a0 * a1)) fun (x4 : Int) =>
   bsel (decide (r3 = x4)) (
    obind (i_areFinite a2) fun (r5 : Bool) =>
    some r5) (
    some false)) (
   some false)) (
  some false)
theorem i_ValidMatrix_ok (a0 : Int) (a1 : Int) (a2 : List F) (q0 : Bool) (h : i_ValidMatrix a0 a1 a2 = some q0) : Ev Try.prog 102 [agg (mXc a0 a1 a2)] [] (b q0) [] := by
 refine Ev.start Try.func102 rfl rfl 0 (τ := [(0, agg (mXc a0 a1 a2))]) rfl (Γ' := []) rfl (n := 55) rfl (g := 0) rfl (fun _ => rfl) ?_
 unfold i_ValidMatrix at h
 refine zQ ?_
 refine ROps.d (r := ptr (mXc a0 a1 a2)) (fs := []) (Γ' := []) rfl rfl rfl (TOp.box_s rfl rfl rfl) rfl ?_
 refine za (r := b false) ?_
 refine zN ?_
 refine RunC.seq ?_
 obtain ⟨r1, hf1, h⟩ := obind_some h
 rcases bsel_some h with ⟨hc2, h⟩ | ⟨hc2, h⟩
 ·obtain ⟨r2, hf3, h⟩ := obind_some h
  rcases bsel_some h with ⟨hc4, h⟩ | ⟨hc4, h⟩
  ·obtain ⟨r3, hf5, h⟩ := obind_some h
   obtain ⟨x4, hx6, h⟩ := olet_some h
   rcases bsel_some h with ⟨hc7, h⟩ | ⟨hc7, h⟩
   ·obtain ⟨r5, hf8, h⟩ := obind_some h
    refine RunC.region_draw (Γ' := []) 25 mixed 
     (TR.l (r := ptr (mXc a0 a1 a2)) rfl rfl (LOp.fap und33 rfl siz2 rfl rfl rfl) <|
     (TR.l (r := i64 a0) rfl rfl (LOp.load1 agg2 rfl rfl) <|
     (TR.d (r := b true) (fs := []) rfl rfl (TOp.eqb (TOp.callB (CallAs.func ent89 rfl rfl) (Bors.cons (Bor.pure rfl) Bors.nil) rfl rfl (i_isSide_ok a0 r1 hf1)) hc2) <|
     (TR.l (r := b true) rfl rfl (LOp.move rfl rfl) <|
     (TR.l (r := ptr [i64 a1, (sFc a2)]) rfl rfl (LOp.fap und33 rfl siz2 rfl rfl rfl) <|
     (TR.l (r := i64 a1) rfl rfl (LOp.load1 agg2 rfl rfl) <|
     (TR.d (r := b true) (fs := []) rfl rfl (TOp.eqb (TOp.callB (CallAs.func ent89 rfl rfl) (Bors.cons (Bor.pure rfl) Bors.nil) rfl rfl (i_isSide_ok a1 r2 hf3)) hc4) <|
     (TR.l (r := b true) rfl rfl (LOp.pick_true rfl rfl rfl) <|
     (TR.l (r := b true) rfl rfl (LOp.move rfl rfl) <|
     (TR.l (r := ptr [(sFc a2)]) rfl rfl (LOp.fap und33 rfl siz26 rfl rfl rfl) <|
     (TR.l (r := (sFc a2)) rfl rfl (LOp.load1 agg26 rfl rfl) <|
     (TR.d (r := i64 r3) (fs := []) rfl rfl (TOp.callB (CallAs.func ent62 rfl rfl) (Bors.cons (Bor.sl (fun _ => rfl)) Bors.nil) rfl rfl (i_length_float32_ok a2 r3 hf5)) <|
     (TR.l (r := ptr (mXc a0 a1 a2)) rfl rfl (LOp.fap und33 rfl siz2 rfl rfl rfl) <|
     (TR.l (r := i64 a0) rfl rfl (LOp.load1 agg2 rfl rfl) <|
     (TR.l (r := ptr [i64 a1, (sFc a2)]) rfl rfl (LOp.fap und33 rfl siz2 rfl rfl rfl) <|
     (TR.l (r := i64 a1) rfl rfl (LOp.load1 agg2 rfl rfl) <|
     (TR.l (r := i64 x4) rfl rfl (LOp.eqr (LOp.mul rfl rfl rfl) (congrArg (ik .i64) hx6)) <|
     (TR.l (r := b true) rfl rfl (LOp.eqb (LOp.eql rfl rfl rfl) hc7) <|
     (TR.l (r := b true) rfl rfl (LOp.pick_true rfl rfl rfl) <|
     (TR.l (r := b true) rfl rfl (LOp.move rfl rfl) <|
     (TR.l (r := ptr [(sFc a2)]) rfl rfl (LOp.fap und33 rfl siz26 rfl rfl rfl) <|
     (TR.l (r := (sFc a2)) rfl rfl (LOp.load1 agg26 rfl rfl) <|
     (TR.d (r := b r5) (fs := []) rfl rfl (TOp.callB (CallAs.func ent74 rfl rfl) (Bors.cons (Bor.sl (fun _ => rfl)) Bors.nil) rfl rfl (i_areFinite_ok a2 r5 hf8)) <|
     (TR.l (r := b r5) rfl rfl (LOp.pick_true rfl rfl rfl) <|
     (TR.l (r := b r5) rfl rfl (LOp.assign rfl rfl) <|
     TR.nil))))))))))))))))))))))))) rfl (by kernel_rfl) rfl fills_nil rfl ?_
    iterate 25 refine ROps.dropS ?_
    refine ROps.drop0 ?_
    refine zN ?_
    refine RunC.ret ?_
    have hq := Option.some.inj h
    subst q0
    exact bodyQ.pure (.inr rfl) rfl (Res.one rfl (RV.tmp rfl))
   ·refine RunC.region_draw (Γ' := []) 25 mixed 
     (TR.l (r := ptr (mXc a0 a1 a2)) rfl rfl (LOp.fap und33 rfl siz2 rfl rfl rfl) <|
     (TR.l (r := i64 a0) rfl rfl (LOp.load1 agg2 rfl rfl) <|
     (TR.d (r := b true) (fs := []) rfl rfl (TOp.eqb (TOp.callB (CallAs.func ent89 rfl rfl) (Bors.cons (Bor.pure rfl) Bors.nil) rfl rfl (i_isSide_ok a0 r1 hf1)) hc2) <|
     (TR.l (r := b true) rfl rfl (LOp.move rfl rfl) <|
     (TR.l (r := ptr [i64 a1, (sFc a2)]) rfl rfl (LOp.fap und33 rfl siz2 rfl rfl rfl) <|
     (TR.l (r := i64 a1) rfl rfl (LOp.load1 agg2 rfl rfl) <|
     (TR.d (r := b true) (fs := []) rfl rfl (TOp.eqb (TOp.callB (CallAs.func ent89 rfl rfl) (Bors.cons (Bor.pure rfl) Bors.nil) rfl rfl (i_isSide_ok a1 r2 hf3)) hc4) <|
     (TR.l (r := b true) rfl rfl (LOp.pick_true rfl rfl rfl) <|
     (TR.l (r := b true) rfl rfl (LOp.move rfl rfl) <|
     (TR.l (r := ptr [(sFc a2)]) rfl rfl (LOp.fap und33 rfl siz26 rfl rfl rfl) <|
     (TR.l (r := (sFc a2)) rfl rfl (LOp.load1 agg26 rfl rfl) <|
     (TR.d (r := i64 r3) (fs := []) rfl rfl (TOp.callB (CallAs.func ent62 rfl rfl) (Bors.cons (Bor.sl (fun _ => rfl)) Bors.nil) rfl rfl (i_length_float32_ok a2 r3 hf5)) <|
     (TR.l (r := ptr (mXc a0 a1 a2)) rfl rfl (LOp.fap und33 rfl siz2 rfl rfl rfl) <|
     (TR.l (r := i64 a0) rfl rfl (LOp.load1 agg2 rfl rfl) <|
     (TR.l (r := ptr [i64 a1, (sFc a2)]) rfl rfl (LOp.fap und33 rfl siz2 rfl rfl rfl) <|
     (TR.l (r := i64 a1) rfl rfl (LOp.load1 agg2 rfl rfl) <|
     (TR.l (r := i64 x4) rfl rfl (LOp.eqr (LOp.mul rfl rfl rfl) (congrArg (ik .i64) hx6)) <|
     (TR.l (r := b false) rfl rfl (LOp.eqb (LOp.eql rfl rfl rfl) hc7) <|
     (TR.l (r := b false) rfl rfl (LOp.pick_true rfl rfl rfl) <|
     (TR.l (r := b false) rfl rfl (LOp.move rfl rfl) <|
     (TR.s rfl rfl <|
     (TR.s rfl rfl <|
     (TR.s rfl rfl <|
     (TR.l (r := b false) rfl rfl (LOp.pick_false rfl rfl rfl) <|
     (TR.l (r := b false) rfl rfl (LOp.assign rfl rfl) <|
     TR.nil))))))))))))))))))))))))) rfl (by kernel_rfl) rfl fills_nil rfl ?_
    iterate 25 refine ROps.dropS ?_
    refine ROps.drop0 ?_
    refine zN ?_
    refine RunC.ret ?_
    have hq := Option.some.inj h
    subst q0
    exact bodyQ.pure (.inr rfl) rfl (Res.one rfl (RV.tmp rfl))
  ·refine RunC.region_draw (Γ' := []) 25 mixed 
    (TR.l (r := ptr (mXc a0 a1 a2)) rfl rfl (LOp.fap und33 rfl siz2 rfl rfl rfl) <|
    (TR.l (r := i64 a0) rfl rfl (LOp.load1 agg2 rfl rfl) <|
    (TR.d (r := b true) (fs := []) rfl rfl (TOp.eqb (TOp.callB (CallAs.func ent89 rfl rfl) (Bors.cons (Bor.pure rfl) Bors.nil) rfl rfl (i_isSide_ok a0 r1 hf1)) hc2) <|
    (TR.l (r := b true) rfl rfl (LOp.move rfl rfl) <|
    (TR.l (r := ptr [i64 a1, (sFc a2)]) rfl rfl (LOp.fap und33 rfl siz2 rfl rfl rfl) <|
    (TR.l (r := i64 a1) rfl rfl (LOp.load1 agg2 rfl rfl) <|
    (TR.d (r := b false) (fs := []) rfl rfl (TOp.eqb (TOp.callB (CallAs.func ent89 rfl rfl) (Bors.cons (Bor.pure rfl) Bors.nil) rfl rfl (i_isSide_ok a1 r2 hf3)) hc4) <|
    (TR.l (r := b false) rfl rfl (LOp.pick_true rfl rfl rfl) <|
    (TR.l (r := b false) rfl rfl (LOp.move rfl rfl) <|
    (TR.s rfl rfl <|
    (TR.s rfl rfl <|
    (TR.s rfl rfl <|
    (TR.s rfl rfl <|
    (TR.s rfl rfl <|
    (TR.s rfl rfl <|
    (TR.s rfl rfl <|
    (TR.s rfl rfl <|
    (TR.s rfl rfl <|
    (TR.l (r := b false) rfl rfl (LOp.pick_false rfl rfl rfl) <|
    (TR.l (r := b false) rfl rfl (LOp.move rfl rfl) <|
    (TR.s rfl rfl <|
    (TR.s rfl rfl <|
    (TR.s rfl rfl <|
    (TR.l (r := b false) rfl rfl (LOp.pick_false rfl rfl rfl) <|
    (TR.l (r := b false) rfl rfl (LOp.assign rfl rfl) <|
    TR.nil))))))))))))))))))))))))) rfl (by kernel_rfl) rfl fills_nil rfl ?_
   iterate 25 refine ROps.dropS ?_
   refine ROps.drop0 ?_
   refine zN ?_
   refine RunC.ret ?_
   have hq := Option.some.inj h
   subst q0
   exact bodyQ.pure (.inr rfl) rfl (Res.one rfl (RV.tmp rfl))
 ·refine RunC.region_draw (Γ' := []) 25 mixed 
   (TR.l (r := ptr (mXc a0 a1 a2)) rfl rfl (LOp.fap und33 rfl siz2 rfl rfl rfl) <|
   (TR.l (r := i64 a0) rfl rfl (LOp.load1 agg2 rfl rfl) <|
   (TR.d (r := b false) (fs := []) rfl rfl (TOp.eqb (TOp.callB (CallAs.func ent89 rfl rfl) (Bors.cons (Bor.pure rfl) Bors.nil) rfl rfl (i_isSide_ok a0 r1 hf1)) hc2) <|
   (TR.l (r := b false) rfl rfl (LOp.move rfl rfl) <|
   (TR.s rfl rfl <|
   (TR.s rfl rfl <|
   (TR.s rfl rfl <|
   (TR.l (r := b false) rfl rfl (LOp.pick_false rfl rfl rfl) <|
   (TR.l (r := b false) rfl rfl (LOp.move rfl rfl) <|
   (TR.s rfl rfl <|
   (TR.s rfl rfl <|
   (TR.s rfl rfl <|
   (TR.s rfl rfl <|
   (TR.s rfl rfl <|
   (TR.s rfl rfl <|
   (TR.s rfl rfl <|
   (TR.s rfl rfl <|
   (TR.s rfl rfl <|
   (TR.l (r := b false) rfl rfl (LOp.pick_false rfl rfl rfl) <|
   (TR.l (r := b false) rfl rfl (LOp.move rfl rfl) <|
   (TR.s rfl rfl <|
   (TR.s rfl rfl <|
   (TR.s rfl rfl <|
   (TR.l (r := b false) rfl rfl (LOp.pick_false rfl rfl rfl) <|
   (TR.l (r := b false) rfl rfl (LOp.assign rfl rfl) <|
   TR.nil))))))))))))))))))))))))) rfl (by kernel_rfl) rfl fills_nil rfl ?_
  iterate 25 refine ROps.dropS ?_
  refine ROps.drop0 ?_
  refine zN ?_
  refine RunC.ret ?_
  have hq := Option.some.inj h
  subst q0
  exact bodyQ.pure (.inr rfl) rfl (Res.one rfl (RV.tmp rfl))
noncomputable def i_isSquare (a0 : Int) (a1 : Int) (a2 : List F) : Option (Bool) :=
 obind (i_ValidMatrix a0 a1 a2) fun (r1 : Bool) =>
 bsel r1 (
  some (decide (a0 = a1))) (
  some false)
theorem i_isSquare_ok (a0 : Int) (a1 : Int) (a2 : List F) (q0 : Bool) (h : i_isSquare a0 a1 a2 = some q0) : Ev Try.prog 91 [agg (mXc a0 a1 a2)] [] (b q0) [] := by
 refine Ev.start Try.func91 rfl rfl 0 (τ := [(0, agg (mXc a0 a1 a2))]) rfl (Γ' := []) rfl (n := 25) rfl (g := 0) rfl (fun _ => rfl) ?_
 unfold i_isSquare at h
 refine zQ ?_
 refine ROps.d (r := ptr (mXc a0 a1 a2)) (fs := []) (Γ' := []) rfl rfl rfl (TOp.box_s rfl rfl rfl) rfl ?_
 refine za (r := b false) ?_
 refine zN ?_
 refine RunC.seq ?_
 obtain ⟨r1, hf1, h⟩ := obind_some h
 rcases bsel_some h with ⟨hc2, h⟩ | ⟨hc2, h⟩
 ·refine RunC.regionW ?_
  refine zl (r := agg (mXc a0 a1 a2)) (LOp.loadAgg agg33 siz33 rfl rfl rfl rfl) ?_
  refine ROps.d (r := b true) (fs := []) (Γ' := []) rfl rfl rfl (TOp.eqb (TOp.callB (CallAs.func ent102 rfl rfl) (Bors.cons (Bor.agg (Bors.cons (Bor.pure rfl) (Bors.cons (Bor.pure rfl) (Bors.cons (Bor.sl (fun _ => rfl)) Bors.nil)))) Bors.nil) rfl rfl (i_ValidMatrix_ok a0 a1 a2 r1 hf1)) hc2) rfl ?_
  refine zm (r := b true) ?_
  refine zl (r := ptr (mXc a0 a1 a2)) (LOp.fap und33 rfl siz2 rfl rfl rfl) ?_
  refine zl (r := i64 a0) (LOp.load1 agg2 rfl rfl) ?_
  refine zl (r := ptr [i64 a1, (sFc a2)]) (LOp.fap und33 rfl siz2 rfl rfl rfl) ?_
  refine zl (r := i64 a1) (LOp.load1 agg2 rfl rfl) ?_
  refine zl (r := b (decide (a0 = a1))) (LOp.eql rfl rfl rfl) ?_
  refine zl (r := b (decide (a0 = a1))) (LOp.pick_true rfl rfl rfl) ?_
  refine za (r := b (decide (a0 = a1))) ?_
  refine zN ?_
  refine RunC.ret ?_
  have hq := Option.some.inj h
  subst q0
  exact bodyQ.pure (.inr rfl) rfl (Res.one rfl (RV.tmp rfl))
 ·refine RunC.regionW ?_
  refine zl (r := agg (mXc a0 a1 a2)) (LOp.loadAgg agg33 siz33 rfl rfl rfl rfl) ?_
  refine ROps.d (r := b false) (fs := []) (Γ' := []) rfl rfl rfl (TOp.eqb (TOp.callB (CallAs.func ent102 rfl rfl) (Bors.cons (Bor.agg (Bors.cons (Bor.pure rfl) (Bors.cons (Bor.pure rfl) (Bors.cons (Bor.sl (fun _ => rfl)) Bors.nil)))) Bors.nil) rfl rfl (i_ValidMatrix_ok a0 a1 a2 r1 hf1)) hc2) rfl ?_
  refine zm (r := b false) ?_
  iterate 5 (refine ROps.s rfl rfl rfl ?_)
  refine zl (r := b false) (LOp.pick_false rfl rfl rfl) ?_
  refine za (r := b false) ?_
  refine zN ?_
  refine RunC.ret ?_
  have hq := Option.some.inj h
  subst q0
  exact bodyQ.pure (.inr rfl) rfl (Res.one rfl (RV.tmp rfl))
noncomputable def i_newMatrix (a0 : Int) (a1 : Int) : Option (Int × Int × (List F)) :=
 olet (IntKind.i64.wrap (a0 * a1)) fun (x1 : Int) =>
 need (mkok 4 x1) <|
 some (a0, a1, (List.replicate x1.toNat (some 0)))
theorem i_newMatrix_ok (a0 : Int) (a1 : Int) (q0 : Int) (q1 : Int) (q2 : List F) (h : i_newMatrix a0 a1 = some (q0, q1, q2)) : Ev Try.prog 113 [i64 a0, i64 a1] [] (agg (oXc q0 q1 0 0 q2.length)) [⟨0, some (q2.map f32)⟩] := by
 refine Ev.start Try.func113 rfl rfl 2 (τ := [(0, i64 a0), (1, i64 a1)]) rfl (Γ' := [⟨0, none⟩, ⟨0, none⟩]) rfl (n := 25) rfl (g := 0) rfl (fun _ => rfl) ?_
 unfold i_newMatrix at h
 refine zQ ?_
 refine ROps.d (r := optr 0 1 0) (fs := [(0, zMx)]) (Γ' := [⟨1, some zMx⟩, ⟨0, none⟩]) rfl rfl rfl (TOp.alloc_o (g := ⟨0, none⟩) 0 rfl zer33 zok33 rfl) rfl ?_
 refine zN ?_
 refine RunC.seq ?_
 obtain ⟨x1, hx1, h⟩ := olet_some h
 obtain ⟨hm2, h⟩ := need_some h
 refine RunC.regionW ?_
 iterate 2 (refine zm (r := i64 a0) ?_; refine zm (r := i64 a1) ?_)
 refine zl (r := i64 x1) (LOp.eqr (LOp.mul rfl rfl rfl) (congrArg (ik .i64) hx1)) ?_
 refine ROps.d (r := oref 1 1 0 x1.toNat) (fs := [(1, ((List.replicate x1.toNat (some 0)).map f32))]) (Γ' := [⟨1, some zMx⟩, ⟨1, some ((List.replicate x1.toNat (some 0)).map f32)⟩]) rfl rfl rfl (TOp.mkS (g := ⟨0, none⟩) (t := 26) (e := 28) (by_ := 4) (f := f32) (zv := some 0) 1 rfl und26 tin28 rfl siz28 zer28 rfl zel28 rfl rfl rfl hm2) rfl ?_
 refine zl (r := agg [i64 a0, i64 a1, oref 1 1 0 x1.toNat]) (LOp.build (qs := [(0, [i64 a0]), (1, [i64 a1]), (2, [oref 1 1 0 x1.toNat])]) zer33 zok33 und33 plc33 rfl ⟨rfl, ⟨_, ALe.refl _, rfl⟩, ⟨rfl, ⟨_, ALe.refl _, rfl⟩, ⟨rfl, ⟨_, ALe.refl _, rfl⟩, trivial⟩⟩⟩ rfl) ?_
 refine ROps.store_le (r := agg [i64 a0, i64 a1, oref 1 1 0 x1.toNat]) (l' := [i64 a0, i64 a1, oref 1 1 0 x1.toNat]) (Γ' := [⟨1, some [i64 a0, i64 a1, oref 1 1 0 x1.toNat]⟩, ⟨1, some ((List.replicate x1.toNat (some 0)).map f32)⟩]) rfl siz33 rfl rfl rfl aR rfl rfl rfl rfl (Nat.le_of_ble_eq_true rfl) rfl rfl ?_
 refine zN ?_
 refine RunC.ret ?_
 have hq := Option.some.inj h
 obtain ⟨hq0, hq⟩ := Prod.mk.inj hq
 obtain ⟨hq1, hq⟩ := Prod.mk.inj hq
 subst q0
 subst q1
 subst q2
 exact bodyQ.mk (r' := agg [i64 a0, i64 a1, oref 1 1 0 ((List.replicate x1.toNat (some 0)).length)]) [(1, 1)] (.inr rfl) rfl (show List.Nodup [1] from by decide) rfl rfl (Res.eq (Res.one rfl (RV.cell agg33 siz33 rfl rfl rfl rfl)) (by rw [(show (List.replicate x1.toNat (some 0)).length = x1.toNat from by simp)] <;> rfl)) (SelL.arr0 (f := f32) (fun _ => rfl) rfl trivial)
noncomputable def i_Matrix_at (a0 : Int) (a1 : Int) (a2 : List F) (a3 : Int) (a4 : Int) : Option (F) :=
 olet (IntKind.i64.wrap (a3 * a1)) fun (x1 : Int) =>
 olet (IntKind.i64.wrap (x1 + a4)) fun (x2 : Int) =>
 obind (at? a2 x2) fun (e3 : F) =>
 some e3
theorem i_Matrix_at_ok (a0 : Int) (a1 : Int) (a2 : List F) (a3 : Int) (a4 : Int) (q0 : F) (h : i_Matrix_at a0 a1 a2 a3 a4 = some q0) : Ev Try.prog 94 [agg (mXc a0 a1 a2), i64 a3, i64 a4] [] (f32 q0) [] := by
 refine Ev.start Try.func94 rfl rfl 0 (τ := [(0, agg (mXc a0 a1 a2)), (1, i64 a3), (2, i64 a4)]) rfl (Γ' := []) rfl (n := 35) rfl (g := 0) rfl (fun _ => rfl) ?_
 unfold i_Matrix_at at h
 refine zQ ?_
 refine ROps.d (r := ptr (mXc a0 a1 a2)) (fs := []) (Γ' := []) rfl rfl rfl (TOp.box_s rfl rfl rfl) rfl ?_
 refine zl (r := f32 (some 0)) (LOp.le (LOp.assign rfl rfl) (ALe.fl (by kernel_rfl) (by kernel_rfl))) ?_
 refine zN ?_
 refine RunC.seq ?_
 obtain ⟨x1, hx1, h⟩ := olet_some h
 obtain ⟨x2, hx2, h⟩ := olet_some h
 obtain ⟨e3, he3, h⟩ := obind_some h
 refine RunC.regionW ?_
 refine zl (r := ptr [(sFc a2)]) (LOp.fap und33 rfl siz26 rfl rfl rfl) ?_
 refine zl (r := (sFc a2)) (LOp.load1 agg26 rfl rfl) ?_
 refine zm (r := i64 a3) ?_
 refine zl (r := ptr [i64 a1, (sFc a2)]) (LOp.fap und33 rfl siz2 rfl rfl rfl) ?_
 refine zl (r := i64 a1) (LOp.load1 agg2 rfl rfl) ?_
 refine zl (r := i64 x1) (LOp.eqr (LOp.mul rfl rfl rfl) (congrArg (ik .i64) hx1)) ?_
 refine zm (r := i64 a4) ?_
 refine zl (r := i64 x2) (LOp.eqr (LOp.add rfl rfl rfl) (congrArg (ik .i64) hx2)) ?_
 refine zl (r := ptr [f32 e3]) (LOp.le (LOp.ix (f := f32) und26 siz28 rfl rfl rfl rfl he3) ALe.ptr) ?_
 refine zl (r := f32 e3) (LOp.load1 agg28 rfl rfl) ?_
 refine za (r := f32 e3) ?_
 refine zN ?_
 refine RunC.ret ?_
 have hq := Option.some.inj h
 subst q0
 exact bodyQ.pure (.inr rfl) rfl (Res.one rfl (RV.tmp rfl))
noncomputable def i_mul (a0 : F) (a1 : F) : Option (F) :=
 olet (fop .mul .f32 a0 a1) fun (x1 : F) =>
 some x1
theorem i_mul_ok (a0 : F) (a1 : F) (q0 : F) (h : i_mul a0 a1 = some q0) : Ev Try.prog 76 [f32 a0, f32 a1] [] (f32 q0) [] := by
 refine Ev.start Try.func76 rfl rfl 0 (τ := [(0, f32 a0), (1, f32 a1)]) rfl (Γ' := []) rfl (n := 17) rfl (g := 0) rfl (fun _ => rfl) ?_
 unfold i_mul at h
 refine zQ ?_
 refine zl (r := f32 (some 0)) (LOp.le (LOp.assign rfl rfl) (ALe.fl (by kernel_rfl) (by kernel_rfl))) ?_
 refine zN ?_
 refine RunC.seq ?_
 obtain ⟨x1, hx1, h⟩ := olet_some h
 refine RunC.regionW ?_
 refine zm (r := f32 a0) ?_
 refine zm (r := f32 a1) ?_
 refine ROps.d (r := f32 x1) (fs := []) (Γ' := []) rfl rfl rfl (TOp.eqr (TOp.fop (.inr (.inr (.inl rfl))) rfl (OpF.tmp rfl) (OpF.tmp rfl)) (congrArg (f .f32) hx1)) rfl ?_
 refine za (r := f32 x1) ?_
 refine zN ?_
 refine RunC.ret ?_
 have hq := Option.some.inj h
 subst q0
 exact bodyQ.pure (.inr rfl) rfl (Res.one rfl (RV.tmp rfl))
noncomputable def i_Matrix_set_02o (a0 : Int) (a1 : Int) (a2 : Int) (a3 : Int) (a4 : F) (a5 : List F) : Option ((List F)) :=
 olet (IntKind.i64.wrap (a2 * a1)) fun (x1 : Int) =>
 olet (IntKind.i64.wrap (x1 + a3)) fun (x2 : Int) =>
 obind (setAt? a5 x2 a4) fun (L3 : List F) =>
 some L3
theorem i_Matrix_set_02o_ok (a0 : Int) (a1 : Int) (a2 : Int) (a3 : Int) (a4 : F) (a5 : List F) (q0 : List F) (h : i_Matrix_set_02o a0 a1 a2 a3 a4 a5 = some q0) : Ev Try.prog 93 [agg (oXc a0 a1 0 0 a5.length), i64 a2, i64 a3, f32 a4] [⟨0, some (a5.map f32)⟩] (tup []) [⟨0, some (q0.map f32)⟩] := by
 refine Ev.start Try.func93 rfl rfl 0 (τ := [(0, agg (oXc a0 a1 0 0 a5.length)), (1, i64 a2), (2, i64 a3), (3, f32 a4)]) rfl (Γ' := [⟨0, some (a5.map f32)⟩]) rfl (n := 36) rfl (g := 1) rfl (by decide) ?_
 unfold i_Matrix_set_02o at h
 refine zQ ?_
 refine ROps.d (r := ptr (oXc a0 a1 0 0 a5.length)) (fs := []) (Γ' := [⟨0, some (a5.map f32)⟩]) rfl rfl rfl (TOp.box_s rfl rfl rfl) rfl ?_
 refine zN ?_
 obtain ⟨x1, hx1, h⟩ := olet_some h
 obtain ⟨x2, hx2, h⟩ := olet_some h
 obtain ⟨L3, he3, h⟩ := obind_some h
 refine RunC.regionW ?_
 refine zl (r := ptr [oref 0 0 0 a5.length]) (LOp.fap und33 rfl siz26 rfl rfl rfl) ?_
 refine zl (r := oref 0 0 0 a5.length) (LOp.load1 agg26 rfl rfl) ?_
 refine zm (r := i64 a2) ?_
 refine zl (r := ptr [i64 a1, oref 0 0 0 a5.length]) (LOp.fap und33 rfl siz2 rfl rfl rfl) ?_
 refine zl (r := i64 a1) (LOp.load1 agg2 rfl rfl) ?_
 refine zl (r := i64 x1) (LOp.eqr (LOp.mul rfl rfl rfl) (congrArg (ik .i64) hx1)) ?_
 refine zm (r := i64 a3) ?_
 refine zl (r := i64 x2) (LOp.eqr (LOp.add rfl rfl rfl) (congrArg (ik .i64) hx2)) ?_
 refine zm (r := f32 a4) ?_
 refine ROps.d (r := optr 0 0 x2.toNat) (fs := []) (Γ' := [⟨0, some (a5.map f32)⟩]) rfl rfl rfl (TOp.ixo und26 siz28 rfl rfl rfl (set_in he3 rfl) rfl) rfl ?_
 refine ROps.st (f := f32) (i := x2) (Γ' := [⟨0, some (L3.map f32)⟩]) rfl siz28 rfl rfl rfl aR rfl rfl rfl he3 rfl ?_
 refine zN ?_
 have hq := Option.some.inj h
 subst q0
 exact bodyQ.mk (r' := tup []) [(0, 0)] (.inl rfl) rfl (show List.Nodup [0] from by decide) rfl rfl (Res.zero rfl) (SelL.arr (f := f32) (fun _ => rfl) rfl trivial)
noncomputable def x_math_Sqrt (a0 : F) : Option (F) :=
 olet (fsqrt a0) fun (x1 : F) =>
 some x1
theorem x_math_Sqrt_ok (a0 : F) (q0 : F) (h : x_math_Sqrt a0 = some q0) : Ev Try.prog 138 [f64 a0] [] (f64 q0) [] := by
 refine Ev.start Try.func138 rfl rfl 0 (τ := [(0, f64 a0)]) rfl (Γ' := []) rfl (n := 11) rfl (g := 0) rfl (fun _ => rfl) ?_
 unfold x_math_Sqrt at h
 refine zQ ?_
 refine zl (r := f64 (some 0)) (LOp.le (LOp.assign rfl rfl) (ALe.fl (by kernel_rfl) (by kernel_rfl))) ?_
 refine zN ?_
 refine RunC.seq ?_
 obtain ⟨x1, hx1, h⟩ := olet_some h
 refine RunC.regionW ?_
 refine zm (r := f64 a0) ?_
 refine ROps.d (r := f64 x1) (fs := []) (Γ' := []) rfl rfl rfl (TOp.eqr (TOp.fsqrt ext172 rfl (OpF.tmp rfl)) (congrArg (f .f64) hx1)) rfl ?_
 refine za (r := f64 x1) ?_
 refine zN ?_
 refine RunC.ret ?_
 have hq := Option.some.inj h
 subst q0
 exact bodyQ.pure (.inr rfl) rfl (Res.one rfl (RV.tmp rfl))
noncomputable def i_RootNumber (a0 : F) : Option (F) :=
 olet (fwiden a0) fun (x1 : F) =>
 obind (x_math_Sqrt x1) fun (r2 : F) =>
 obind (fnarrow r2) fun (y3 : F) =>
 some y3
theorem i_RootNumber_ok (a0 : F) (q0 : F) (h : i_RootNumber a0 = some q0) : Ev Try.prog 114 [f32 a0] [] (f32 q0) [] := by
 refine Ev.start Try.func114 rfl rfl 0 (τ := [(0, f32 a0)]) rfl (Γ' := []) rfl (n := 15) rfl (g := 0) rfl (fun _ => rfl) ?_
 unfold i_RootNumber at h
 refine zQ ?_
 refine zl (r := f32 (some 0)) (LOp.le (LOp.assign rfl rfl) (ALe.fl (by kernel_rfl) (by kernel_rfl))) ?_
 refine zN ?_
 refine RunC.seq ?_
 obtain ⟨x1, hx1, h⟩ := olet_some h
 obtain ⟨r2, hf2, h⟩ := obind_some h
 obtain ⟨y3, hy3, h⟩ := obind_some h
 refine RunC.regionW ?_
 refine zm (r := f32 a0) ?_
 refine ROps.d (r := f64 x1) (fs := []) (Γ' := []) rfl rfl rfl (TOp.eqr (TOp.widen (src := 28) (dst := 40) ⟨_, pun28⟩ pun40 rfl (OpF.tmp rfl)) (congrArg (f .f64) hx1)) rfl ?_
 refine ROps.d (r := f64 r2) (fs := []) (Γ' := []) rfl rfl rfl (TOp.callB (CallAs.func ent138 rfl rfl) (Bors.cons (Bor.pure rfl) Bors.nil) rfl rfl (x_math_Sqrt_ok x1 r2 hf2)) rfl ?_
 refine ROps.d (r := f32 y3) (fs := []) (Γ' := []) rfl rfl rfl (TOp.narrow (src := 40) (dst := 28) ⟨_, pun40⟩ pun28 rfl (OpF.tmp rfl) hy3) rfl ?_
 refine za (r := f32 y3) ?_
 refine zN ?_
 refine RunC.ret ?_
 have hq := Option.some.inj h
 subst q0
 exact bodyQ.pure (.inr rfl) rfl (Res.one rfl (RV.tmp rfl))
noncomputable def i_Matrix_valid_02o (a0 : Int) (a1 : Int) (a2 : List F) : Option ((Int × Int × Bool × (List F)) ⊕ (Int × Int × Bool × (List F) × (List F))) :=
 obind (i_ValidMatrix a0 a1 a2) fun (r1 : Bool) =>
 bsel r1 (
  some (Sum.inl (a0, a1, true, a2))) (
  some (Sum.inr (0, 0, false, a2, ([] : List F))))
theorem i_Matrix_valid_02o_ok0 (a0 : Int) (a1 : Int) (a2 : List F) (q0 : Int) (q1 : Int) (q2 : Bool) (q3 : List F) (h : i_Matrix_valid_02o a0 a1 a2 = some (Sum.inl (q0, q1, q2, q3))) : Ev Try.prog 107 [agg (oXc a0 a1 0 0 a2.length)] [⟨0, some (a2.map f32)⟩] (tup [agg (oXc q0 q1 0 0 q3.length), b q2]) [⟨0, some (q3.map f32)⟩] := by
 refine Ev.start Try.func107 rfl rfl 2 (τ := [(0, agg (oXc a0 a1 0 0 a2.length))]) rfl (Γ' := [⟨0, some (a2.map f32)⟩, ⟨0, none⟩, ⟨0, none⟩]) rfl (n := 18) rfl (g := 1) rfl (by decide) ?_
 unfold i_Matrix_valid_02o at h
 refine zQ ?_
 refine ROps.d (r := ptr (oXc a0 a1 0 0 a2.length)) (fs := []) (Γ' := [⟨0, some (a2.map f32)⟩, ⟨0, none⟩, ⟨0, none⟩]) rfl rfl rfl (TOp.box_s rfl rfl rfl) rfl ?_
 refine ROps.d (r := optr 1 1 0) (fs := [(1, zMx)]) (Γ' := [⟨0, some (a2.map f32)⟩, ⟨1, some zMx⟩, ⟨0, none⟩]) rfl rfl rfl (TOp.alloc_o (g := ⟨0, none⟩) 1 rfl zer33 zok33 rfl) rfl ?_
 refine za (r := b false) ?_
 refine zN ?_
 iterate 2 (refine RunC.seq ?_)
 obtain ⟨r1, hf1, h⟩ := obind_some h
 rcases bsel_some h with ⟨hc2, h⟩ | ⟨hc2, h⟩
 ·refine RunC.regionW ?_
  refine zl (r := agg (oXc a0 a1 0 0 a2.length)) (LOp.loadAgg agg33 siz33 rfl rfl rfl rfl) ?_
  refine ROps.d (r := b true) (fs := []) (Γ' := [⟨0, some (a2.map f32)⟩, ⟨1, some zMx⟩, ⟨0, none⟩]) rfl rfl rfl (TOp.eqb (TOp.callB (CallAs.func ent102 rfl rfl) (Bors.cons (Bor.agg (Bors.cons (Bor.pure rfl) (Bors.cons (Bor.pure rfl) (Bors.cons (Bor.own (f := f32) (fun _ => rfl) rfl rfl) Bors.nil)))) Bors.nil) rfl rfl (i_ValidMatrix_ok a0 a1 a2 r1 hf1)) hc2) rfl ?_
  refine zl (r := b false) (LOp.eqb (LOp.not rfl rfl) rfl) ?_
  refine zN ?_
  refine RunC.cond_false rfl rfl ?_
  refine RunC.skip ?_
  refine zQ ?_
  refine zl (r := agg (oXc a0 a1 0 0 a2.length)) (LOp.loadAgg agg33 siz33 rfl rfl rfl rfl) ?_
  refine ROps.store_le (r := agg (oXc a0 a1 0 0 a2.length)) (l' := (oXc a0 a1 0 0 a2.length)) (Γ' := [⟨0, some (a2.map f32)⟩, ⟨1, some (oXc a0 a1 0 0 a2.length)⟩, ⟨0, none⟩]) rfl siz33 rfl rfl rfl aR rfl rfl rfl rfl (Nat.le_of_ble_eq_true rfl) rfl rfl ?_
  refine za (r := b true) ?_
  refine zN ?_
  refine RunC.ret ?_
  have hq := Option.some.inj h
  have hq := Sum.inl.inj hq
  obtain ⟨hq0, hq⟩ := Prod.mk.inj hq
  obtain ⟨hq1, hq⟩ := Prod.mk.inj hq
  obtain ⟨hq2, hq⟩ := Prod.mk.inj hq
  subst q0
  subst q1
  subst q2
  subst q3
  exact bodyQ.mk (r' := tup [agg (oXc a0 a1 0 0 a2.length), b true]) [(0, 0)] (.inr rfl) rfl (show List.Nodup [0] from by decide) rfl rfl (Res.two rfl (RV.cell agg33 siz33 rfl rfl rfl rfl) (RV.tmp rfl)) (SelL.arr (f := f32) (fun _ => rfl) rfl trivial)
 ·refine RunC.regionW ?_
  refine zl (r := agg (oXc a0 a1 0 0 a2.length)) (LOp.loadAgg agg33 siz33 rfl rfl rfl rfl) ?_
  refine ROps.d (r := b false) (fs := []) (Γ' := [⟨0, some (a2.map f32)⟩, ⟨1, some zMx⟩, ⟨0, none⟩]) rfl rfl rfl (TOp.eqb (TOp.callB (CallAs.func ent102 rfl rfl) (Bors.cons (Bor.agg (Bors.cons (Bor.pure rfl) (Bors.cons (Bor.pure rfl) (Bors.cons (Bor.own (f := f32) (fun _ => rfl) rfl rfl) Bors.nil)))) Bors.nil) rfl rfl (i_ValidMatrix_ok a0 a1 a2 r1 hf1)) hc2) rfl ?_
  refine zl (r := b true) (LOp.eqb (LOp.not rfl rfl) rfl) ?_
  refine zN ?_
  refine RunC.cond_true rfl rfl ?_
  refine zQ ?_
  refine zl (r := agg zMx) (LOp.build (qs := []) zer33 zok33 und33 plc33 rfl trivial rfl) ?_
  refine ROps.store_le (r := agg zMx) (l' := zMx) (Γ' := [⟨0, some (a2.map f32)⟩, ⟨1, some zMx⟩, ⟨0, none⟩]) rfl siz33 rfl rfl rfl aR rfl rfl rfl rfl (Nat.le_of_ble_eq_true rfl) rfl rfl ?_
  refine za (r := b false) ?_
  refine zN ?_
  cases Option.some.inj h
theorem i_Matrix_valid_02o_ok1 (a0 : Int) (a1 : Int) (a2 : List F) (q0 : Int) (q1 : Int) (q2 : Bool) (q3 : List F) (q4 : List F) (h : i_Matrix_valid_02o a0 a1 a2 = some (Sum.inr (q0, q1, q2, q3, q4))) : Ev Try.prog 107 [agg (oXc a0 a1 0 0 a2.length)] [⟨0, some (a2.map f32)⟩] (tup [agg (oXc q0 q1 1 0 q4.length), b q2]) [⟨0, some (q3.map f32)⟩, ⟨0, some (q4.map f32)⟩] := by
 refine Ev.start Try.func107 rfl rfl 2 (τ := [(0, agg (oXc a0 a1 0 0 a2.length))]) rfl (Γ' := [⟨0, some (a2.map f32)⟩, ⟨0, none⟩, ⟨0, none⟩]) rfl (n := 18) rfl (g := 1) rfl (by decide) ?_
 unfold i_Matrix_valid_02o at h
 refine zQ ?_
 refine ROps.d (r := ptr (oXc a0 a1 0 0 a2.length)) (fs := []) (Γ' := [⟨0, some (a2.map f32)⟩, ⟨0, none⟩, ⟨0, none⟩]) rfl rfl rfl (TOp.box_s rfl rfl rfl) rfl ?_
 refine ROps.d (r := optr 1 1 0) (fs := [(1, zMx)]) (Γ' := [⟨0, some (a2.map f32)⟩, ⟨1, some zMx⟩, ⟨0, none⟩]) rfl rfl rfl (TOp.alloc_o (g := ⟨0, none⟩) 1 rfl zer33 zok33 rfl) rfl ?_
 refine za (r := b false) ?_
 refine zN ?_
 iterate 2 (refine RunC.seq ?_)
 obtain ⟨r1, hf1, h⟩ := obind_some h
 rcases bsel_some h with ⟨hc2, h⟩ | ⟨hc2, h⟩
 ·refine RunC.regionW ?_
  refine zl (r := agg (oXc a0 a1 0 0 a2.length)) (LOp.loadAgg agg33 siz33 rfl rfl rfl rfl) ?_
  refine ROps.d (r := b true) (fs := []) (Γ' := [⟨0, some (a2.map f32)⟩, ⟨1, some zMx⟩, ⟨0, none⟩]) rfl rfl rfl (TOp.eqb (TOp.callB (CallAs.func ent102 rfl rfl) (Bors.cons (Bor.agg (Bors.cons (Bor.pure rfl) (Bors.cons (Bor.pure rfl) (Bors.cons (Bor.own (f := f32) (fun _ => rfl) rfl rfl) Bors.nil)))) Bors.nil) rfl rfl (i_ValidMatrix_ok a0 a1 a2 r1 hf1)) hc2) rfl ?_
  refine zl (r := b false) (LOp.eqb (LOp.not rfl rfl) rfl) ?_
  refine zN ?_
  refine RunC.cond_false rfl rfl ?_
  refine RunC.skip ?_
  refine zQ ?_
  refine zl (r := agg (oXc a0 a1 0 0 a2.length)) (LOp.loadAgg agg33 siz33 rfl rfl rfl rfl) ?_
  refine ROps.store_le (r := agg (oXc a0 a1 0 0 a2.length)) (l' := (oXc a0 a1 0 0 a2.length)) (Γ' := [⟨0, some (a2.map f32)⟩, ⟨1, some (oXc a0 a1 0 0 a2.length)⟩, ⟨0, none⟩]) rfl siz33 rfl rfl rfl aR rfl rfl rfl rfl (Nat.le_of_ble_eq_true rfl) rfl rfl ?_
  refine za (r := b true) ?_
  refine zN ?_
  cases Option.some.inj h
 ·refine RunC.regionW ?_
  refine zl (r := agg (oXc a0 a1 0 0 a2.length)) (LOp.loadAgg agg33 siz33 rfl rfl rfl rfl) ?_
  refine ROps.d (r := b false) (fs := []) (Γ' := [⟨0, some (a2.map f32)⟩, ⟨1, some zMx⟩, ⟨0, none⟩]) rfl rfl rfl (TOp.eqb (TOp.callB (CallAs.func ent102 rfl rfl) (Bors.cons (Bor.agg (Bors.cons (Bor.pure rfl) (Bors.cons (Bor.pure rfl) (Bors.cons (Bor.own (f := f32) (fun _ => rfl) rfl rfl) Bors.nil)))) Bors.nil) rfl rfl (i_ValidMatrix_ok a0 a1 a2 r1 hf1)) hc2) rfl ?_
  refine zl (r := b true) (LOp.eqb (LOp.not rfl rfl) rfl) ?_
  refine zN ?_
  refine RunC.cond_true rfl rfl ?_
  refine zQ ?_
  refine zl (r := agg zMx) (LOp.build (qs := []) zer33 zok33 und33 plc33 rfl trivial rfl) ?_
  refine ROps.store_le (r := agg zMx) (l' := zMx) (Γ' := [⟨0, some (a2.map f32)⟩, ⟨1, some zMx⟩, ⟨0, none⟩]) rfl siz33 rfl rfl rfl aR rfl rfl rfl rfl (Nat.le_of_ble_eq_true rfl) rfl rfl ?_
  refine za (r := b false) ?_
  refine zN ?_
  refine RunC.nil_cell (l' := [i64 0, i64 0, oref 2 1 0 0]) (Γ' := [⟨0, some (a2.map f32)⟩, ⟨1, some [i64 0, i64 0, oref 2 1 0 0]⟩, ⟨1, some (([] : List F).map f32)⟩]) 1 2 2 rfl rfl rfl rfl rfl ?_
  refine RunC.ret ?_
  have hq := Option.some.inj h
  have hq := Sum.inr.inj hq
  obtain ⟨hq0, hq⟩ := Prod.mk.inj hq
  obtain ⟨hq1, hq⟩ := Prod.mk.inj hq
  obtain ⟨hq2, hq⟩ := Prod.mk.inj hq
  obtain ⟨hq3, hq⟩ := Prod.mk.inj hq
  subst q0
  subst q1
  subst q2
  subst q3
  subst q4
  exact bodyQ.mk (r' := tup [agg [i64 0, i64 0, oref 2 1 0 (([] : List F).length)], b false]) [(0, 0), (2, 1)] (.inr rfl) rfl (show List.Nodup [0, 2] from by decide) rfl rfl (Res.eq (Res.two rfl (RV.cell agg33 siz33 rfl rfl rfl rfl) (RV.tmp rfl)) (by rw [(show ([] : List F).length = 0 from rfl)] <;> rfl)) (SelL.arr (f := f32) (fun _ => rfl) rfl (SelL.arr0 (f := f32) (fun _ => rfl) rfl trivial))
noncomputable def i_RootOfSquare_k9 (v11 : Int) (L30 : List F) : Option (LR ((List F) × Int) ((List F)) (Int × Int × Bool × (List F))) :=
 olet (IntKind.i64.wrap (v11 + 1)) fun (x32 : Int) =>
 some (LR.next (L30, x32))
noncomputable def i_RootOfSquare_b8 (r2 : Int) (r3 : Int) (v7 : Int) (L9 : List F) (v11 : Int) (y13 : F) (v14 : Int) : Option (LR (F × Int) (F) (Int × Int × Bool × (List F))) :=
 bsel (decide (v14 < v11)) (
  obind (i_Matrix_at r2 r3 L9 v7 v14) fun (r15 : F) =>
  obind (i_Matrix_at r2 r3 L9 v11 v14) fun (r16 : F) =>
  obind (i_mul r15 r16) fun (r17 : F) =>
  olet (fop .sub .f32 y13 r17) fun (x18 : F) =>
  olet (IntKind.i64.wrap (v14 + 1)) fun (x19 : Int) =>
  some (LR.next (x18, x19))) (
  some (LR.out y13))
noncomputable def i_RootOfSquare_s8 (r2 : Int) (r3 : Int) (v7 : Int) (L9 : List F) (v11 : Int) : (F × Int) → Option (LR (F × Int) (F) (Int × Int × Bool × (List F))) := fun s => i_RootOfSquare_b8 r2 r3 v7 L9 v11 s.1 s.2
noncomputable def i_RootOfSquare_k8 (r2 : Int) (r3 : Int) (r4 : List F) (v7 : Int) (L9 : List F) (v11 : Int) (y21 : F) : Option (LR ((List F) × Int) ((List F)) (Int × Int × Bool × (List F))) :=
 bsel (decide (v11 < v7)) (
  obind (i_Matrix_at r2 r3 L9 v11 v11) fun (r24 : F) =>
  olet (fop .quo .f32 y21 r24) fun (x25 : F) =>
  obind (i_Matrix_set_02o r2 r3 v7 v11 x25 L9) fun (r26 : List F) =>
  need (decide (r26.length = r4.length)) <|
  i_RootOfSquare_k9 v11 r26) (
  bsel (flt .f32 (some 0) y21) (
   obind (i_RootNumber y21) fun (r28 : F) =>
   obind (i_Matrix_set_02o r2 r3 v7 v11 r28 L9) fun (r29 : List F) =>
   need (decide (r29.length = r4.length)) <|
   i_RootOfSquare_k9 v11 r29) (
   some (LR.ret (0, 0, false, ([] : List F)))))
noncomputable def i_RootOfSquare_b10 (a0 : Int) (a1 : Int) (a2 : List F) (r2 : Int) (r3 : Int) (r4 : List F) (v7 : Int) (x8 : Int) (L9 : List F) (v11 : Int) : Option (LR ((List F) × Int) ((List F)) (Int × Int × Bool × (List F))) :=
 bsel (decide (v11 < x8)) (
  obind (i_Matrix_at a0 a1 a2 v7 v11) fun (r12 : F) =>
  obind (loopM (i_RootOfSquare_s8 r2 r3 v7 L9 v11) (r12, 0)) fun z => osum z (fun e => i_RootOfSquare_k8 r2 r3 r4 v7 L9 v11 e) (fun r => some (LR.ret r))) (
  some (LR.out L9))
noncomputable def i_RootOfSquare_s10 (a0 : Int) (a1 : Int) (a2 : List F) (r2 : Int) (r3 : Int) (r4 : List F) (v7 : Int) (x8 : Int) : ((List F) × Int) → Option (LR ((List F) × Int) ((List F)) (Int × Int × Bool × (List F))) := fun s => i_RootOfSquare_b10 a0 a1 a2 r2 r3 r4 v7 x8 s.1 s.2
noncomputable def i_RootOfSquare_k10 (v7 : Int) (L33 : List F) : Option (LR ((List F) × Int) ((List F)) (Int × Int × Bool × (List F))) :=
 olet (IntKind.i64.wrap (v7 + 1)) fun (x35 : Int) =>
 some (LR.next (L33, x35))
noncomputable def i_RootOfSquare_b11 (a0 : Int) (a1 : Int) (a2 : List F) (r2 : Int) (r3 : Int) (r4 : List F) (L5 : List F) (v7 : Int) : Option (LR ((List F) × Int) ((List F)) (Int × Int × Bool × (List F))) :=
 bsel (decide (v7 < a0)) (
  olet (IntKind.i64.wrap (v7 + 1)) fun (x8 : Int) =>
  obind (loopM (i_RootOfSquare_s10 a0 a1 a2 r2 r3 r4 v7 x8) (L5, 0)) fun z => osum z (fun e => i_RootOfSquare_k10 v7 e) (fun r => some (LR.ret r))) (
  some (LR.out L5))
noncomputable def i_RootOfSquare_s11 (a0 : Int) (a1 : Int) (a2 : List F) (r2 : Int) (r3 : Int) (r4 : List F) : ((List F) × Int) → Option (LR ((List F) × Int) ((List F)) (Int × Int × Bool × (List F))) := fun s => i_RootOfSquare_b11 a0 a1 a2 r2 r3 r4 s.1 s.2
noncomputable def i_RootOfSquare_k11 (r2 : Int) (r3 : Int) (r4 : List F) (L36 : List F) : Option (Int × Int × Bool × (List F)) :=
 obind (i_Matrix_valid_02o r2 r3 L36) (fun z => osum z (fun y => obind4 (some y) fun (r38 : Int) (r39 : Int) (r40 : Bool) (r41 : List F) =>
  need (decide (r41.length = r4.length)) <|
  some (r38, r39, r40, r41)) (fun y => obind5 (some y) fun (r42 : Int) (r43 : Int) (r44 : Bool) (r45 : List F) (r46 : List F) =>
  need (decide (r45.length = r4.length)) <|
  some (r42, r43, r44, r46)))
noncomputable def i_RootOfSquare (a0 : Int) (a1 : Int) (a2 : List F) : Option (Int × Int × Bool × (List F)) :=
 obind (i_isSquare a0 a1 a2) fun (r1 : Bool) =>
 bsel r1 (
  obind3 (i_newMatrix a0 a0) fun (r2 : Int) (r3 : Int) (r4 : List F) =>
  obind (loopM (i_RootOfSquare_s11 a0 a1 a2 r2 r3 r4) (r4, 0)) fun z => osum z (fun e => i_RootOfSquare_k11 r2 r3 r4 e) (fun r => some r)) (
  some (0, 0, false, ([] : List F)))
theorem i_RootOfSquare_ok (a0 : Int) (a1 : Int) (a2 : List F) (q0 : Int) (q1 : Int) (q2 : Bool) (q3 : List F) (h : i_RootOfSquare a0 a1 a2 = some (q0, q1, q2, q3)) : Ev Try.prog 44 [agg (mXc a0 a1 a2)] [] (tup [agg (oXc q0 q1 0 0 q3.length), b q2]) [⟨0, some (q3.map f32)⟩] := by
 refine Ev.start Try.func44 rfl rfl 4 (τ := [(0, agg (mXc a0 a1 a2))]) rfl (Γ' := [⟨0, none⟩, ⟨0, none⟩, ⟨0, none⟩, ⟨0, none⟩]) rfl (n := 157) rfl (g := 0) rfl (fun _ => rfl) ?_
 unfold i_RootOfSquare at h
 refine zQ ?_
 refine ROps.d (r := ptr (mXc a0 a1 a2)) (fs := []) (Γ' := [⟨0, none⟩, ⟨0, none⟩, ⟨0, none⟩, ⟨0, none⟩]) rfl rfl rfl (TOp.box_s rfl rfl rfl) rfl ?_
 refine ROps.d (r := optr 0 1 0) (fs := [(0, zMx)]) (Γ' := [⟨1, some zMx⟩, ⟨0, none⟩, ⟨0, none⟩, ⟨0, none⟩]) rfl rfl rfl (TOp.alloc_o (g := ⟨0, none⟩) 0 rfl zer33 zok33 rfl) rfl ?_
 refine za (r := b false) ?_
 refine zN ?_
 iterate 2 (refine RunC.seq ?_)
 obtain ⟨r1, hf1, h⟩ := obind_some h
 rcases bsel_some h with ⟨hc2, h⟩ | ⟨hc2, h⟩
 ·refine RunC.regionW ?_
  refine zl (r := agg (mXc a0 a1 a2)) (LOp.loadAgg agg33 siz33 rfl rfl rfl rfl) ?_
  refine ROps.d (r := b true) (fs := []) (Γ' := [⟨1, some zMx⟩, ⟨0, none⟩, ⟨0, none⟩, ⟨0, none⟩]) rfl rfl rfl (TOp.eqb (TOp.callB (CallAs.func ent91 rfl rfl) (Bors.cons (Bor.agg (Bors.cons (Bor.pure rfl) (Bors.cons (Bor.pure rfl) (Bors.cons (Bor.sl (fun _ => rfl)) Bors.nil)))) Bors.nil) rfl rfl (i_isSquare_ok a0 a1 a2 r1 hf1)) hc2) rfl ?_
  refine zl (r := b false) (LOp.eqb (LOp.not rfl rfl) rfl) ?_
  refine zN ?_
  refine RunC.cond_false rfl rfl ?_
  refine RunC.skip ?_
  refine RunC.seq ?_
  obtain ⟨r2, r3, r4, hf3, h⟩ := obind3_some h
  refine RunC.regionW ?_
  iterate 2 (refine zl (r := ptr (mXc a0 a1 a2)) (LOp.fap und33 rfl siz2 rfl rfl rfl) ?_; refine zl (r := i64 a0) (LOp.load1 agg2 rfl rfl) ?_)
  refine ROps.d (r := agg (oXc r2 r3 1 1 r4.length)) (fs := [(1, (r4.map f32))]) (Γ' := [⟨1, some zMx⟩, ⟨1, some (r4.map f32)⟩, ⟨0, none⟩, ⟨0, none⟩]) rfl rfl rfl (TOp.callBN (ls := [(r4.map f32)]) [1] (CallAs.func ent113 rfl rfl) (Bors.cons (Bor.pure rfl) (Bors.cons (Bor.pure rfl) Bors.nil)) rfl (i_newMatrix_ok a0 a0 r2 r3 r4 hf3) (and_all (lts0_map (f := f32) (fun _ => rfl) _) rfl) (and_all (noss_map (f := f32) (fun _ => rfl) _) rfl) rfl (by decide) (ns_of ⟨⟨_, rfl⟩, trivial⟩)) rfl ?_
  refine ROps.d (r := optr 2 1 0) (fs := [(2, zMx)]) (Γ' := [⟨1, some zMx⟩, ⟨1, some (r4.map f32)⟩, ⟨1, some zMx⟩, ⟨0, none⟩]) rfl rfl rfl (TOp.alloc_o (g := ⟨0, none⟩) 2 rfl zer33 zok33 rfl) rfl ?_
  refine ROps.store_le (r := agg (oXc r2 r3 1 1 r4.length)) (l' := (oXc r2 r3 1 1 r4.length)) (Γ' := [⟨1, some zMx⟩, ⟨1, some (r4.map f32)⟩, ⟨1, some (oXc r2 r3 1 1 r4.length)⟩, ⟨0, none⟩]) rfl siz33 rfl rfl rfl aR rfl rfl rfl rfl (Nat.le_of_ble_eq_true rfl) rfl rfl ?_
  refine zN ?_
  refine RunC.seq ?_
  refine zQ ?_
  refine zl (r := ptr (mXc a0 a1 a2)) (LOp.fap und33 rfl siz2 rfl rfl rfl) ?_
  refine zl (r := i64 a0) (LOp.load1 agg2 rfl rfl) ?_
  refine zm (r := i64 0) ?_
  refine zN ?_
  obtain ⟨z12, hz_12, h⟩ := obind_some h
  refine RunC.cutN (fun τ Γ => ∃ (L36 : List F), L36.length = r4.length ∧ WeakLe τ [(2, optr 0 1 0), (4, optr 2 1 0)] ∧ DeadLe Γ [⟨1, some zMx⟩, ⟨1, some (L36.map f32)⟩, ⟨1, some (oXc r2 r3 1 1 r4.length)⟩, ⟨0, none⟩] ∧ z12 = .inl L36) ?_ ?_
  ·refine RunC.block (RunC.loop (RunL.loopM (x := z12) (i_RootOfSquare_s11 a0 a1 a2 r2 r3 r4) (fun (s : (List F) × Int) τ Γ => s.1.length = r4.length ∧ WeakLe τ [(1, ptr (mXc a0 a1 a2)), (2, optr 0 1 0), (4, optr 2 1 0), (19, i64 a0), (20, i64 s.2)] ∧ DeadLe Γ [⟨1, some zMx⟩, ⟨1, some (s.1.map f32)⟩, ⟨1, some (oXc r2 r3 1 1 r4.length)⟩, ⟨0, none⟩]) ?_ _ _ _ hz_12 ⟨rfl, ⟨aR, aR, aR, aR, aR, trivial⟩, ⟨⟨rfl, .inr rfl⟩, ⟨rfl, .inr rfl⟩, ⟨rfl, .inr rfl⟩, ⟨rfl, .inr rfl⟩, trivial⟩⟩))
   rintro ⟨L5, v7⟩ τ12 Γ12 y12_ ⟨hl6, hw12, hd12⟩ h12_ ho12 hr12
   refine RunC.wl (τ' := [(1, ptr (mXc a0 a1 a2)), (2, optr 0 1 0), (4, optr 2 1 0), (19, i64 a0), (20, i64 v7)]) (Γ' := [⟨1, some zMx⟩, ⟨1, some (L5.map f32)⟩, ⟨1, some (oXc r2 r3 1 1 r4.length)⟩, ⟨0, none⟩]) hw12 hd12 ?_
   replace hl6 : L5.length = r4.length := hl6
   replace h12_ : i_RootOfSquare_b11 a0 a1 a2 r2 r3 r4 L5 v7 = some y12_ := h12_
   unfold i_RootOfSquare_b11 at h12_
   refine RunC.seq ?_
   rcases bsel_some h12_ with ⟨hc4, h12_⟩ | ⟨hc4, h12_⟩
   ·refine RunC.regionW ?_
    refine zl (r := b true) (LOp.eqb (LOp.lss rfl rfl rfl) hc4) ?_
    refine zN ?_
    refine RunC.seq ?_
    refine RunC.cond_true rfl rfl ?_
    refine RunC.skip ?_
    refine RunC.seq ?_
    refine RunC.block ?_
    refine zQ ?_
    refine zm (r := i64 v7) ?_
    refine za (r := i64 v7) ?_
    refine zN ?_
    refine RunC.seq ?_
    obtain ⟨x8, hx5, h12_⟩ := olet_some h12_
    refine RunC.regionW ?_
    refine zm (r := i64 v7) ?_
    refine zl (r := i64 x8) (LOp.eqr (LOp.add rfl rfl rfl) (congrArg (ik .i64) hx5)) ?_
    refine zm (r := i64 0) ?_
    refine zN ?_
    obtain ⟨z13, hz_13, h12_⟩ := obind_some h12_
    refine RunC.cutN (fun τ Γ => ∃ (L33 : List F), L33.length = r4.length ∧ WeakLe τ [(1, ptr (mXc a0 a1 a2)), (2, optr 0 1 0), (4, optr 2 1 0), (19, i64 a0), (20, i64 v7)] ∧ DeadLe Γ [⟨1, some zMx⟩, ⟨1, some (L33.map f32)⟩, ⟨1, some (oXc r2 r3 1 1 r4.length)⟩, ⟨0, none⟩] ∧ z13 = .inl L33) ?_ ?_
    ·refine RunC.block (RunC.loop (RunL.loopM (x := z13) (i_RootOfSquare_s10 a0 a1 a2 r2 r3 r4 v7 x8) (fun (s : (List F) × Int) τ Γ => s.1.length = r4.length ∧ WeakLe τ [(1, ptr (mXc a0 a1 a2)), (2, optr 0 1 0), (4, optr 2 1 0), (5, i64 v7), (19, i64 a0), (20, i64 v7), (24, i64 x8), (25, i64 s.2)] ∧ DeadLe Γ [⟨1, some zMx⟩, ⟨1, some (s.1.map f32)⟩, ⟨1, some (oXc r2 r3 1 1 r4.length)⟩, ⟨0, none⟩]) ?_ _ _ _ hz_13 ⟨hl6, ⟨aR, aR, aR, aR, aR, aR, aR, aR, trivial⟩, ⟨⟨rfl, .inr rfl⟩, ⟨rfl, .inr rfl⟩, ⟨rfl, .inr rfl⟩, ⟨rfl, .inr rfl⟩, trivial⟩⟩))
     rintro ⟨L9, v11⟩ τ13 Γ13 y13_ ⟨hl10, hw13, hd13⟩ h13_ ho13 hr13
     refine RunC.wl (τ' := [(1, ptr (mXc a0 a1 a2)), (2, optr 0 1 0), (4, optr 2 1 0), (5, i64 v7), (19, i64 a0), (20, i64 v7), (24, i64 x8), (25, i64 v11)]) (Γ' := [⟨1, some zMx⟩, ⟨1, some (L9.map f32)⟩, ⟨1, some (oXc r2 r3 1 1 r4.length)⟩, ⟨0, none⟩]) hw13 hd13 ?_
     replace hl10 : L9.length = r4.length := hl10
     replace h13_ : i_RootOfSquare_b10 a0 a1 a2 r2 r3 r4 v7 x8 L9 v11 = some y13_ := h13_
     unfold i_RootOfSquare_b10 at h13_
     refine RunC.seq ?_
     rcases bsel_some h13_ with ⟨hc6, h13_⟩ | ⟨hc6, h13_⟩
     ·refine RunC.regionW ?_
      refine zl (r := b true) (LOp.eqb (LOp.lss rfl rfl rfl) hc6) ?_
      refine zN ?_
      refine RunC.seq ?_
      refine RunC.cond_true rfl rfl ?_
      refine RunC.skip ?_
      refine RunC.seq ?_
      refine RunC.cutN (fun τ Γ => ∃ (L30 : List F), L30.length = r4.length ∧ WeakLe τ [(1, ptr (mXc a0 a1 a2)), (2, optr 0 1 0), (4, optr 2 1 0), (5, i64 v7), (19, i64 a0), (20, i64 v7), (24, i64 x8), (25, i64 v11)] ∧ DeadLe Γ [⟨1, some zMx⟩, ⟨1, some (L30.map f32)⟩, ⟨1, some (oXc r2 r3 1 1 r4.length)⟩, ⟨0, none⟩] ∧ i_RootOfSquare_k9 v11 L30 = some y13_) ?_ ?_
      ·refine RunC.block ?_
       refine zQ ?_
       refine zm (r := i64 v11) ?_
       refine za (r := i64 v11) ?_
       refine zN ?_
       refine RunC.seq ?_
       obtain ⟨r12, hf7, h13_⟩ := obind_some h13_
       refine RunC.regionW ?_
       refine zl (r := agg (mXc a0 a1 a2)) (LOp.loadAgg agg33 siz33 rfl rfl rfl rfl) ?_
       refine zm (r := i64 v7) ?_
       refine zm (r := i64 v11) ?_
       refine ROps.d (r := f32 r12) (fs := []) (Γ' := [⟨1, some zMx⟩, ⟨1, some (L9.map f32)⟩, ⟨1, some (oXc r2 r3 1 1 r4.length)⟩, ⟨0, none⟩]) rfl rfl rfl (TOp.callB (CallAs.func ent94 rfl rfl) (Bors.cons (Bor.agg (Bors.cons (Bor.pure rfl) (Bors.cons (Bor.pure rfl) (Bors.cons (Bor.sl (fun _ => rfl)) Bors.nil)))) (Bors.cons (Bor.pure rfl) (Bors.cons (Bor.pure rfl) Bors.nil))) rfl rfl (i_Matrix_at_ok a0 a1 a2 v7 v11 r12 hf7)) rfl ?_
       refine za (r := f32 r12) ?_
       refine zN ?_
       refine RunC.seq ?_
       refine zQ ?_
       refine zm (r := i64 v11) ?_
       refine zm (r := i64 0) ?_
       refine zN ?_
       obtain ⟨z14, hz_14, h13_⟩ := obind_some h13_
       refine RunC.cutN (fun τ Γ => ∃ (y21 : F), L9.length = r4.length ∧ WeakLe τ [(1, ptr (mXc a0 a1 a2)), (2, optr 0 1 0), (4, optr 2 1 0), (5, i64 v7), (6, i64 v11), (7, f32 y21), (19, i64 a0), (20, i64 v7), (24, i64 x8), (25, i64 v11)] ∧ DeadLe Γ [⟨1, some zMx⟩, ⟨1, some (L9.map f32)⟩, ⟨1, some (oXc r2 r3 1 1 r4.length)⟩, ⟨0, none⟩] ∧ z14 = .inl y21) ?_ ?_
       ·refine RunC.block (RunC.loop (RunL.loopM (x := z14) (i_RootOfSquare_s8 r2 r3 v7 L9 v11) (fun (s : F × Int) τ Γ => WeakLe τ [(1, ptr (mXc a0 a1 a2)), (2, optr 0 1 0), (4, optr 2 1 0), (5, i64 v7), (6, i64 v11), (7, f32 s.1), (19, i64 a0), (20, i64 v7), (24, i64 x8), (25, i64 v11), (32, i64 v11), (33, i64 s.2)] ∧ DeadLe Γ [⟨1, some zMx⟩, ⟨1, some (L9.map f32)⟩, ⟨1, some (oXc r2 r3 1 1 r4.length)⟩, ⟨0, none⟩]) ?_ _ _ _ hz_14 ⟨⟨aR, aR, aR, aR, aR, aR, aR, aR, aR, aR, aR, aR, trivial⟩, ⟨⟨rfl, .inr rfl⟩, ⟨rfl, .inr rfl⟩, ⟨rfl, .inr rfl⟩, ⟨rfl, .inr rfl⟩, trivial⟩⟩))
        rintro ⟨y13, v14⟩ τ14 Γ14 y14_ ⟨hw14, hd14⟩ h14_ ho14 hr14
        refine RunC.wl (τ' := [(1, ptr (mXc a0 a1 a2)), (2, optr 0 1 0), (4, optr 2 1 0), (5, i64 v7), (6, i64 v11), (7, f32 y13), (19, i64 a0), (20, i64 v7), (24, i64 x8), (25, i64 v11), (32, i64 v11), (33, i64 v14)]) (Γ' := [⟨1, some zMx⟩, ⟨1, some (L9.map f32)⟩, ⟨1, some (oXc r2 r3 1 1 r4.length)⟩, ⟨0, none⟩]) hw14 hd14 ?_
        replace h14_ : i_RootOfSquare_b8 r2 r3 v7 L9 v11 y13 v14 = some y14_ := h14_
        unfold i_RootOfSquare_b8 at h14_
        refine RunC.seq ?_
        rcases bsel_some h14_ with ⟨hc8, h14_⟩ | ⟨hc8, h14_⟩
        ·refine RunC.regionW ?_
         refine zl (r := b true) (LOp.eqb (LOp.lss rfl rfl rfl) hc8) ?_
         refine zN ?_
         refine RunC.seq ?_
         refine RunC.cond_true rfl rfl ?_
         refine RunC.skip ?_
         refine RunC.seq ?_
         refine RunC.block ?_
         refine zQ ?_
         refine zm (r := i64 v14) ?_
         refine za (r := i64 v14) ?_
         refine zN ?_
         obtain ⟨r15, hf9, h14_⟩ := obind_some h14_
         obtain ⟨r16, hf10, h14_⟩ := obind_some h14_
         obtain ⟨r17, hf11, h14_⟩ := obind_some h14_
         obtain ⟨x18, hx12, h14_⟩ := olet_some h14_
         refine RunC.region_draw (Γ' := [⟨1, some zMx⟩, ⟨1, some (L9.map f32)⟩, ⟨1, some (oXc r2 r3 1 1 r4.length)⟩, ⟨0, none⟩]) 12 mixed 
          (TR.l (r := f32 y13) rfl rfl (LOp.move rfl rfl) <|
          (TR.d (r := agg (oXc r2 r3 1 1 r4.length)) (fs := []) rfl rfl (TOp.loadAgg_o rfl agg33 siz33 rfl rfl rfl rfl) <|
          (TR.l (r := i64 v7) rfl rfl (LOp.move rfl rfl) <|
          (TR.l (r := i64 v14) rfl rfl (LOp.move rfl rfl) <|
          (TR.d (r := f32 r15) (fs := []) rfl rfl (TOp.callB (CallAs.func ent94 rfl rfl) (Bors.cons (Bor.agg (Bors.cons (Bor.pure rfl) (Bors.cons (Bor.pure rfl) (Bors.cons (Bor.own (f := f32) (fun _ => rfl) rfl hl10) Bors.nil)))) (Bors.cons (Bor.pure rfl) (Bors.cons (Bor.pure rfl) Bors.nil))) rfl rfl (i_Matrix_at_ok r2 r3 L9 v7 v14 r15 hf9)) <|
          (TR.d (r := agg (oXc r2 r3 1 1 r4.length)) (fs := []) rfl rfl (TOp.loadAgg_o rfl agg33 siz33 rfl rfl rfl rfl) <|
          (TR.l (r := i64 v11) rfl rfl (LOp.move rfl rfl) <|
          (TR.l (r := i64 v14) rfl rfl (LOp.move rfl rfl) <|
          (TR.d (r := f32 r16) (fs := []) rfl rfl (TOp.callB (CallAs.func ent94 rfl rfl) (Bors.cons (Bor.agg (Bors.cons (Bor.pure rfl) (Bors.cons (Bor.pure rfl) (Bors.cons (Bor.own (f := f32) (fun _ => rfl) rfl hl10) Bors.nil)))) (Bors.cons (Bor.pure rfl) (Bors.cons (Bor.pure rfl) Bors.nil))) rfl rfl (i_Matrix_at_ok r2 r3 L9 v11 v14 r16 hf10)) <|
          (TR.d (r := f32 r17) (fs := []) rfl rfl (TOp.callB (CallAs.func ent76 rfl rfl) (Bors.cons (Bor.pure rfl) (Bors.cons (Bor.pure rfl) Bors.nil)) rfl rfl (i_mul_ok r15 r16 r17 hf11)) <|
          (TR.d (r := f32 x18) (fs := []) rfl rfl (TOp.eqr (TOp.fop (.inr (.inl rfl)) rfl (OpF.tmp rfl) (OpF.tmp rfl)) (congrArg (f .f32) hx12)) <|
          (TR.l (r := f32 x18) rfl rfl (LOp.assign rfl rfl) <|
          TR.nil)))))))))))) rfl (by kernel_rfl) rfl fills_nil rfl ?_
         iterate 12 refine ROps.dropS ?_
         refine ROps.drop0 ?_
         refine zN ?_
         refine RunC.wl (τ' := [(1, ptr (mXc a0 a1 a2)), (2, optr 0 1 0), (4, optr 2 1 0), (5, i64 v7), (6, i64 v11), (7, f32 x18), (19, i64 a0), (20, i64 v7), (24, i64 x8), (25, i64 v11), (32, i64 v11), (33, i64 v14)]) (Γ' := [⟨1, some zMx⟩, ⟨1, some (L9.map f32)⟩, ⟨1, some (oXc r2 r3 1 1 r4.length)⟩, ⟨0, none⟩]) ⟨aR, aR, aR, aR, aR, aR, aR, aR, aR, aR, aR, aR, trivial⟩ ⟨⟨rfl, .inr rfl⟩, ⟨rfl, .inr rfl⟩, ⟨rfl, .inr rfl⟩, ⟨rfl, .inr rfl⟩, trivial⟩ ?_
         obtain ⟨x19, hx13, h14_⟩ := olet_some h14_
         refine RunC.regionW ?_
         refine zl (r := i64 x19) (LOp.eqr (LOp.add rfl rfl rfl) (congrArg (ik .i64) hx13)) ?_
         refine zm (r := i64 x19) ?_
         refine zN ?_
         cases Option.some.inj h14_
         exact ⟨_, rfl, ⟨aR, aR, aR, aR, aR, aR, aR, aR, aR, aR, aR, aR, trivial⟩, ⟨⟨rfl, .inr rfl⟩, ⟨rfl, .inr rfl⟩, ⟨rfl, .inr rfl⟩, ⟨rfl, .inr rfl⟩, trivial⟩⟩
        ·refine RunC.regionW ?_
         refine zl (r := b false) (LOp.eqb (LOp.lss rfl rfl rfl) hc8) ?_
         refine zN ?_
         refine RunC.seq ?_
         refine RunC.cond_false rfl rfl ?_
         refine RunC.exit ?_
         cases Option.some.inj h14_
         have hx := ho14 _ rfl
         exact ⟨y13, hl10, ⟨aR, aR, aR, aR, aR, aR, aR, aR, aR, aR, trivial⟩, ⟨⟨rfl, .inr rfl⟩, ⟨rfl, .inr rfl⟩, ⟨rfl, .inr rfl⟩, ⟨rfl, .inr rfl⟩, trivial⟩, hx⟩
       ·rintro τ15 Γ15 ⟨y21, hl20, hw15, hd15, rfl⟩
        refine RunC.wl hw15 hd15 ?_
        replace h13_ : i_RootOfSquare_k8 r2 r3 r4 v7 L9 v11 y21 = some y13_ := h13_
        unfold i_RootOfSquare_k8 at h13_
        refine RunC.block ?_
        refine RunC.seq ?_
        rcases bsel_some h13_ with ⟨hc14, h13_⟩ | ⟨hc14, h13_⟩
        ·refine RunC.regionW ?_
         refine zm (r := i64 v11) ?_
         refine zm (r := i64 v7) ?_
         refine zl (r := b true) (LOp.eqb (LOp.lss rfl rfl rfl) hc14) ?_
         refine za (r := b true) ?_
         refine zN ?_
         refine RunC.cond_true rfl rfl ?_
         obtain ⟨r24, hf17, h13_⟩ := obind_some h13_
         obtain ⟨x25, hx18, h13_⟩ := olet_some h13_
         obtain ⟨r26, hf19, h13_⟩ := obind_some h13_
         obtain ⟨hn20, h13_⟩ := need_some h13_
         refine RunC.region_draw (Γ' := [⟨1, some zMx⟩, ⟨1, some (L9.map f32)⟩, ⟨1, some (oXc r2 r3 1 1 r4.length)⟩, ⟨0, none⟩]) 9 mixed 
          (TR.d (r := agg (oXc r2 r3 1 1 r4.length)) (fs := []) rfl rfl (TOp.loadAgg_o rfl agg33 siz33 rfl rfl rfl rfl) <|
          (TR.l (r := i64 v7) rfl rfl (LOp.move rfl rfl) <|
          (TR.l (r := i64 v11) rfl rfl (LOp.move rfl rfl) <|
          (TR.l (r := f32 y21) rfl rfl (LOp.move rfl rfl) <|
          (TR.d (r := agg (oXc r2 r3 1 1 r4.length)) (fs := []) rfl rfl (TOp.loadAgg_o rfl agg33 siz33 rfl rfl rfl rfl) <|
          (TR.l (r := i64 v11) rfl rfl (LOp.move rfl rfl) <|
          (TR.l (r := i64 v11) rfl rfl (LOp.move rfl rfl) <|
          (TR.d (r := f32 r24) (fs := []) rfl rfl (TOp.callB (CallAs.func ent94 rfl rfl) (Bors.cons (Bor.agg (Bors.cons (Bor.pure rfl) (Bors.cons (Bor.pure rfl) (Bors.cons (Bor.own (f := f32) (fun _ => rfl) rfl hl20) Bors.nil)))) (Bors.cons (Bor.pure rfl) (Bors.cons (Bor.pure rfl) Bors.nil))) rfl rfl (i_Matrix_at_ok r2 r3 L9 v11 v11 r24 hf17)) <|
          (TR.d (r := f32 x25) (fs := []) rfl rfl (TOp.eqr (TOp.fop (.inr (.inr (.inr rfl))) rfl (OpF.tmp rfl) (OpF.tmp rfl)) (congrArg (f .f32) hx18)) <|
          TR.nil))))))))) rfl (by kernel_rfl) rfl fills_nil rfl ?_
         iterate 9 refine ROps.dropS ?_
         refine ROps.drop0 ?_
         refine ROps.callO (A := [agg (oXc r2 r3 1 1 r4.length), i64 v7, i64 v11, f32 x25]) (args := [agg (oXc r2 r3 0 0 L9.length), i64 v7, i64 v11, f32 x25]) (Γc := [⟨0, some (L9.map f32)⟩]) (Γc' := [⟨0, some (r26.map f32)⟩]) (r' := tup []) (Γ' := [⟨1, some zMx⟩, ⟨1, some (r26.map f32)⟩, ⟨1, some (oXc r2 r3 1 1 r4.length)⟩, ⟨0, none⟩]) [(1, 1)] [] rfl (CallAs.func ent93 rfl rfl) rfl rfl (SelOk.of (show List.Nodup [1] from by decide) (SelL.arr0 (f := f32) (fun _ => rfl) rfl trivial)) (live_of ⟨⟨_, _, rfl⟩, trivial⟩) (by simp [ren, rens, sigma, rens_f32, rens_f64, rens_i64, rens_ik, rens_str, rens_cp, hl20]) rfl (i_Matrix_set_02o_ok r2 r3 v7 v11 x25 L9 r26 hf19) rfl (news_of trivial) (show List.Nodup [1] from by decide) (by simp [ren, rens, sigma, of_decide_eq_true hn20]) (by simp [backOb, sigma, ren, rens, rens_f32, rens_f64, rens_i64, rens_ik, rens_str, rens_cp]) ?_
         refine zN ?_
         exact ⟨r26, (of_decide_eq_true hn20), ⟨aR, aR, aR, aR, aR, aR, aR, aR, trivial⟩, ⟨⟨rfl, .inr rfl⟩, ⟨rfl, .inr rfl⟩, ⟨rfl, .inr rfl⟩, ⟨rfl, .inr rfl⟩, trivial⟩, h13_⟩
        ·refine RunC.regionW ?_
         refine zm (r := i64 v11) ?_
         refine zm (r := i64 v7) ?_
         refine zl (r := b false) (LOp.eqb (LOp.lss rfl rfl rfl) hc14) ?_
         refine za (r := b false) ?_
         refine zN ?_
         refine RunC.cond_false rfl rfl ?_
         refine RunC.seq ?_
         rcases bsel_some h13_ with ⟨hc21, h13_⟩ | ⟨hc21, h13_⟩
         ·refine RunC.regionW ?_
          refine zm (r := f32 y21) ?_
          refine zl (r := b true) (LOp.eqb (LOp.fgt rfl (OpF.tmp rfl) (OpF.const rfl (by kernel_rfl) (by kernel_rfl))) hc21) ?_
          refine za (r := b true) ?_
          refine zN ?_
          refine RunC.cond_true rfl rfl ?_
          obtain ⟨r28, hf23, h13_⟩ := obind_some h13_
          obtain ⟨r29, hf24, h13_⟩ := obind_some h13_
          obtain ⟨hn25, h13_⟩ := need_some h13_
          refine RunC.region_draw (Γ' := [⟨1, some zMx⟩, ⟨1, some (L9.map f32)⟩, ⟨1, some (oXc r2 r3 1 1 r4.length)⟩, ⟨0, none⟩]) 5 mixed 
           (TR.d (r := agg (oXc r2 r3 1 1 r4.length)) (fs := []) rfl rfl (TOp.loadAgg_o rfl agg33 siz33 rfl rfl rfl rfl) <|
           (TR.l (r := i64 v7) rfl rfl (LOp.move rfl rfl) <|
           (TR.l (r := i64 v11) rfl rfl (LOp.move rfl rfl) <|
           (TR.l (r := f32 y21) rfl rfl (LOp.move rfl rfl) <|
           (TR.d (r := f32 r28) (fs := []) rfl rfl (TOp.callB (CallAs.func ent114 rfl rfl) (Bors.cons (Bor.pure rfl) Bors.nil) rfl rfl (i_RootNumber_ok y21 r28 hf23)) <|
           TR.nil))))) rfl (by kernel_rfl) rfl fills_nil rfl ?_
          iterate 5 refine ROps.dropS ?_
          refine ROps.drop0 ?_
          refine ROps.callO (A := [agg (oXc r2 r3 1 1 r4.length), i64 v7, i64 v11, f32 r28]) (args := [agg (oXc r2 r3 0 0 L9.length), i64 v7, i64 v11, f32 r28]) (Γc := [⟨0, some (L9.map f32)⟩]) (Γc' := [⟨0, some (r29.map f32)⟩]) (r' := tup []) (Γ' := [⟨1, some zMx⟩, ⟨1, some (r29.map f32)⟩, ⟨1, some (oXc r2 r3 1 1 r4.length)⟩, ⟨0, none⟩]) [(1, 1)] [] rfl (CallAs.func ent93 rfl rfl) rfl rfl (SelOk.of (show List.Nodup [1] from by decide) (SelL.arr0 (f := f32) (fun _ => rfl) rfl trivial)) (live_of ⟨⟨_, _, rfl⟩, trivial⟩) (by simp [ren, rens, sigma, rens_f32, rens_f64, rens_i64, rens_ik, rens_str, rens_cp, hl20]) rfl (i_Matrix_set_02o_ok r2 r3 v7 v11 r28 L9 r29 hf24) rfl (news_of trivial) (show List.Nodup [1] from by decide) (by simp [ren, rens, sigma, of_decide_eq_true hn25]) (by simp [backOb, sigma, ren, rens, rens_f32, rens_f64, rens_i64, rens_ik, rens_str, rens_cp]) ?_
          refine zN ?_
          exact ⟨r29, (of_decide_eq_true hn25), ⟨aR, aR, aR, aR, aR, aR, aR, aR, trivial⟩, ⟨⟨rfl, .inr rfl⟩, ⟨rfl, .inr rfl⟩, ⟨rfl, .inr rfl⟩, ⟨rfl, .inr rfl⟩, trivial⟩, h13_⟩
         ·refine RunC.regionW ?_
          refine zm (r := f32 y21) ?_
          refine zl (r := b false) (LOp.eqb (LOp.fgt rfl (OpF.tmp rfl) (OpF.const rfl (by kernel_rfl) (by kernel_rfl))) hc21) ?_
          refine za (r := b false) ?_
          refine zN ?_
          refine RunC.cond_false rfl rfl ?_
          refine zQ ?_
          refine zl (r := agg zMx) (LOp.build (qs := []) zer33 zok33 und33 plc33 rfl trivial rfl) ?_
          refine ROps.store_le (r := agg zMx) (l' := zMx) (Γ' := [⟨1, some zMx⟩, ⟨1, some (L9.map f32)⟩, ⟨1, some (oXc r2 r3 1 1 r4.length)⟩, ⟨0, none⟩]) rfl siz33 rfl rfl rfl aR rfl rfl rfl rfl (Nat.le_of_ble_eq_true rfl) rfl rfl ?_
          refine za (r := b false) ?_
          refine zN ?_
          refine RunC.nil_cell (l' := [i64 0, i64 0, oref 3 1 0 0]) (Γ' := [⟨1, some [i64 0, i64 0, oref 3 1 0 0]⟩, ⟨1, some (L9.map f32)⟩, ⟨1, some (oXc r2 r3 1 1 r4.length)⟩, ⟨1, some (([] : List F).map f32)⟩]) 0 2 3 rfl rfl rfl rfl rfl ?_
          refine RunC.ret ?_
          cases Option.some.inj h13_
          have hx16_ := hr13 _ rfl
          subst hx16_
          cases Option.some.inj h12_
          have hx17_ := hr12 _ rfl
          subst hx17_
          have hq := Option.some.inj h
          obtain ⟨hq0, hq⟩ := Prod.mk.inj hq
          obtain ⟨hq1, hq⟩ := Prod.mk.inj hq
          obtain ⟨hq2, hq⟩ := Prod.mk.inj hq
          subst q0
          subst q1
          subst q2
          subst q3
          exact bodyQ.mk (r' := tup [agg [i64 0, i64 0, oref 3 1 0 (([] : List F).length)], b false]) [(3, 1)] (.inr rfl) rfl (show List.Nodup [3] from by decide) rfl rfl (Res.eq (Res.two rfl (RV.cell agg33 siz33 rfl rfl rfl rfl) (RV.tmp rfl)) (by rw [(show ([] : List F).length = 0 from rfl)] <;> rfl)) (SelL.arr0 (f := f32) (fun _ => rfl) rfl trivial)
      ·rintro τ18 Γ18 ⟨L30, hl31, hw18, hd18, h13_⟩
       refine RunC.wl hw18 hd18 ?_
       unfold i_RootOfSquare_k9 at h13_
       obtain ⟨x32, hx26, h13_⟩ := olet_some h13_
       refine RunC.regionW ?_
       refine zl (r := i64 x32) (LOp.eqr (LOp.add rfl rfl rfl) (congrArg (ik .i64) hx26)) ?_
       refine zm (r := i64 x32) ?_
       refine zN ?_
       cases Option.some.inj h13_
       exact ⟨_, rfl, hl31, ⟨aR, aR, aR, aR, aR, aR, aR, aR, trivial⟩, ⟨⟨rfl, .inr rfl⟩, ⟨rfl, .inr rfl⟩, ⟨rfl, .inr rfl⟩, ⟨rfl, .inr rfl⟩, trivial⟩⟩
     ·refine RunC.regionW ?_
      refine zl (r := b false) (LOp.eqb (LOp.lss rfl rfl rfl) hc6) ?_
      refine zN ?_
      refine RunC.seq ?_
      refine RunC.cond_false rfl rfl ?_
      refine RunC.exit ?_
      cases Option.some.inj h13_
      have hx := ho13 _ rfl
      exact ⟨L9, hl10, ⟨aR, aR, aR, aR, aR, trivial⟩, ⟨⟨rfl, .inr rfl⟩, ⟨rfl, .inr rfl⟩, ⟨rfl, .inr rfl⟩, ⟨rfl, .inr rfl⟩, trivial⟩, hx⟩
    ·rintro τ19 Γ19 ⟨L33, hl34, hw19, hd19, rfl⟩
     refine RunC.wl hw19 hd19 ?_
     replace h12_ : i_RootOfSquare_k10 v7 L33 = some y12_ := h12_
     unfold i_RootOfSquare_k10 at h12_
     obtain ⟨x35, hx27, h12_⟩ := olet_some h12_
     refine RunC.regionW ?_
     refine zl (r := i64 x35) (LOp.eqr (LOp.add rfl rfl rfl) (congrArg (ik .i64) hx27)) ?_
     refine zm (r := i64 x35) ?_
     refine zN ?_
     cases Option.some.inj h12_
     exact ⟨_, rfl, hl34, ⟨aR, aR, aR, aR, aR, trivial⟩, ⟨⟨rfl, .inr rfl⟩, ⟨rfl, .inr rfl⟩, ⟨rfl, .inr rfl⟩, ⟨rfl, .inr rfl⟩, trivial⟩⟩
   ·refine RunC.regionW ?_
    refine zl (r := b false) (LOp.eqb (LOp.lss rfl rfl rfl) hc4) ?_
    refine zN ?_
    refine RunC.seq ?_
    refine RunC.cond_false rfl rfl ?_
    refine RunC.exit ?_
    cases Option.some.inj h12_
    have hx := ho12 _ rfl
    exact ⟨L5, hl6, ⟨aR, aR, trivial⟩, ⟨⟨rfl, .inr rfl⟩, ⟨rfl, .inr rfl⟩, ⟨rfl, .inr rfl⟩, ⟨rfl, .inr rfl⟩, trivial⟩, hx⟩
  ·rintro τ20 Γ20 ⟨L36, hl37, hw20, hd20, rfl⟩
   refine RunC.wl hw20 hd20 ?_
   replace h : i_RootOfSquare_k11 r2 r3 r4 L36 = some (q0, q1, q2, q3) := h
   unfold i_RootOfSquare_k11 at h
   refine RunC.seq ?_
   obtain ⟨z21, hf28, h⟩ := obind_some h
   rcases z21 with z21 | z21
   ·replace h := (osum_inl _ _ _).symm.trans h
    obtain ⟨r38, r39, r40, r41, hz22, h⟩ := obind4_some h
    cases hz22
    obtain ⟨hn29, h⟩ := need_some h
    refine RunC.regionW ?_
    refine ROps.d (r := agg (oXc r2 r3 1 1 r4.length)) (fs := []) (Γ' := [⟨1, some zMx⟩, ⟨1, some (L36.map f32)⟩, ⟨1, some (oXc r2 r3 1 1 r4.length)⟩, ⟨0, none⟩]) rfl rfl rfl (TOp.loadAgg_o rfl agg33 siz33 rfl rfl rfl rfl) rfl ?_
    refine ROps.callO (A := [agg (oXc r2 r3 1 1 r4.length)]) (args := [agg (oXc r2 r3 0 0 L36.length)]) (Γc := [⟨0, some (L36.map f32)⟩]) (Γc' := [⟨0, some (r41.map f32)⟩]) (r' := tup [agg (oXc r38 r39 1 1 r4.length), b r40]) (Γ' := [⟨1, some zMx⟩, ⟨1, some (r41.map f32)⟩, ⟨1, some (oXc r2 r3 1 1 r4.length)⟩, ⟨0, none⟩]) [(1, 1)] [] rfl (CallAs.func ent107 rfl rfl) rfl rfl (SelOk.of (show List.Nodup [1] from by decide) (SelL.arr0 (f := f32) (fun _ => rfl) rfl trivial)) (live_of ⟨⟨_, _, rfl⟩, trivial⟩) (by simp [ren, rens, sigma, rens_f32, rens_f64, rens_i64, rens_ik, rens_str, rens_cp, hl37]) rfl (i_Matrix_valid_02o_ok0 r2 r3 L36 r38 r39 r40 r41 hf28) rfl (news_of trivial) (show List.Nodup [1] from by decide) (by simp [ren, rens, sigma, of_decide_eq_true hn29]) (by simp [backOb, sigma, ren, rens, rens_f32, rens_f64, rens_i64, rens_ik, rens_str, rens_cp]) ?_
    refine zl (r := agg (oXc r38 r39 1 1 r4.length)) (LOp.extract rfl rfl rfl) ?_
    refine zl (r := b r40) (LOp.extract rfl rfl rfl) ?_
    refine ROps.store_le (r := agg (oXc r38 r39 1 1 r4.length)) (l' := (oXc r38 r39 1 1 r4.length)) (Γ' := [⟨1, some (oXc r38 r39 1 1 r4.length)⟩, ⟨1, some (r41.map f32)⟩, ⟨1, some (oXc r2 r3 1 1 r4.length)⟩, ⟨0, none⟩]) rfl siz33 rfl rfl rfl aR rfl rfl rfl rfl (Nat.le_of_ble_eq_true rfl) rfl rfl ?_
    refine za (r := b r40) ?_
    refine zN ?_
    refine RunC.ret ?_
    have hq := Option.some.inj h
    obtain ⟨hq0, hq⟩ := Prod.mk.inj hq
    obtain ⟨hq1, hq⟩ := Prod.mk.inj hq
    obtain ⟨hq2, hq⟩ := Prod.mk.inj hq
    subst q0
    subst q1
    subst q2
    subst q3
    exact bodyQ.mk (r' := tup [agg (oXc r38 r39 1 1 r41.length), b r40]) [(1, 1)] (.inr rfl) rfl (show List.Nodup [1] from by decide) rfl rfl (Res.eq (Res.two rfl (RV.cell agg33 siz33 rfl rfl rfl rfl) (RV.tmp rfl)) (by rw [(show r41.length = r4.length from (of_decide_eq_true hn29))] <;> rfl)) (SelL.arr0 (f := f32) (fun _ => rfl) rfl trivial)
   ·replace h := (osum_inr _ _ _).symm.trans h
    obtain ⟨r42, r43, r44, r45, r46, hz23, h⟩ := obind5_some h
    cases hz23
    obtain ⟨hn30, h⟩ := need_some h
    refine RunC.regionW ?_
    refine ROps.d (r := agg (oXc r2 r3 1 1 r4.length)) (fs := []) (Γ' := [⟨1, some zMx⟩, ⟨1, some (L36.map f32)⟩, ⟨1, some (oXc r2 r3 1 1 r4.length)⟩, ⟨0, none⟩]) rfl rfl rfl (TOp.loadAgg_o rfl agg33 siz33 rfl rfl rfl rfl) rfl ?_
    refine ROps.callO (A := [agg (oXc r2 r3 1 1 r4.length)]) (args := [agg (oXc r2 r3 0 0 L36.length)]) (Γc := [⟨0, some (L36.map f32)⟩]) (Γc' := [⟨0, some (r45.map f32)⟩, ⟨0, some (r46.map f32)⟩]) (r' := tup [agg (oXc r42 r43 3 1 r46.length), b r44]) (Γ' := [⟨1, some zMx⟩, ⟨1, some (r45.map f32)⟩, ⟨1, some (oXc r2 r3 1 1 r4.length)⟩, ⟨1, some (r46.map f32)⟩]) [(1, 1)] [(3, 1)] rfl (CallAs.func ent107 rfl rfl) rfl rfl (SelOk.of (show List.Nodup [1] from by decide) (SelL.arr0 (f := f32) (fun _ => rfl) rfl trivial)) (live_of ⟨⟨_, _, rfl⟩, trivial⟩) (by simp [ren, rens, sigma, rens_f32, rens_f64, rens_i64, rens_ik, rens_str, rens_cp, hl37]) rfl (i_Matrix_valid_02o_ok1 r2 r3 L36 r42 r43 r44 r45 r46 hf28) rfl (news_of ⟨⟨_, rfl, rfl⟩, trivial⟩) (show List.Nodup [1, 3] from by decide) (by simp [ren, rens, sigma, of_decide_eq_true hn30]) (by simp [backOb, sigma, ren, rens, rens_f32, rens_f64, rens_i64, rens_ik, rens_str, rens_cp]) ?_
    refine zl (r := agg (oXc r42 r43 3 1 r46.length)) (LOp.extract rfl rfl rfl) ?_
    refine zl (r := b r44) (LOp.extract rfl rfl rfl) ?_
    refine ROps.store_le (r := agg (oXc r42 r43 3 1 r46.length)) (l' := (oXc r42 r43 3 1 r46.length)) (Γ' := [⟨1, some (oXc r42 r43 3 1 r46.length)⟩, ⟨1, some (r45.map f32)⟩, ⟨1, some (oXc r2 r3 1 1 r4.length)⟩, ⟨1, some (r46.map f32)⟩]) rfl siz33 rfl rfl rfl aR rfl rfl rfl rfl (Nat.le_of_ble_eq_true rfl) rfl rfl ?_
    refine za (r := b r44) ?_
    refine zN ?_
    refine RunC.ret ?_
    have hq := Option.some.inj h
    obtain ⟨hq0, hq⟩ := Prod.mk.inj hq
    obtain ⟨hq1, hq⟩ := Prod.mk.inj hq
    obtain ⟨hq2, hq⟩ := Prod.mk.inj hq
    subst q0
    subst q1
    subst q2
    subst q3
    exact bodyQ.mk (r' := tup [agg (oXc r42 r43 3 1 r46.length), b r44]) [(3, 1)] (.inr rfl) rfl (show List.Nodup [3] from by decide) rfl rfl (Res.two rfl (RV.cell agg33 siz33 rfl rfl rfl rfl) (RV.tmp rfl)) (SelL.arr0 (f := f32) (fun _ => rfl) rfl trivial)
 ·refine RunC.regionW ?_
  refine zl (r := agg (mXc a0 a1 a2)) (LOp.loadAgg agg33 siz33 rfl rfl rfl rfl) ?_
  refine ROps.d (r := b false) (fs := []) (Γ' := [⟨1, some zMx⟩, ⟨0, none⟩, ⟨0, none⟩, ⟨0, none⟩]) rfl rfl rfl (TOp.eqb (TOp.callB (CallAs.func ent91 rfl rfl) (Bors.cons (Bor.agg (Bors.cons (Bor.pure rfl) (Bors.cons (Bor.pure rfl) (Bors.cons (Bor.sl (fun _ => rfl)) Bors.nil)))) Bors.nil) rfl rfl (i_isSquare_ok a0 a1 a2 r1 hf1)) hc2) rfl ?_
  refine zl (r := b true) (LOp.eqb (LOp.not rfl rfl) rfl) ?_
  refine zN ?_
  refine RunC.cond_true rfl rfl ?_
  refine zQ ?_
  refine zl (r := agg zMx) (LOp.build (qs := []) zer33 zok33 und33 plc33 rfl trivial rfl) ?_
  refine ROps.store_le (r := agg zMx) (l' := zMx) (Γ' := [⟨1, some zMx⟩, ⟨0, none⟩, ⟨0, none⟩, ⟨0, none⟩]) rfl siz33 rfl rfl rfl aR rfl rfl rfl rfl (Nat.le_of_ble_eq_true rfl) rfl rfl ?_
  refine za (r := b false) ?_
  refine zN ?_
  refine RunC.nil_cell (l' := [i64 0, i64 0, oref 1 1 0 0]) (Γ' := [⟨1, some [i64 0, i64 0, oref 1 1 0 0]⟩, ⟨1, some (([] : List F).map f32)⟩, ⟨0, none⟩, ⟨0, none⟩]) 0 2 1 rfl rfl rfl rfl rfl ?_
  refine RunC.ret ?_
  have hq := Option.some.inj h
  obtain ⟨hq0, hq⟩ := Prod.mk.inj hq
  obtain ⟨hq1, hq⟩ := Prod.mk.inj hq
  obtain ⟨hq2, hq⟩ := Prod.mk.inj hq
  subst q0
  subst q1
  subst q2
  subst q3
  exact bodyQ.mk (r' := tup [agg [i64 0, i64 0, oref 1 1 0 (([] : List F).length)], b false]) [(1, 1)] (.inr rfl) rfl (show List.Nodup [1] from by decide) rfl rfl (Res.eq (Res.two rfl (RV.cell agg33 siz33 rfl rfl rfl rfl) (RV.tmp rfl)) (by rw [(show ([] : List F).length = 0 from rfl)] <;> rfl)) (SelL.arr0 (f := f32) (fun _ => rfl) rfl trivial)
noncomputable def x_slices_Clone_float32_float32 (a0 : List F) : Option ((List F)) :=
 need (apok 4 0 a0.length) <|
 some (([] : List F) ++ a0)
theorem x_slices_Clone_float32_float32_ok (a0 : List F) (q0 : List F) (h : x_slices_Clone_float32_float32 a0 = some q0) : Ev Try.prog 82 [(sFc a0)] [] (oref 0 0 0 q0.length) [⟨0, some (q0.map f32)⟩] := by
 refine Ev.start Try.func82 rfl rfl 1 (τ := [(0, (sFc a0))]) rfl (Γ' := [⟨0, none⟩]) rfl (n := 17) rfl (g := 0) rfl (fun _ => rfl) ?_
 unfold x_slices_Clone_float32_float32 at h
 refine zQ ?_
 refine za (r := nilsl) ?_
 refine zN ?_
 refine RunC.seq ?_
 refine zQ ?_
 refine zm (r := (sFc a0)) ?_
 refine ROps.eqnil rfl pun26 rfl rfl rfl rfl rfl ?_ ?_
 ·intro hnil1
  refine zN ?_
  refine RunC.cond_true rfl rfl ?_
  refine zQ ?_
  refine za (r := nilsl) ?_
  refine zN ?_
  refine RunC.nil_slot (Γ' := [⟨1, some (([] : List F).map f32)⟩]) 2 0 rfl rfl rfl ?_
  refine RunC.ret ?_
  have hnl := List.map_eq_nil_iff.1 hnil1
  have hq : some ([] : List F) = some q0 := by
   rw [← h]; subst hnl; simp [need, apok]
  have hq := Option.some.inj hq
  subst q0
  exact bodyQ.mk (r' := oref 0 1 0 (([] : List F).length)) [(0, 1)] (.inr rfl) rfl (show List.Nodup [0] from by decide) rfl rfl (Res.eq (Res.one rfl (RV.tmp rfl)) (by rw [(show ([] : List F).length = 0 from rfl)] <;> rfl)) (SelL.arr0 (f := f32) (fun _ => rfl) rfl trivial)
 ·refine zN ?_
  refine RunC.cond_false rfl rfl ?_
  refine RunC.skip ?_
  refine RunC.seq ?_
  obtain ⟨hm2, h⟩ := need_some h
  refine RunC.regionW ?_
  refine ROps.d (r := oref 0 1 0 0) (fs := [(0, (([] : List F).map f32))]) (Γ' := [⟨1, some (([] : List F).map f32)⟩]) rfl rfl rfl (TOp.buildSlice_o (g := ⟨0, none⟩) (za := f32 (some 0)) (qs := []) 0 rfl und26 siz28 zer28 rfl zel28 rfl rfl trivial rfl) rfl ?_
  refine zm (r := (sFc a0)) ?_
  refine ROps.app (f := f32) (xs := ([] : List F)) (ys := a0) (Γ' := [⟨2, some ((([] : List F) ++ a0).map f32)⟩]) rfl pun26 inf28 rfl rfl rfl rfl rfl rfl rfl rfl rfl (by simp) (ReadAs.sl (by simp)) (ones_map (fun _ => rfl)) (ap_by hm2) (ap_mx hm2) rfl ?_
  refine za (r := oref 0 2 0 (0 + a0.length)) ?_
  refine zN ?_
  refine RunC.ret ?_
  have hq := Option.some.inj h
  subst q0
  exact bodyQ.mk (r' := oref 0 2 0 ((([] : List F) ++ a0).length)) [(0, 2)] (.inr rfl) rfl (show List.Nodup [0] from by decide) rfl rfl (Res.eq (Res.one rfl (RV.tmp rfl)) (by rw [(show (([] : List F) ++ a0).length = (0 + a0.length) from (app_len rfl rfl))] <;> rfl)) (SelL.arr0 (f := f32) (fun _ => rfl) rfl trivial)
noncomputable def i_Matrix_clone (a0 : Int) (a1 : Int) (a2 : List F) : Option (Int × Int × (List F)) :=
 obind (x_slices_Clone_float32_float32 a2) fun (r1 : List F) =>
 some (a0, a1, r1)
theorem i_Matrix_clone_ok (a0 : Int) (a1 : Int) (a2 : List F) (q0 : Int) (q1 : Int) (q2 : List F) (h : i_Matrix_clone a0 a1 a2 = some (q0, q1, q2)) : Ev Try.prog 92 [agg (mXc a0 a1 a2)] [] (agg (oXc q0 q1 0 0 q2.length)) [⟨0, some (q2.map f32)⟩] := by
 refine Ev.start Try.func92 rfl rfl 2 (τ := [(0, agg (mXc a0 a1 a2))]) rfl (Γ' := [⟨0, none⟩, ⟨0, none⟩]) rfl (n := 23) rfl (g := 0) rfl (fun _ => rfl) ?_
 unfold i_Matrix_clone at h
 refine zQ ?_
 refine ROps.d (r := ptr (mXc a0 a1 a2)) (fs := []) (Γ' := [⟨0, none⟩, ⟨0, none⟩]) rfl rfl rfl (TOp.box_s rfl rfl rfl) rfl ?_
 refine ROps.d (r := optr 0 1 0) (fs := [(0, zMx)]) (Γ' := [⟨1, some zMx⟩, ⟨0, none⟩]) rfl rfl rfl (TOp.alloc_o (g := ⟨0, none⟩) 0 rfl zer33 zok33 rfl) rfl ?_
 refine zN ?_
 refine RunC.seq ?_
 obtain ⟨r1, hf1, h⟩ := obind_some h
 refine RunC.region_draw (Γ' := [⟨1, some zMx⟩, ⟨1, some (r1.map f32)⟩]) 8 mixed 
  (TR.l (r := ptr (mXc a0 a1 a2)) rfl rfl (LOp.fap und33 rfl siz2 rfl rfl rfl) <|
  (TR.l (r := i64 a0) rfl rfl (LOp.load1 agg2 rfl rfl) <|
  (TR.l (r := ptr [i64 a1, (sFc a2)]) rfl rfl (LOp.fap und33 rfl siz2 rfl rfl rfl) <|
  (TR.l (r := i64 a1) rfl rfl (LOp.load1 agg2 rfl rfl) <|
  (TR.l (r := ptr [(sFc a2)]) rfl rfl (LOp.fap und33 rfl siz26 rfl rfl rfl) <|
  (TR.l (r := (sFc a2)) rfl rfl (LOp.load1 agg26 rfl rfl) <|
  (TR.d (r := oref 1 1 0 r1.length) (fs := [(1, (r1.map f32))]) rfl rfl (TOp.callBN (ls := [(r1.map f32)]) [1] (CallAs.func ent82 rfl rfl) (Bors.cons (Bor.sl (fun _ => rfl)) Bors.nil) rfl (x_slices_Clone_float32_float32_ok a2 r1 hf1) (and_all (lts0_map (f := f32) (fun _ => rfl) _) rfl) (and_all (noss_map (f := f32) (fun _ => rfl) _) rfl) rfl (by decide) (ns_of ⟨⟨_, rfl⟩, trivial⟩)) <|
  (TR.l (r := agg (oXc a0 a1 1 1 r1.length)) rfl rfl (LOp.build (qs := [(0, [i64 a0]), (1, [i64 a1]), (2, [oref 1 1 0 r1.length])]) zer33 zok33 und33 plc33 rfl ⟨rfl, ⟨_, ALe.refl _, rfl⟩, ⟨rfl, ⟨_, ALe.refl _, rfl⟩, ⟨rfl, ⟨_, ALe.refl _, rfl⟩, trivial⟩⟩⟩ rfl) <|
  TR.nil)))))))) rfl (by kernel_rfl) rfl (fills_of (by show List.Nodup [1]; decide) ⟨⟨_, rfl⟩, trivial⟩) rfl ?_
 iterate 8 refine ROps.dropS ?_
 refine ROps.drop0 ?_
 refine ROps.store_le (r := agg (oXc a0 a1 1 1 r1.length)) (l' := (oXc a0 a1 1 1 r1.length)) (Γ' := [⟨1, some (oXc a0 a1 1 1 r1.length)⟩, ⟨1, some (r1.map f32)⟩]) rfl siz33 rfl rfl rfl aR rfl rfl rfl rfl (Nat.le_of_ble_eq_true rfl) rfl rfl ?_
 refine zN ?_
 refine RunC.ret ?_
 have hq := Option.some.inj h
 obtain ⟨hq0, hq⟩ := Prod.mk.inj hq
 obtain ⟨hq1, hq⟩ := Prod.mk.inj hq
 subst q0
 subst q1
 subst q2
 exact bodyQ.mk (r' := agg (oXc a0 a1 1 1 r1.length)) [(1, 1)] (.inr rfl) rfl (show List.Nodup [1] from by decide) rfl rfl (Res.one rfl (RV.cell agg33 siz33 rfl rfl rfl rfl)) (SelL.arr0 (f := f32) (fun _ => rfl) rfl trivial)
noncomputable def i_RootShifted_k4 (v8 : Int) (y29 : F) : Option (LR (F × Int) (Unit) (Int × Int × F × Bool × (List F))) :=
 olet (IntKind.i64.wrap (v8 + 1)) fun (x30 : Int) =>
 some (LR.next (y29, x30))
noncomputable def i_RootShifted_b3 (a0 : Int) (a1 : Int) (a2 : List F) (y7 : F) (r10 : Int) (r11 : Int) (r12 : List F) (L13 : List F) (v15 : Int) : Option (LR ((List F) × Int) ((List F)) (Int × Int × F × Bool × (List F))) :=
 bsel (decide (v15 < a0)) (
  obind (i_Matrix_at a0 a1 a2 v15 v15) fun (r18 : F) =>
  olet (fop .add .f32 r18 y7) fun (x19 : F) =>
  obind (i_Matrix_set_02o r10 r11 v15 v15 x19 L13) fun (r20 : List F) =>
  need (decide (r20.length = r12.length)) <|
  olet (IntKind.i64.wrap (v15 + 1)) fun (x21 : Int) =>
  some (LR.next (r20, x21))) (
  some (LR.out L13))
noncomputable def i_RootShifted_s3 (a0 : Int) (a1 : Int) (a2 : List F) (y7 : F) (r10 : Int) (r11 : Int) (r12 : List F) : ((List F) × Int) → Option (LR ((List F) × Int) ((List F)) (Int × Int × F × Bool × (List F))) := fun s => i_RootShifted_b3 a0 a1 a2 y7 r10 r11 r12 s.1 s.2
noncomputable def i_RootShifted_k3 (a3 : F) (y7 : F) (v8 : Int) (r10 : Int) (r11 : Int) (L22 : List F) : Option (LR (F × Int) (Unit) (Int × Int × F × Bool × (List F))) :=
 obind4 (i_RootOfSquare r10 r11 L22) fun (r24 : Int) (r25 : Int) (r26 : Bool) (r27 : List F) =>
 bsel r26 (
  some (LR.ret (r24, r25, y7, true, r27))) (
  obind (i_mul (some 1073741824) y7) fun (r28 : F) =>
  bsel (decide (v8 = 0)) (
   i_RootShifted_k4 v8 a3) (
   i_RootShifted_k4 v8 r28))
noncomputable def i_RootShifted_b5 (a0 : Int) (a1 : Int) (a2 : List F) (a3 : F) (y7 : F) (v8 : Int) : Option (LR (F × Int) (Unit) (Int × Int × F × Bool × (List F))) :=
 bsel (decide (v8 < 24)) (
  obind (i_IsFinite y7) fun (r9 : Bool) =>
  bsel r9 (
   obind3 (i_Matrix_clone a0 a1 a2) fun (r10 : Int) (r11 : Int) (r12 : List F) =>
   obind (loopM (i_RootShifted_s3 a0 a1 a2 y7 r10 r11 r12) (r12, 0)) fun z => osum z (fun e => i_RootShifted_k3 a3 y7 v8 r10 r11 e) (fun r => some (LR.ret r))) (
   some (LR.out ()))) (
  some (LR.out ()))
noncomputable def i_RootShifted_s5 (a0 : Int) (a1 : Int) (a2 : List F) (a3 : F) : (F × Int) → Option (LR (F × Int) (Unit) (Int × Int × F × Bool × (List F))) := fun s => i_RootShifted_b5 a0 a1 a2 a3 s.1 s.2
noncomputable def i_RootShifted_k5  : Option (Int × Int × F × Bool × (List F)) :=
 some (0, 0, some 0, false, ([] : List F))
noncomputable def i_RootShifted (a0 : Int) (a1 : Int) (a2 : List F) (a3 : F) : Option (Int × Int × F × Bool × (List F)) :=
 obind (i_isSquare a0 a1 a2) fun (r1 : Bool) =>
 bsel r1 (
  obind (i_IsFinite a3) fun (r2 : Bool) =>
  bsel r2 (
   bsel (fle .f32 a3 (some 0)) (
    some (0, 0, some 0, false, ([] : List F))) (
    obind (loopM (i_RootShifted_s5 a0 a1 a2 a3) (some 0, 0)) fun z => osum z (fun _ => i_RootShifted_k5) (fun r => some r))) (
   some (0, 0, some 0, false, ([] : List F)))) (
  some (0, 0, some 0, false, ([] : List F)))
theorem i_RootShifted_ok (a0 : Int) (a1 : Int) (a2 : List F) (a3 : F) (q0 : Int) (q1 : Int) (q2 : F) (q3 : Bool) (q4 : List F) (h : i_RootShifted a0 a1 a2 a3 = some (q0, q1, q2, q3, q4)) : Ev Try.prog 45 [agg (mXc a0 a1 a2), f32 a3] [] (tup [agg (oXc q0 q1 0 0 q4.length), f32 q2, b q3]) [⟨0, some (q4.map f32)⟩] := by
 refine Ev.start Try.func45 rfl rfl 5 (τ := [(0, agg (mXc a0 a1 a2)), (1, f32 a3)]) rfl (Γ' := [⟨0, none⟩, ⟨0, none⟩, ⟨0, none⟩, ⟨0, none⟩, ⟨0, none⟩]) rfl (n := 131) rfl (g := 0) rfl (fun _ => rfl) ?_
 unfold i_RootShifted at h
 refine zQ ?_
 refine ROps.d (r := ptr (mXc a0 a1 a2)) (fs := []) (Γ' := [⟨0, none⟩, ⟨0, none⟩, ⟨0, none⟩, ⟨0, none⟩, ⟨0, none⟩]) rfl rfl rfl (TOp.box_s rfl rfl rfl) rfl ?_
 refine ROps.d (r := optr 0 1 0) (fs := [(0, zMx)]) (Γ' := [⟨1, some zMx⟩, ⟨0, none⟩, ⟨0, none⟩, ⟨0, none⟩, ⟨0, none⟩]) rfl rfl rfl (TOp.alloc_o (g := ⟨0, none⟩) 0 rfl zer33 zok33 rfl) rfl ?_
 refine zl (r := f32 (some 0)) (LOp.le (LOp.assign rfl rfl) (ALe.fl (by kernel_rfl) (by kernel_rfl))) ?_
 refine za (r := b false) ?_
 refine zN ?_
 iterate 2 (refine RunC.seq ?_)
 obtain ⟨r1, hf1, h⟩ := obind_some h
 rcases bsel_some h with ⟨hc2, h⟩ | ⟨hc2, h⟩
 ·obtain ⟨r2, hf3, h⟩ := obind_some h
  rcases bsel_some h with ⟨hc4, h⟩ | ⟨hc4, h⟩
  ·rcases bsel_some h with ⟨hc5, h⟩ | ⟨hc5, h⟩
   ·refine RunC.regionW ?_
    refine zl (r := agg (mXc a0 a1 a2)) (LOp.loadAgg agg33 siz33 rfl rfl rfl rfl) ?_
    refine ROps.d (r := b true) (fs := []) (Γ' := [⟨1, some zMx⟩, ⟨0, none⟩, ⟨0, none⟩, ⟨0, none⟩, ⟨0, none⟩]) rfl rfl rfl (TOp.eqb (TOp.callB (CallAs.func ent91 rfl rfl) (Bors.cons (Bor.agg (Bors.cons (Bor.pure rfl) (Bors.cons (Bor.pure rfl) (Bors.cons (Bor.sl (fun _ => rfl)) Bors.nil)))) Bors.nil) rfl rfl (i_isSquare_ok a0 a1 a2 r1 hf1)) hc2) rfl ?_
    refine zl (r := b false) (LOp.eqb (LOp.not rfl rfl) rfl) ?_
    refine zm (r := b false) ?_
    refine zm (r := f32 a3) ?_
    refine ROps.d (r := b true) (fs := []) (Γ' := [⟨1, some zMx⟩, ⟨0, none⟩, ⟨0, none⟩, ⟨0, none⟩, ⟨0, none⟩]) rfl rfl rfl (TOp.eqb (TOp.callB (CallAs.func ent80 rfl rfl) (Bors.cons (Bor.pure rfl) Bors.nil) rfl rfl (i_IsFinite_ok a3 r2 hf3)) hc4) rfl ?_
    refine zl (r := b false) (LOp.eqb (LOp.not rfl rfl) rfl) ?_
    refine zl (r := b false) (LOp.pick_false rfl rfl rfl) ?_
    refine zm (r := b false) ?_
    refine zm (r := f32 a3) ?_
    refine zl (r := b true) (LOp.eqb (LOp.fle rfl (OpF.tmp rfl) (OpF.const rfl (by kernel_rfl) (by kernel_rfl))) hc5) ?_
    refine zl (r := b true) (LOp.pick_false rfl rfl rfl) ?_
    refine zN ?_
    refine RunC.wl (τ' := [(1, f32 a3), (2, ptr (mXc a0 a1 a2)), (4, optr 0 1 0), (24, b true)]) (Γ' := [⟨1, some zMx⟩, ⟨0, none⟩, ⟨0, none⟩, ⟨0, none⟩, ⟨0, none⟩]) ⟨aR, aR, aR, aR, trivial⟩ ⟨⟨rfl, .inr rfl⟩, ⟨rfl, .inr rfl⟩, ⟨rfl, .inr rfl⟩, ⟨rfl, .inr rfl⟩, ⟨rfl, .inr rfl⟩, trivial⟩ ?_
    refine RunC.cond_true rfl rfl ?_
    refine zQ ?_
    refine zl (r := agg zMx) (LOp.build (qs := []) zer33 zok33 und33 plc33 rfl trivial rfl) ?_
    refine ROps.store_le (r := agg zMx) (l' := zMx) (Γ' := [⟨1, some zMx⟩, ⟨0, none⟩, ⟨0, none⟩, ⟨0, none⟩, ⟨0, none⟩]) rfl siz33 rfl rfl rfl aR rfl rfl rfl rfl (Nat.le_of_ble_eq_true rfl) rfl rfl ?_
    refine zl (r := f32 (some 0)) (LOp.le (LOp.assign rfl rfl) (ALe.fl (by kernel_rfl) (by kernel_rfl))) ?_
    refine za (r := b false) ?_
    refine zN ?_
    refine RunC.nil_cell (l' := [i64 0, i64 0, oref 1 1 0 0]) (Γ' := [⟨1, some [i64 0, i64 0, oref 1 1 0 0]⟩, ⟨1, some (([] : List F).map f32)⟩, ⟨0, none⟩, ⟨0, none⟩, ⟨0, none⟩]) 0 2 1 rfl rfl rfl rfl rfl ?_
    refine RunC.ret ?_
    have hq := Option.some.inj h
    obtain ⟨hq0, hq⟩ := Prod.mk.inj hq
    obtain ⟨hq1, hq⟩ := Prod.mk.inj hq
    obtain ⟨hq2, hq⟩ := Prod.mk.inj hq
    obtain ⟨hq3, hq⟩ := Prod.mk.inj hq
    subst q0
    subst q1
    subst q2
    subst q3
    subst q4
    exact bodyQ.mk (r' := tup [agg [i64 0, i64 0, oref 1 1 0 (([] : List F).length)], f32 (some 0), b false]) [(1, 1)] (.inr rfl) rfl (show List.Nodup [1] from by decide) rfl rfl (Res.eq (Res.three rfl (RV.cell agg33 siz33 rfl rfl rfl rfl) (RV.tmp rfl) (RV.tmp rfl)) (by rw [(show ([] : List F).length = 0 from rfl)] <;> rfl)) (SelL.arr0 (f := f32) (fun _ => rfl) rfl trivial)
   ·refine RunC.regionW ?_
    refine zl (r := agg (mXc a0 a1 a2)) (LOp.loadAgg agg33 siz33 rfl rfl rfl rfl) ?_
    refine ROps.d (r := b true) (fs := []) (Γ' := [⟨1, some zMx⟩, ⟨0, none⟩, ⟨0, none⟩, ⟨0, none⟩, ⟨0, none⟩]) rfl rfl rfl (TOp.eqb (TOp.callB (CallAs.func ent91 rfl rfl) (Bors.cons (Bor.agg (Bors.cons (Bor.pure rfl) (Bors.cons (Bor.pure rfl) (Bors.cons (Bor.sl (fun _ => rfl)) Bors.nil)))) Bors.nil) rfl rfl (i_isSquare_ok a0 a1 a2 r1 hf1)) hc2) rfl ?_
    refine zl (r := b false) (LOp.eqb (LOp.not rfl rfl) rfl) ?_
    refine zm (r := b false) ?_
    refine zm (r := f32 a3) ?_
    refine ROps.d (r := b true) (fs := []) (Γ' := [⟨1, some zMx⟩, ⟨0, none⟩, ⟨0, none⟩, ⟨0, none⟩, ⟨0, none⟩]) rfl rfl rfl (TOp.eqb (TOp.callB (CallAs.func ent80 rfl rfl) (Bors.cons (Bor.pure rfl) Bors.nil) rfl rfl (i_IsFinite_ok a3 r2 hf3)) hc4) rfl ?_
    refine zl (r := b false) (LOp.eqb (LOp.not rfl rfl) rfl) ?_
    refine zl (r := b false) (LOp.pick_false rfl rfl rfl) ?_
    refine zm (r := b false) ?_
    refine zm (r := f32 a3) ?_
    refine zl (r := b false) (LOp.eqb (LOp.fle rfl (OpF.tmp rfl) (OpF.const rfl (by kernel_rfl) (by kernel_rfl))) hc5) ?_
    refine zl (r := b false) (LOp.pick_false rfl rfl rfl) ?_
    refine zN ?_
    refine RunC.wl (τ' := [(1, f32 a3), (2, ptr (mXc a0 a1 a2)), (4, optr 0 1 0), (24, b false)]) (Γ' := [⟨1, some zMx⟩, ⟨0, none⟩, ⟨0, none⟩, ⟨0, none⟩, ⟨0, none⟩]) ⟨aR, aR, aR, aR, trivial⟩ ⟨⟨rfl, .inr rfl⟩, ⟨rfl, .inr rfl⟩, ⟨rfl, .inr rfl⟩, ⟨rfl, .inr rfl⟩, ⟨rfl, .inr rfl⟩, trivial⟩ ?_
    refine RunC.cond_false rfl rfl ?_
    refine RunC.skip ?_
    refine zQ ?_
    refine zl (r := f32 (some 0)) (LOp.le (LOp.assign rfl rfl) (ALe.fl (by kernel_rfl) (by kernel_rfl))) ?_
    refine zN ?_
    refine RunC.seq ?_
    refine zQ ?_
    refine zm (r := i64 0) ?_
    refine zN ?_
    obtain ⟨z6, hz_6, h⟩ := obind_some h
    refine RunC.cutN (fun τ Γ => ∃ (u31 : Nat) (u32 : Nat) (u33 : Nat) (u34 : Nat), WeakLe τ [(4, optr 0 1 0)] ∧ DeadLe Γ [⟨1, some zMx⟩, ⟨u31, none⟩, ⟨u32, none⟩, ⟨u33, none⟩, ⟨u34, none⟩] ∧ z6 = .inl ()) ?_ ?_
    ·refine RunC.block (RunC.loop (RunL.loopM (x := z6) (i_RootShifted_s5 a0 a1 a2 a3) (fun (s : F × Int) τ Γ => ∃ (u3 : Nat) (u4 : Nat) (u5 : Nat) (u6 : Nat), WeakLe τ [(1, f32 a3), (2, ptr (mXc a0 a1 a2)), (4, optr 0 1 0), (7, f32 s.1), (26, i64 s.2)] ∧ DeadLe Γ [⟨1, some zMx⟩, ⟨u3, none⟩, ⟨u4, none⟩, ⟨u5, none⟩, ⟨u6, none⟩]) ?_ _ _ _ hz_6 ⟨0, 0, 0, 0, ⟨aR, aR, aR, aR, aR, trivial⟩, ⟨⟨rfl, .inr rfl⟩, ⟨rfl, .inl rfl⟩, ⟨rfl, .inl rfl⟩, ⟨rfl, .inl rfl⟩, ⟨rfl, .inl rfl⟩, trivial⟩⟩))
     rintro ⟨y7, v8⟩ τ6 Γ6 y6_ ⟨u3, u4, u5, u6, hw6, hd6⟩ h6_ ho6 hr6
     refine RunC.wl (τ' := [(1, f32 a3), (2, ptr (mXc a0 a1 a2)), (4, optr 0 1 0), (7, f32 y7), (26, i64 v8)]) (Γ' := [⟨1, some zMx⟩, ⟨u3, none⟩, ⟨u4, none⟩, ⟨u5, none⟩, ⟨u6, none⟩]) hw6 hd6 ?_
     replace h6_ : i_RootShifted_b5 a0 a1 a2 a3 y7 v8 = some y6_ := h6_
     unfold i_RootShifted_b5 at h6_
     refine RunC.seq ?_
     rcases bsel_some h6_ with ⟨hc6, h6_⟩ | ⟨hc6, h6_⟩
     ·refine RunC.regionW ?_
      refine zl (r := b true) (LOp.eqb (LOp.lss rfl rfl rfl) hc6) ?_
      refine zN ?_
      refine RunC.seq ?_
      refine RunC.cond_true rfl rfl ?_
      refine RunC.skip ?_
      refine RunC.seq ?_
      refine RunC.cutN (fun τ Γ => ∃ (y29 : F), WeakLe τ [(1, f32 a3), (2, ptr (mXc a0 a1 a2)), (4, optr 0 1 0), (7, f32 y29), (26, i64 v8)] ∧ DeadLe Γ [⟨1, some zMx⟩, ⟨(u3 + 1), none⟩, ⟨(u4 + 1), none⟩, ⟨(u5 + 1), none⟩, ⟨(u6 + 1), none⟩] ∧ i_RootShifted_k4 v8 y29 = some y6_) ?_ ?_
      ·refine RunC.block ?_
       refine zQ ?_
       refine zm (r := i64 v8) ?_
       refine za (r := i64 v8) ?_
       refine zN ?_
       iterate 2 (refine RunC.seq ?_)
       obtain ⟨r9, hf7, h6_⟩ := obind_some h6_
       rcases bsel_some h6_ with ⟨hc8, h6_⟩ | ⟨hc8, h6_⟩
       ·refine RunC.regionW ?_
        refine zm (r := f32 y7) ?_
        refine ROps.d (r := b true) (fs := []) (Γ' := [⟨1, some zMx⟩, ⟨u3, none⟩, ⟨u4, none⟩, ⟨u5, none⟩, ⟨u6, none⟩]) rfl rfl rfl (TOp.eqb (TOp.callB (CallAs.func ent80 rfl rfl) (Bors.cons (Bor.pure rfl) Bors.nil) rfl rfl (i_IsFinite_ok y7 r9 hf7)) hc8) rfl ?_
        refine zl (r := b false) (LOp.eqb (LOp.not rfl rfl) rfl) ?_
        refine zN ?_
        refine RunC.cond_false rfl rfl ?_
        refine RunC.skip ?_
        refine RunC.seq ?_
        obtain ⟨r10, r11, r12, hf9, h6_⟩ := obind3_some h6_
        refine RunC.regionW ?_
        refine zl (r := agg (mXc a0 a1 a2)) (LOp.loadAgg agg33 siz33 rfl rfl rfl rfl) ?_
        refine ROps.d (r := agg [i64 r10, i64 r11, oref 1 (u3 + 1) 0 r12.length]) (fs := [(1, (r12.map f32))]) (Γ' := [⟨1, some zMx⟩, ⟨(u3 + 1), some (r12.map f32)⟩, ⟨u4, none⟩, ⟨u5, none⟩, ⟨u6, none⟩]) rfl rfl rfl (TOp.eqr (TOp.callBN (ls := [(r12.map f32)]) [1] (CallAs.func ent92 rfl rfl) (Bors.cons (Bor.agg (Bors.cons (Bor.pure rfl) (Bors.cons (Bor.pure rfl) (Bors.cons (Bor.sl (fun _ => rfl)) Bors.nil)))) Bors.nil) rfl (i_Matrix_clone_ok a0 a1 a2 r10 r11 r12 hf9) (and_all (lts0_map (f := f32) (fun _ => rfl) _) rfl) (and_all (noss_map (f := f32) (fun _ => rfl) _) rfl) rfl (by decide) (ns_of ⟨⟨_, rfl⟩, trivial⟩)) (by simp [ren, rens, sigma, newNames])) rfl ?_
        refine ROps.d (r := optr 2 (u4 + 1) 0) (fs := [(2, zMx)]) (Γ' := [⟨1, some zMx⟩, ⟨(u3 + 1), some (r12.map f32)⟩, ⟨(u4 + 1), some zMx⟩, ⟨u5, none⟩, ⟨u6, none⟩]) rfl rfl rfl (TOp.alloc_o (g := ⟨u4, none⟩) 2 rfl zer33 zok33 rfl) rfl ?_
        refine ROps.store_le (r := agg [i64 r10, i64 r11, oref 1 (u3 + 1) 0 r12.length]) (l' := [i64 r10, i64 r11, oref 1 (u3 + 1) 0 r12.length]) (Γ' := [⟨1, some zMx⟩, ⟨(u3 + 1), some (r12.map f32)⟩, ⟨(u4 + 1), some [i64 r10, i64 r11, oref 1 (u3 + 1) 0 r12.length]⟩, ⟨u5, none⟩, ⟨u6, none⟩]) rfl siz33 rfl rfl rfl aR rfl rfl rfl rfl (Nat.le_of_ble_eq_true rfl) rfl rfl ?_
        refine zN ?_
        refine RunC.seq ?_
        refine zQ ?_
        refine zl (r := ptr (mXc a0 a1 a2)) (LOp.fap und33 rfl siz2 rfl rfl rfl) ?_
        refine zl (r := i64 a0) (LOp.load1 agg2 rfl rfl) ?_
        refine zm (r := i64 0) ?_
        refine zN ?_
        obtain ⟨z7, hz_7, h6_⟩ := obind_some h6_
        refine RunC.cutN (fun τ Γ => ∃ (L22 : List F), L22.length = r12.length ∧ WeakLe τ [(1, f32 a3), (2, ptr (mXc a0 a1 a2)), (4, optr 0 1 0), (7, f32 y7), (8, i64 v8), (9, optr 2 (u4 + 1) 0), (26, i64 v8)] ∧ DeadLe Γ [⟨1, some zMx⟩, ⟨(u3 + 1), some (L22.map f32)⟩, ⟨(u4 + 1), some [i64 r10, i64 r11, oref 1 (u3 + 1) 0 r12.length]⟩, ⟨u5, none⟩, ⟨u6, none⟩] ∧ z7 = .inl L22) ?_ ?_
        ·refine RunC.block (RunC.loop (RunL.loopM (x := z7) (i_RootShifted_s3 a0 a1 a2 y7 r10 r11 r12) (fun (s : (List F) × Int) τ Γ => s.1.length = r12.length ∧ WeakLe τ [(1, f32 a3), (2, ptr (mXc a0 a1 a2)), (4, optr 0 1 0), (7, f32 y7), (8, i64 v8), (9, optr 2 (u4 + 1) 0), (26, i64 v8), (35, i64 a0), (36, i64 s.2)] ∧ DeadLe Γ [⟨1, some zMx⟩, ⟨(u3 + 1), some (s.1.map f32)⟩, ⟨(u4 + 1), some [i64 r10, i64 r11, oref 1 (u3 + 1) 0 r12.length]⟩, ⟨u5, none⟩, ⟨u6, none⟩]) ?_ _ _ _ hz_7 ⟨rfl, ⟨aR, aR, aR, aR, aR, aR, aR, aR, aR, trivial⟩, ⟨⟨rfl, .inr rfl⟩, ⟨rfl, .inr rfl⟩, ⟨rfl, .inr rfl⟩, ⟨rfl, .inl rfl⟩, ⟨rfl, .inl rfl⟩, trivial⟩⟩))
         rintro ⟨L13, v15⟩ τ7 Γ7 y7_ ⟨hl14, hw7, hd7⟩ h7_ ho7 hr7
         refine RunC.wl (τ' := [(1, f32 a3), (2, ptr (mXc a0 a1 a2)), (4, optr 0 1 0), (7, f32 y7), (8, i64 v8), (9, optr 2 (u4 + 1) 0), (26, i64 v8), (35, i64 a0), (36, i64 v15)]) (Γ' := [⟨1, some zMx⟩, ⟨(u3 + 1), some (L13.map f32)⟩, ⟨(u4 + 1), some [i64 r10, i64 r11, oref 1 (u3 + 1) 0 r12.length]⟩, ⟨u5, none⟩, ⟨u6, none⟩]) hw7 hd7 ?_
         replace hl14 : L13.length = r12.length := hl14
         replace h7_ : i_RootShifted_b3 a0 a1 a2 y7 r10 r11 r12 L13 v15 = some y7_ := h7_
         unfold i_RootShifted_b3 at h7_
         refine RunC.seq ?_
         rcases bsel_some h7_ with ⟨hc10, h7_⟩ | ⟨hc10, h7_⟩
         ·refine RunC.regionW ?_
          refine zl (r := b true) (LOp.eqb (LOp.lss rfl rfl rfl) hc10) ?_
          refine zN ?_
          refine RunC.seq ?_
          refine RunC.cond_true rfl rfl ?_
          refine RunC.skip ?_
          refine RunC.seq ?_
          refine RunC.block ?_
          refine zQ ?_
          refine zm (r := i64 v15) ?_
          refine za (r := i64 v15) ?_
          refine zN ?_
          obtain ⟨r18, hf13, h7_⟩ := obind_some h7_
          obtain ⟨x19, hx14, h7_⟩ := olet_some h7_
          obtain ⟨r20, hf15, h7_⟩ := obind_some h7_
          obtain ⟨hn16, h7_⟩ := need_some h7_
          refine RunC.region_draw (Γ' := [⟨1, some zMx⟩, ⟨(u3 + 1), some (L13.map f32)⟩, ⟨(u4 + 1), some [i64 r10, i64 r11, oref 1 (u3 + 1) 0 r12.length]⟩, ⟨u5, none⟩, ⟨u6, none⟩]) 9 mixed 
           (TR.d (r := agg [i64 r10, i64 r11, oref 1 (u3 + 1) 0 r12.length]) (fs := []) rfl rfl (TOp.loadAgg_o rfl agg33 siz33 rfl rfl rfl rfl) <|
           (TR.l (r := i64 v15) rfl rfl (LOp.move rfl rfl) <|
           (TR.l (r := i64 v15) rfl rfl (LOp.move rfl rfl) <|
           (TR.l (r := agg (mXc a0 a1 a2)) rfl rfl (LOp.loadAgg agg33 siz33 rfl rfl rfl rfl) <|
           (TR.l (r := i64 v15) rfl rfl (LOp.move rfl rfl) <|
           (TR.l (r := i64 v15) rfl rfl (LOp.move rfl rfl) <|
           (TR.d (r := f32 r18) (fs := []) rfl rfl (TOp.callB (CallAs.func ent94 rfl rfl) (Bors.cons (Bor.agg (Bors.cons (Bor.pure rfl) (Bors.cons (Bor.pure rfl) (Bors.cons (Bor.sl (fun _ => rfl)) Bors.nil)))) (Bors.cons (Bor.pure rfl) (Bors.cons (Bor.pure rfl) Bors.nil))) rfl rfl (i_Matrix_at_ok a0 a1 a2 v15 v15 r18 hf13)) <|
           (TR.l (r := f32 y7) rfl rfl (LOp.move rfl rfl) <|
           (TR.d (r := f32 x19) (fs := []) rfl rfl (TOp.eqr (TOp.fop (.inl rfl) rfl (OpF.tmp rfl) (OpF.tmp rfl)) (congrArg (f .f32) hx14)) <|
           TR.nil))))))))) rfl (by kernel_rfl) rfl fills_nil rfl ?_
          iterate 9 refine ROps.dropS ?_
          refine ROps.drop0 ?_
          refine ROps.callO (A := [agg [i64 r10, i64 r11, oref 1 (u3 + 1) 0 r12.length], i64 v15, i64 v15, f32 x19]) (args := [agg (oXc r10 r11 0 0 L13.length), i64 v15, i64 v15, f32 x19]) (Γc := [⟨0, some (L13.map f32)⟩]) (Γc' := [⟨0, some (r20.map f32)⟩]) (r' := tup []) (Γ' := [⟨1, some zMx⟩, ⟨(u3 + 1), some (r20.map f32)⟩, ⟨(u4 + 1), some [i64 r10, i64 r11, oref 1 (u3 + 1) 0 r12.length]⟩, ⟨u5, none⟩, ⟨u6, none⟩]) [(1, (u3 + 1))] [] rfl (CallAs.func ent93 rfl rfl) rfl rfl (SelOk.of (show List.Nodup [1] from by decide) (SelL.arr0 (f := f32) (fun _ => rfl) rfl trivial)) (live_of ⟨⟨_, _, rfl⟩, trivial⟩) (by simp [ren, rens, sigma, rens_f32, rens_f64, rens_i64, rens_ik, rens_str, rens_cp, hl14]) rfl (i_Matrix_set_02o_ok r10 r11 v15 v15 x19 L13 r20 hf15) rfl (news_of trivial) (show List.Nodup [1] from by decide) (by simp [ren, rens, sigma, of_decide_eq_true hn16]) (by simp [backOb, sigma, ren, rens, rens_f32, rens_f64, rens_i64, rens_ik, rens_str, rens_cp]) ?_
          refine zN ?_
          refine RunC.wl (τ' := [(1, f32 a3), (2, ptr (mXc a0 a1 a2)), (4, optr 0 1 0), (7, f32 y7), (8, i64 v8), (9, optr 2 (u4 + 1) 0), (26, i64 v8), (35, i64 a0), (36, i64 v15)]) (Γ' := [⟨1, some zMx⟩, ⟨(u3 + 1), some (r20.map f32)⟩, ⟨(u4 + 1), some [i64 r10, i64 r11, oref 1 (u3 + 1) 0 r12.length]⟩, ⟨u5, none⟩, ⟨u6, none⟩]) ⟨aR, aR, aR, aR, aR, aR, aR, aR, aR, trivial⟩ ⟨⟨rfl, .inr rfl⟩, ⟨rfl, .inr rfl⟩, ⟨rfl, .inr rfl⟩, ⟨rfl, .inl rfl⟩, ⟨rfl, .inl rfl⟩, trivial⟩ ?_
          obtain ⟨x21, hx17, h7_⟩ := olet_some h7_
          refine RunC.regionW ?_
          refine zl (r := i64 x21) (LOp.eqr (LOp.add rfl rfl rfl) (congrArg (ik .i64) hx17)) ?_
          refine zm (r := i64 x21) ?_
          refine zN ?_
          cases Option.some.inj h7_
          exact ⟨_, rfl, (of_decide_eq_true hn16), ⟨aR, aR, aR, aR, aR, aR, aR, aR, aR, trivial⟩, ⟨⟨rfl, .inr rfl⟩, ⟨rfl, .inr rfl⟩, ⟨rfl, .inr rfl⟩, ⟨rfl, .inl rfl⟩, ⟨rfl, .inl rfl⟩, trivial⟩⟩
         ·refine RunC.regionW ?_
          refine zl (r := b false) (LOp.eqb (LOp.lss rfl rfl rfl) hc10) ?_
          refine zN ?_
          refine RunC.seq ?_
          refine RunC.cond_false rfl rfl ?_
          refine RunC.exit ?_
          cases Option.some.inj h7_
          have hx := ho7 _ rfl
          exact ⟨L13, hl14, ⟨aR, aR, aR, aR, aR, aR, aR, trivial⟩, ⟨⟨rfl, .inr rfl⟩, ⟨rfl, .inr rfl⟩, ⟨rfl, .inr rfl⟩, ⟨rfl, .inl rfl⟩, ⟨rfl, .inl rfl⟩, trivial⟩, hx⟩
        ·rintro τ8 Γ8 ⟨L22, hl23, hw8, hd8, rfl⟩
         refine RunC.wl hw8 hd8 ?_
         replace h6_ : i_RootShifted_k3 a3 y7 v8 r10 r11 L22 = some y6_ := h6_
         unfold i_RootShifted_k3 at h6_
         iterate 2 (refine RunC.seq ?_)
         obtain ⟨r24, r25, r26, r27, hf18, h6_⟩ := obind4_some h6_
         rcases bsel_some h6_ with ⟨hc19, h6_⟩ | ⟨hc19, h6_⟩
         ·refine RunC.regionW ?_
          refine ROps.d (r := agg [i64 r10, i64 r11, oref 1 (u3 + 1) 0 r12.length]) (fs := []) (Γ' := [⟨1, some zMx⟩, ⟨(u3 + 1), some (L22.map f32)⟩, ⟨(u4 + 1), some [i64 r10, i64 r11, oref 1 (u3 + 1) 0 r12.length]⟩, ⟨u5, none⟩, ⟨u6, none⟩]) rfl rfl rfl (TOp.loadAgg_o rfl agg33 siz33 rfl rfl rfl rfl) rfl ?_
          refine ROps.d (r := tup [agg [i64 r24, i64 r25, oref 3 (u5 + 1) 0 r27.length], b r26]) (fs := [(3, (r27.map f32))]) (Γ' := [⟨1, some zMx⟩, ⟨(u3 + 1), some (L22.map f32)⟩, ⟨(u4 + 1), some [i64 r10, i64 r11, oref 1 (u3 + 1) 0 r12.length]⟩, ⟨(u5 + 1), some (r27.map f32)⟩, ⟨u6, none⟩]) rfl rfl rfl (TOp.eqr (TOp.callBN (ls := [(r27.map f32)]) [3] (CallAs.func ent44 rfl rfl) (Bors.cons (Bor.agg (Bors.cons (Bor.pure rfl) (Bors.cons (Bor.pure rfl) (Bors.cons (Bor.own (f := f32) (fun _ => rfl) rfl hl23) Bors.nil)))) Bors.nil) rfl (i_RootOfSquare_ok r10 r11 L22 r24 r25 r26 r27 hf18) (and_all (lts0_map (f := f32) (fun _ => rfl) _) rfl) (and_all (noss_map (f := f32) (fun _ => rfl) _) rfl) rfl (by decide) (ns_of ⟨⟨_, rfl⟩, trivial⟩)) (by simp [ren, rens, sigma, newNames])) rfl ?_
          refine zm (r := tup [agg [i64 r24, i64 r25, oref 3 (u5 + 1) 0 r27.length], b r26]) ?_
          refine zl (r := agg [i64 r24, i64 r25, oref 3 (u5 + 1) 0 r27.length]) (LOp.extract rfl rfl rfl) ?_
          refine zl (r := b true) (LOp.eqb (LOp.extract rfl rfl rfl) hc19) ?_
          refine ROps.d (r := optr 4 (u6 + 1) 0) (fs := [(4, zMx)]) (Γ' := [⟨1, some zMx⟩, ⟨(u3 + 1), some (L22.map f32)⟩, ⟨(u4 + 1), some [i64 r10, i64 r11, oref 1 (u3 + 1) 0 r12.length]⟩, ⟨(u5 + 1), some (r27.map f32)⟩, ⟨(u6 + 1), some zMx⟩]) rfl rfl rfl (TOp.alloc_o (g := ⟨u6, none⟩) 4 rfl zer33 zok33 rfl) rfl ?_
          refine ROps.store_le (r := agg [i64 r24, i64 r25, oref 3 (u5 + 1) 0 r27.length]) (l' := [i64 r24, i64 r25, oref 3 (u5 + 1) 0 r27.length]) (Γ' := [⟨1, some zMx⟩, ⟨(u3 + 1), some (L22.map f32)⟩, ⟨(u4 + 1), some [i64 r10, i64 r11, oref 1 (u3 + 1) 0 r12.length]⟩, ⟨(u5 + 1), some (r27.map f32)⟩, ⟨(u6 + 1), some [i64 r24, i64 r25, oref 3 (u5 + 1) 0 r27.length]⟩]) rfl siz33 rfl rfl rfl aR rfl rfl rfl rfl (Nat.le_of_ble_eq_true rfl) rfl rfl ?_
          refine za (r := b true) ?_
          refine zN ?_
          refine RunC.wl (τ' := [(1, f32 a3), (2, ptr (mXc a0 a1 a2)), (4, optr 0 1 0), (7, f32 y7), (8, i64 v8), (11, optr 4 (u6 + 1) 0), (12, b true), (26, i64 v8)]) (Γ' := [⟨1, some zMx⟩, ⟨(u3 + 1), none⟩, ⟨(u4 + 1), none⟩, ⟨(u5 + 1), some (r27.map f32)⟩, ⟨(u6 + 1), some [i64 r24, i64 r25, oref 3 (u5 + 1) 0 r27.length]⟩]) ⟨aR, aR, aR, aR, aR, aR, aR, aR, trivial⟩ ⟨⟨rfl, .inr rfl⟩, ⟨rfl, .inl rfl⟩, ⟨rfl, .inl rfl⟩, ⟨rfl, .inr rfl⟩, ⟨rfl, .inr rfl⟩, trivial⟩ ?_
          refine zQ ?_
          refine zm (r := b true) ?_
          refine zN ?_
          refine RunC.cond_true rfl rfl ?_
          refine zQ ?_
          refine ROps.d (r := agg [i64 r24, i64 r25, oref 3 (u5 + 1) 0 r27.length]) (fs := []) (Γ' := [⟨1, some zMx⟩, ⟨(u3 + 1), none⟩, ⟨(u4 + 1), none⟩, ⟨(u5 + 1), some (r27.map f32)⟩, ⟨(u6 + 1), some [i64 r24, i64 r25, oref 3 (u5 + 1) 0 r27.length]⟩]) rfl rfl rfl (TOp.loadAgg_o rfl agg33 siz33 rfl rfl rfl rfl) rfl ?_
          refine zm (r := f32 y7) ?_
          refine ROps.store_le (r := agg [i64 r24, i64 r25, oref 3 (u5 + 1) 0 r27.length]) (l' := [i64 r24, i64 r25, oref 3 (u5 + 1) 0 r27.length]) (Γ' := [⟨1, some [i64 r24, i64 r25, oref 3 (u5 + 1) 0 r27.length]⟩, ⟨(u3 + 1), none⟩, ⟨(u4 + 1), none⟩, ⟨(u5 + 1), some (r27.map f32)⟩, ⟨(u6 + 1), some [i64 r24, i64 r25, oref 3 (u5 + 1) 0 r27.length]⟩]) rfl siz33 rfl rfl rfl aR rfl rfl rfl rfl (Nat.le_of_ble_eq_true rfl) rfl rfl ?_
          refine za (r := f32 y7) ?_
          refine za (r := b true) ?_
          refine zN ?_
          refine RunC.ret ?_
          cases Option.some.inj h6_
          have hx9_ := hr6 _ rfl
          subst hx9_
          have hq := Option.some.inj h
          obtain ⟨hq0, hq⟩ := Prod.mk.inj hq
          obtain ⟨hq1, hq⟩ := Prod.mk.inj hq
          obtain ⟨hq2, hq⟩ := Prod.mk.inj hq
          obtain ⟨hq3, hq⟩ := Prod.mk.inj hq
          subst q0
          subst q1
          subst q2
          subst q3
          subst q4
          exact bodyQ.mk (r' := tup [agg [i64 r24, i64 r25, oref 3 (u5 + 1) 0 r27.length], f32 y7, b true]) [(3, (u5 + 1))] (.inr rfl) rfl (show List.Nodup [3] from by decide) (by simp [ren, rens, sigma]) rfl (Res.three rfl (RV.cell agg33 siz33 rfl rfl rfl rfl) (RV.tmp rfl) (RV.tmp rfl)) (SelL.arr0 (f := f32) (fun _ => rfl) rfl trivial)
         ·refine RunC.regionW ?_
          refine ROps.d (r := agg [i64 r10, i64 r11, oref 1 (u3 + 1) 0 r12.length]) (fs := []) (Γ' := [⟨1, some zMx⟩, ⟨(u3 + 1), some (L22.map f32)⟩, ⟨(u4 + 1), some [i64 r10, i64 r11, oref 1 (u3 + 1) 0 r12.length]⟩, ⟨u5, none⟩, ⟨u6, none⟩]) rfl rfl rfl (TOp.loadAgg_o rfl agg33 siz33 rfl rfl rfl rfl) rfl ?_
          refine ROps.d (r := tup [agg [i64 r24, i64 r25, oref 3 (u5 + 1) 0 r27.length], b r26]) (fs := [(3, (r27.map f32))]) (Γ' := [⟨1, some zMx⟩, ⟨(u3 + 1), some (L22.map f32)⟩, ⟨(u4 + 1), some [i64 r10, i64 r11, oref 1 (u3 + 1) 0 r12.length]⟩, ⟨(u5 + 1), some (r27.map f32)⟩, ⟨u6, none⟩]) rfl rfl rfl (TOp.eqr (TOp.callBN (ls := [(r27.map f32)]) [3] (CallAs.func ent44 rfl rfl) (Bors.cons (Bor.agg (Bors.cons (Bor.pure rfl) (Bors.cons (Bor.pure rfl) (Bors.cons (Bor.own (f := f32) (fun _ => rfl) rfl hl23) Bors.nil)))) Bors.nil) rfl (i_RootOfSquare_ok r10 r11 L22 r24 r25 r26 r27 hf18) (and_all (lts0_map (f := f32) (fun _ => rfl) _) rfl) (and_all (noss_map (f := f32) (fun _ => rfl) _) rfl) rfl (by decide) (ns_of ⟨⟨_, rfl⟩, trivial⟩)) (by simp [ren, rens, sigma, newNames])) rfl ?_
          refine zm (r := tup [agg [i64 r24, i64 r25, oref 3 (u5 + 1) 0 r27.length], b r26]) ?_
          refine zl (r := agg [i64 r24, i64 r25, oref 3 (u5 + 1) 0 r27.length]) (LOp.extract rfl rfl rfl) ?_
          refine zl (r := b false) (LOp.eqb (LOp.extract rfl rfl rfl) hc19) ?_
          refine ROps.d (r := optr 4 (u6 + 1) 0) (fs := [(4, zMx)]) (Γ' := [⟨1, some zMx⟩, ⟨(u3 + 1), some (L22.map f32)⟩, ⟨(u4 + 1), some [i64 r10, i64 r11, oref 1 (u3 + 1) 0 r12.length]⟩, ⟨(u5 + 1), some (r27.map f32)⟩, ⟨(u6 + 1), some zMx⟩]) rfl rfl rfl (TOp.alloc_o (g := ⟨u6, none⟩) 4 rfl zer33 zok33 rfl) rfl ?_
          refine ROps.store_le (r := agg [i64 r24, i64 r25, oref 3 (u5 + 1) 0 r27.length]) (l' := [i64 r24, i64 r25, oref 3 (u5 + 1) 0 r27.length]) (Γ' := [⟨1, some zMx⟩, ⟨(u3 + 1), some (L22.map f32)⟩, ⟨(u4 + 1), some [i64 r10, i64 r11, oref 1 (u3 + 1) 0 r12.length]⟩, ⟨(u5 + 1), some (r27.map f32)⟩, ⟨(u6 + 1), some [i64 r24, i64 r25, oref 3 (u5 + 1) 0 r27.length]⟩]) rfl siz33 rfl rfl rfl aR rfl rfl rfl rfl (Nat.le_of_ble_eq_true rfl) rfl rfl ?_
          refine za (r := b false) ?_
          refine zN ?_
          refine RunC.wl (τ' := [(1, f32 a3), (2, ptr (mXc a0 a1 a2)), (4, optr 0 1 0), (7, f32 y7), (8, i64 v8), (11, optr 4 (u6 + 1) 0), (12, b false), (26, i64 v8)]) (Γ' := [⟨1, some zMx⟩, ⟨(u3 + 1), none⟩, ⟨(u4 + 1), none⟩, ⟨(u5 + 1), some (r27.map f32)⟩, ⟨(u6 + 1), some [i64 r24, i64 r25, oref 3 (u5 + 1) 0 r27.length]⟩]) ⟨aR, aR, aR, aR, aR, aR, aR, aR, trivial⟩ ⟨⟨rfl, .inr rfl⟩, ⟨rfl, .inl rfl⟩, ⟨rfl, .inl rfl⟩, ⟨rfl, .inr rfl⟩, ⟨rfl, .inr rfl⟩, trivial⟩ ?_
          refine zQ ?_
          refine zm (r := b false) ?_
          refine zN ?_
          refine RunC.cond_false rfl rfl ?_
          refine RunC.skip ?_
          refine RunC.wl (τ' := [(1, f32 a3), (2, ptr (mXc a0 a1 a2)), (4, optr 0 1 0), (7, f32 y7), (8, i64 v8), (26, i64 v8)]) (Γ' := [⟨1, some zMx⟩, ⟨(u3 + 1), none⟩, ⟨(u4 + 1), none⟩, ⟨(u5 + 1), none⟩, ⟨(u6 + 1), none⟩]) ⟨aR, aR, aR, aR, aR, aR, trivial⟩ ⟨⟨rfl, .inr rfl⟩, ⟨rfl, .inl rfl⟩, ⟨rfl, .inl rfl⟩, ⟨rfl, .inl rfl⟩, ⟨rfl, .inl rfl⟩, trivial⟩ ?_
          refine RunC.seq ?_
          obtain ⟨r28, hf20, h6_⟩ := obind_some h6_
          refine RunC.regionW ?_
          refine zm (r := f32 y7) ?_
          refine ROps.d (r := f32 r28) (fs := []) (Γ' := [⟨1, some zMx⟩, ⟨(u3 + 1), none⟩, ⟨(u4 + 1), none⟩, ⟨(u5 + 1), none⟩, ⟨(u6 + 1), none⟩]) rfl rfl rfl (TOp.callB (CallAs.func ent76 rfl rfl) (Bors.cons (Bor.le (ALe.fl (by kernel_rfl) (by kernel_rfl)) (Bor.pure rfl)) (Bors.cons (Bor.pure rfl) Bors.nil)) rfl rfl (i_mul_ok (some 1073741824) y7 r28 hf20)) rfl ?_
          refine za (r := f32 r28) ?_
          refine zN ?_
          refine RunC.seq ?_
          rcases bsel_some h6_ with ⟨hc21, h6_⟩ | ⟨hc21, h6_⟩
          ·refine RunC.regionW ?_
           refine zm (r := i64 v8) ?_
           refine zl (r := b true) (LOp.eqb (LOp.eql rfl rfl rfl) hc21) ?_
           refine zN ?_
           refine RunC.cond_true rfl rfl ?_
           refine RunC.regionW ?_
           refine zm (r := f32 a3) ?_
           refine za (r := f32 a3) ?_
           refine zN ?_
           exact ⟨a3, ⟨aR, aR, aR, aR, aR, trivial⟩, ⟨⟨rfl, .inr rfl⟩, ⟨rfl, .inl rfl⟩, ⟨rfl, .inl rfl⟩, ⟨rfl, .inl rfl⟩, ⟨rfl, .inl rfl⟩, trivial⟩, h6_⟩
          ·refine RunC.regionW ?_
           refine zm (r := i64 v8) ?_
           refine zl (r := b false) (LOp.eqb (LOp.eql rfl rfl rfl) hc21) ?_
           refine zN ?_
           refine RunC.cond_false rfl rfl ?_
           refine RunC.skip ?_
           exact ⟨r28, ⟨aR, aR, aR, aR, aR, trivial⟩, ⟨⟨rfl, .inr rfl⟩, ⟨rfl, .inl rfl⟩, ⟨rfl, .inl rfl⟩, ⟨rfl, .inl rfl⟩, ⟨rfl, .inl rfl⟩, trivial⟩, h6_⟩
       ·refine RunC.regionW ?_
        refine zm (r := f32 y7) ?_
        refine ROps.d (r := b false) (fs := []) (Γ' := [⟨1, some zMx⟩, ⟨u3, none⟩, ⟨u4, none⟩, ⟨u5, none⟩, ⟨u6, none⟩]) rfl rfl rfl (TOp.eqb (TOp.callB (CallAs.func ent80 rfl rfl) (Bors.cons (Bor.pure rfl) Bors.nil) rfl rfl (i_IsFinite_ok y7 r9 hf7)) hc8) rfl ?_
        refine zl (r := b true) (LOp.eqb (LOp.not rfl rfl) rfl) ?_
        refine zN ?_
        refine RunC.cond_true rfl rfl ?_
        refine RunC.exit ?_
        cases Option.some.inj h6_
        have hx := ho6 _ rfl
        exact ⟨u3, u4, u5, u6, ⟨aR, trivial⟩, ⟨⟨rfl, .inr rfl⟩, ⟨rfl, .inl rfl⟩, ⟨rfl, .inl rfl⟩, ⟨rfl, .inl rfl⟩, ⟨rfl, .inl rfl⟩, trivial⟩, hx⟩
      ·rintro τ10 Γ10 ⟨y29, hw10, hd10, h6_⟩
       refine RunC.wl hw10 hd10 ?_
       unfold i_RootShifted_k4 at h6_
       obtain ⟨x30, hx22, h6_⟩ := olet_some h6_
       refine RunC.regionW ?_
       refine zl (r := i64 x30) (LOp.eqr (LOp.add rfl rfl rfl) (congrArg (ik .i64) hx22)) ?_
       refine zm (r := i64 x30) ?_
       refine zN ?_
       cases Option.some.inj h6_
       exact ⟨_, rfl, (u3 + 1), (u4 + 1), (u5 + 1), (u6 + 1), ⟨aR, aR, aR, aR, aR, trivial⟩, ⟨⟨rfl, .inr rfl⟩, ⟨rfl, .inl rfl⟩, ⟨rfl, .inl rfl⟩, ⟨rfl, .inl rfl⟩, ⟨rfl, .inl rfl⟩, trivial⟩⟩
     ·refine RunC.regionW ?_
      refine zl (r := b false) (LOp.eqb (LOp.lss rfl rfl rfl) hc6) ?_
      refine zN ?_
      refine RunC.seq ?_
      refine RunC.cond_false rfl rfl ?_
      refine RunC.exit ?_
      cases Option.some.inj h6_
      have hx := ho6 _ rfl
      exact ⟨u3, u4, u5, u6, ⟨aR, trivial⟩, ⟨⟨rfl, .inr rfl⟩, ⟨rfl, .inl rfl⟩, ⟨rfl, .inl rfl⟩, ⟨rfl, .inl rfl⟩, ⟨rfl, .inl rfl⟩, trivial⟩, hx⟩
    ·rintro τ11 Γ11 ⟨u31, u32, u33, u34, hw11, hd11, rfl⟩
     refine RunC.wl hw11 hd11 ?_
     replace h : i_RootShifted_k5 = some (q0, q1, q2, q3, q4) := h
     unfold i_RootShifted_k5 at h
     refine zQ ?_
     refine zl (r := agg zMx) (LOp.build (qs := []) zer33 zok33 und33 plc33 rfl trivial rfl) ?_
     refine ROps.store_le (r := agg zMx) (l' := zMx) (Γ' := [⟨1, some zMx⟩, ⟨u31, none⟩, ⟨u32, none⟩, ⟨u33, none⟩, ⟨u34, none⟩]) rfl siz33 rfl rfl rfl aR rfl rfl rfl rfl (Nat.le_of_ble_eq_true rfl) rfl rfl ?_
     refine zl (r := f32 (some 0)) (LOp.le (LOp.assign rfl rfl) (ALe.fl (by kernel_rfl) (by kernel_rfl))) ?_
     refine za (r := b false) ?_
     refine zN ?_
     refine RunC.nil_cell (l' := [i64 0, i64 0, oref 1 (u31 + 1) 0 0]) (Γ' := [⟨1, some [i64 0, i64 0, oref 1 (u31 + 1) 0 0]⟩, ⟨(u31 + 1), some (([] : List F).map f32)⟩, ⟨u32, none⟩, ⟨u33, none⟩, ⟨u34, none⟩]) 0 2 1 rfl rfl rfl rfl rfl ?_
     refine RunC.ret ?_
     have hq := Option.some.inj h
     obtain ⟨hq0, hq⟩ := Prod.mk.inj hq
     obtain ⟨hq1, hq⟩ := Prod.mk.inj hq
     obtain ⟨hq2, hq⟩ := Prod.mk.inj hq
     obtain ⟨hq3, hq⟩ := Prod.mk.inj hq
     subst q0
     subst q1
     subst q2
     subst q3
     subst q4
     exact bodyQ.mk (r' := tup [agg [i64 0, i64 0, oref 1 (u31 + 1) 0 (([] : List F).length)], f32 (some 0), b false]) [(1, (u31 + 1))] (.inr rfl) rfl (show List.Nodup [1] from by decide) (by simp [ren, rens, sigma]) rfl (Res.eq (Res.three rfl (RV.cell agg33 siz33 rfl rfl rfl rfl) (RV.tmp rfl) (RV.tmp rfl)) (by rw [(show ([] : List F).length = 0 from rfl)] <;> rfl)) (SelL.arr0 (f := f32) (fun _ => rfl) rfl trivial)
  ·refine RunC.regionW ?_
   refine zl (r := agg (mXc a0 a1 a2)) (LOp.loadAgg agg33 siz33 rfl rfl rfl rfl) ?_
   refine ROps.d (r := b true) (fs := []) (Γ' := [⟨1, some zMx⟩, ⟨0, none⟩, ⟨0, none⟩, ⟨0, none⟩, ⟨0, none⟩]) rfl rfl rfl (TOp.eqb (TOp.callB (CallAs.func ent91 rfl rfl) (Bors.cons (Bor.agg (Bors.cons (Bor.pure rfl) (Bors.cons (Bor.pure rfl) (Bors.cons (Bor.sl (fun _ => rfl)) Bors.nil)))) Bors.nil) rfl rfl (i_isSquare_ok a0 a1 a2 r1 hf1)) hc2) rfl ?_
   refine zl (r := b false) (LOp.eqb (LOp.not rfl rfl) rfl) ?_
   refine zm (r := b false) ?_
   refine zm (r := f32 a3) ?_
   refine ROps.d (r := b false) (fs := []) (Γ' := [⟨1, some zMx⟩, ⟨0, none⟩, ⟨0, none⟩, ⟨0, none⟩, ⟨0, none⟩]) rfl rfl rfl (TOp.eqb (TOp.callB (CallAs.func ent80 rfl rfl) (Bors.cons (Bor.pure rfl) Bors.nil) rfl rfl (i_IsFinite_ok a3 r2 hf3)) hc4) rfl ?_
   refine zl (r := b true) (LOp.eqb (LOp.not rfl rfl) rfl) ?_
   refine zl (r := b true) (LOp.pick_false rfl rfl rfl) ?_
   refine zm (r := b true) ?_
   iterate 2 (refine ROps.s rfl rfl rfl ?_)
   refine zl (r := b true) (LOp.pick_true rfl rfl rfl) ?_
   refine zN ?_
   refine RunC.wl (τ' := [(1, f32 a3), (2, ptr (mXc a0 a1 a2)), (4, optr 0 1 0), (24, b true)]) (Γ' := [⟨1, some zMx⟩, ⟨0, none⟩, ⟨0, none⟩, ⟨0, none⟩, ⟨0, none⟩]) ⟨aR, aR, aR, aR, trivial⟩ ⟨⟨rfl, .inr rfl⟩, ⟨rfl, .inr rfl⟩, ⟨rfl, .inr rfl⟩, ⟨rfl, .inr rfl⟩, ⟨rfl, .inr rfl⟩, trivial⟩ ?_
   refine RunC.cond_true rfl rfl ?_
   refine zQ ?_
   refine zl (r := agg zMx) (LOp.build (qs := []) zer33 zok33 und33 plc33 rfl trivial rfl) ?_
   refine ROps.store_le (r := agg zMx) (l' := zMx) (Γ' := [⟨1, some zMx⟩, ⟨0, none⟩, ⟨0, none⟩, ⟨0, none⟩, ⟨0, none⟩]) rfl siz33 rfl rfl rfl aR rfl rfl rfl rfl (Nat.le_of_ble_eq_true rfl) rfl rfl ?_
   refine zl (r := f32 (some 0)) (LOp.le (LOp.assign rfl rfl) (ALe.fl (by kernel_rfl) (by kernel_rfl))) ?_
   refine za (r := b false) ?_
   refine zN ?_
   refine RunC.nil_cell (l' := [i64 0, i64 0, oref 1 1 0 0]) (Γ' := [⟨1, some [i64 0, i64 0, oref 1 1 0 0]⟩, ⟨1, some (([] : List F).map f32)⟩, ⟨0, none⟩, ⟨0, none⟩, ⟨0, none⟩]) 0 2 1 rfl rfl rfl rfl rfl ?_
   refine RunC.ret ?_
   have hq := Option.some.inj h
   obtain ⟨hq0, hq⟩ := Prod.mk.inj hq
   obtain ⟨hq1, hq⟩ := Prod.mk.inj hq
   obtain ⟨hq2, hq⟩ := Prod.mk.inj hq
   obtain ⟨hq3, hq⟩ := Prod.mk.inj hq
   subst q0
   subst q1
   subst q2
   subst q3
   subst q4
   exact bodyQ.mk (r' := tup [agg [i64 0, i64 0, oref 1 1 0 (([] : List F).length)], f32 (some 0), b false]) [(1, 1)] (.inr rfl) rfl (show List.Nodup [1] from by decide) rfl rfl (Res.eq (Res.three rfl (RV.cell agg33 siz33 rfl rfl rfl rfl) (RV.tmp rfl) (RV.tmp rfl)) (by rw [(show ([] : List F).length = 0 from rfl)] <;> rfl)) (SelL.arr0 (f := f32) (fun _ => rfl) rfl trivial)
 ·refine RunC.regionW ?_
  refine zl (r := agg (mXc a0 a1 a2)) (LOp.loadAgg agg33 siz33 rfl rfl rfl rfl) ?_
  refine ROps.d (r := b false) (fs := []) (Γ' := [⟨1, some zMx⟩, ⟨0, none⟩, ⟨0, none⟩, ⟨0, none⟩, ⟨0, none⟩]) rfl rfl rfl (TOp.eqb (TOp.callB (CallAs.func ent91 rfl rfl) (Bors.cons (Bor.agg (Bors.cons (Bor.pure rfl) (Bors.cons (Bor.pure rfl) (Bors.cons (Bor.sl (fun _ => rfl)) Bors.nil)))) Bors.nil) rfl rfl (i_isSquare_ok a0 a1 a2 r1 hf1)) hc2) rfl ?_
  refine zl (r := b true) (LOp.eqb (LOp.not rfl rfl) rfl) ?_
  refine zm (r := b true) ?_
  iterate 3 (refine ROps.s rfl rfl rfl ?_)
  refine zl (r := b true) (LOp.pick_true rfl rfl rfl) ?_
  refine zm (r := b true) ?_
  iterate 2 (refine ROps.s rfl rfl rfl ?_)
  refine zl (r := b true) (LOp.pick_true rfl rfl rfl) ?_
  refine zN ?_
  refine RunC.wl (τ' := [(1, f32 a3), (2, ptr (mXc a0 a1 a2)), (4, optr 0 1 0), (24, b true)]) (Γ' := [⟨1, some zMx⟩, ⟨0, none⟩, ⟨0, none⟩, ⟨0, none⟩, ⟨0, none⟩]) ⟨aR, aR, aR, aR, trivial⟩ ⟨⟨rfl, .inr rfl⟩, ⟨rfl, .inr rfl⟩, ⟨rfl, .inr rfl⟩, ⟨rfl, .inr rfl⟩, ⟨rfl, .inr rfl⟩, trivial⟩ ?_
  refine RunC.cond_true rfl rfl ?_
  refine zQ ?_
  refine zl (r := agg zMx) (LOp.build (qs := []) zer33 zok33 und33 plc33 rfl trivial rfl) ?_
  refine ROps.store_le (r := agg zMx) (l' := zMx) (Γ' := [⟨1, some zMx⟩, ⟨0, none⟩, ⟨0, none⟩, ⟨0, none⟩, ⟨0, none⟩]) rfl siz33 rfl rfl rfl aR rfl rfl rfl rfl (Nat.le_of_ble_eq_true rfl) rfl rfl ?_
  refine zl (r := f32 (some 0)) (LOp.le (LOp.assign rfl rfl) (ALe.fl (by kernel_rfl) (by kernel_rfl))) ?_
  refine za (r := b false) ?_
  refine zN ?_
  refine RunC.nil_cell (l' := [i64 0, i64 0, oref 1 1 0 0]) (Γ' := [⟨1, some [i64 0, i64 0, oref 1 1 0 0]⟩, ⟨1, some (([] : List F).map f32)⟩, ⟨0, none⟩, ⟨0, none⟩, ⟨0, none⟩]) 0 2 1 rfl rfl rfl rfl rfl ?_
  refine RunC.ret ?_
  have hq := Option.some.inj h
  obtain ⟨hq0, hq⟩ := Prod.mk.inj hq
  obtain ⟨hq1, hq⟩ := Prod.mk.inj hq
  obtain ⟨hq2, hq⟩ := Prod.mk.inj hq
  obtain ⟨hq3, hq⟩ := Prod.mk.inj hq
  subst q0
  subst q1
  subst q2
  subst q3
  subst q4
  exact bodyQ.mk (r' := tup [agg [i64 0, i64 0, oref 1 1 0 (([] : List F).length)], f32 (some 0), b false]) [(1, 1)] (.inr rfl) rfl (show List.Nodup [1] from by decide) rfl rfl (Res.eq (Res.three rfl (RV.cell agg33 siz33 rfl rfl rfl rfl) (RV.tmp rfl) (RV.tmp rfl)) (by rw [(show ([] : List F).length = 0 from rfl)] <;> rfl)) (SelL.arr0 (f := f32) (fun _ => rfl) rfl trivial)
noncomputable def s_l01Bits (a0 : F) : Option (Int) :=
 bsel (!feq .f32 a0 a0) (
  some 2143289344) (
  obind (a0) fun (b1 : Nat) =>
  olet (IntKind.i64.wrap (b1 : Int)) fun (x2 : Int) =>
  some x2)
theorem s_l01Bits_ok (a0 : F) (q0 : Int) (h : s_l01Bits a0 = some q0) : Ev Try.prog 175 [f32 a0] [] (i64 q0) [] := by
 refine Ev.start Try.func175 rfl rfl 0 (τ := [(0, f32 a0)]) rfl (Γ' := []) rfl (n := 19) rfl (g := 0) rfl (fun _ => rfl) ?_
 unfold s_l01Bits at h
 refine zQ ?_
 refine za (r := i64 0) ?_
 refine zN ?_
 iterate 2 (refine RunC.seq ?_)
 rcases bsel_some h with ⟨hc1, h⟩ | ⟨hc1, h⟩
 ·refine RunC.regionW ?_
  iterate 2 (refine zm (r := f32 a0) ?_)
  refine zl (r := b true) (LOp.eqb (LOp.fne rfl (OpF.tmp rfl) (OpF.tmp rfl)) hc1) ?_
  refine zN ?_
  refine RunC.cond_true rfl rfl ?_
  refine zQ ?_
  refine za (r := i64 2143289344) ?_
  refine zN ?_
  refine RunC.ret ?_
  have hq := Option.some.inj h
  subst q0
  exact bodyQ.pure (.inr rfl) rfl (Res.one rfl (RV.tmp rfl))
 ·refine RunC.regionW ?_
  iterate 2 (refine zm (r := f32 a0) ?_)
  refine zl (r := b false) (LOp.eqb (LOp.fne rfl (OpF.tmp rfl) (OpF.tmp rfl)) hc1) ?_
  refine zN ?_
  refine RunC.cond_false rfl rfl ?_
  refine RunC.skip ?_
  refine RunC.seq ?_
  obtain ⟨b1, he2, h⟩ := obind_some h
  obtain ⟨x2, hx3, h⟩ := olet_some h
  refine RunC.regionW ?_
  refine zm (r := f32 a0) ?_
  refine zl (r := ik .u32 (b1 : Int)) (LOp.fbx ext182 rfl (OpF.tmp rfl) he2) ?_
  refine zl (r := i64 x2) (LOp.eqr (LOp.i2i (src := 155) (dst := 2) ⟨_, pun155⟩ pun2 rfl rfl) (congrArg (ik .i64) hx3)) ?_
  refine za (r := i64 x2) ?_
  refine zN ?_
  refine RunC.ret ?_
  have hq := Option.some.inj h
  subst q0
  exact bodyQ.pure (.inr rfl) rfl (Res.one rfl (RV.tmp rfl))
noncomputable def s_l01Same (a0 : F) (a1 : F) : Option (Bool) :=
 obind (s_l01Bits a0) fun (r1 : Int) =>
 obind (s_l01Bits a1) fun (r2 : Int) =>
 some (decide (r1 = r2))
theorem s_l01Same_ok (a0 : F) (a1 : F) (q0 : Bool) (h : s_l01Same a0 a1 = some q0) : Ev Try.prog 147 [f32 a0, f32 a1] [] (b q0) [] := by
 refine Ev.start Try.func147 rfl rfl 0 (τ := [(0, f32 a0), (1, f32 a1)]) rfl (Γ' := []) rfl (n := 21) rfl (g := 0) rfl (fun _ => rfl) ?_
 unfold s_l01Same at h
 refine zQ ?_
 refine za (r := b false) ?_
 refine zN ?_
 refine RunC.seq ?_
 obtain ⟨r1, hf1, h⟩ := obind_some h
 obtain ⟨r2, hf2, h⟩ := obind_some h
 refine RunC.regionW ?_
 refine zm (r := f32 a0) ?_
 refine ROps.d (r := i64 r1) (fs := []) (Γ' := []) rfl rfl rfl (TOp.callB (CallAs.func ent175 rfl rfl) (Bors.cons (Bor.pure rfl) Bors.nil) rfl rfl (s_l01Bits_ok a0 r1 hf1)) rfl ?_
 refine zm (r := f32 a1) ?_
 refine ROps.d (r := i64 r2) (fs := []) (Γ' := []) rfl rfl rfl (TOp.callB (CallAs.func ent175 rfl rfl) (Bors.cons (Bor.pure rfl) Bors.nil) rfl rfl (s_l01Bits_ok a1 r2 hf2)) rfl ?_
 refine zl (r := b (decide (r1 = r2))) (LOp.eql rfl rfl rfl) ?_
 refine za (r := b (decide (r1 = r2))) ?_
 refine zN ?_
 refine RunC.ret ?_
 have hq := Option.some.inj h
 subst q0
 exact bodyQ.pure (.inr rfl) rfl (Res.one rfl (RV.tmp rfl))
noncomputable def s_l01SameAll_b1 (a0 : List F) (a1 : List F) (v1 : Int) : Option (LR (Int) (Unit) (Bool)) :=
 bsel (decide (v1 < (a0.length : Int))) (
  obind (at? a0 v1) fun (e2 : F) =>
  obind (at? a1 v1) fun (e3 : F) =>
  obind (s_l01Same e2 e3) fun (r4 : Bool) =>
  bsel r4 (
   olet (IntKind.i64.wrap (v1 + 1)) fun (x5 : Int) =>
   some (LR.next x5)) (
   some (LR.ret false))) (
  some (LR.out ()))
noncomputable def s_l01SameAll_s1 (a0 : List F) (a1 : List F) : (Int) → Option (LR (Int) (Unit) (Bool)) := fun s => s_l01SameAll_b1 a0 a1 s
noncomputable def s_l01SameAll_k1  : Option (Bool) :=
 some true
noncomputable def s_l01SameAll (a0 : List F) (a1 : List F) : Option (Bool) :=
 bsel (!decide ((a0.length : Int) = (a1.length : Int))) (
  some false) (
  obind (loopM (s_l01SameAll_s1 a0 a1) 0) fun z => osum z (fun _ => s_l01SameAll_k1) (fun r => some r))
theorem s_l01SameAll_ok (a0 : List F) (a1 : List F) (q0 : Bool) (h : s_l01SameAll a0 a1 = some q0) : Ev Try.prog 162 [(sFc a0), (sFc a1)] [] (b q0) [] := by
 refine Ev.start Try.func162 rfl rfl 0 (τ := [(0, (sFc a0)), (1, (sFc a1))]) rfl (Γ' := []) rfl (n := 55) rfl (g := 0) rfl (fun _ => rfl) ?_
 unfold s_l01SameAll at h
 refine zQ ?_
 refine za (r := b false) ?_
 refine zN ?_
 iterate 2 (refine RunC.seq ?_)
 rcases bsel_some h with ⟨hc1, h⟩ | ⟨hc1, h⟩
 ·refine RunC.regionW ?_
  refine zm (r := (sFc a0)) ?_
  refine zl (r := i64 (a0.length : Int)) (LOp.len_sl und26 rfl rfl) ?_
  refine zm (r := (sFc a1)) ?_
  refine zl (r := i64 (a1.length : Int)) (LOp.len_sl und26 rfl rfl) ?_
  refine zl (r := b true) (LOp.eqb (LOp.neq rfl rfl rfl) hc1) ?_
  refine zN ?_
  refine RunC.cond_true rfl rfl ?_
  refine zQ ?_
  refine za (r := b false) ?_
  refine zN ?_
  refine RunC.ret ?_
  have hq := Option.some.inj h
  subst q0
  exact bodyQ.pure (.inr rfl) rfl (Res.one rfl (RV.tmp rfl))
 ·refine RunC.regionW ?_
  refine zm (r := (sFc a0)) ?_
  refine zl (r := i64 (a0.length : Int)) (LOp.len_sl und26 rfl rfl) ?_
  refine zm (r := (sFc a1)) ?_
  refine zl (r := i64 (a1.length : Int)) (LOp.len_sl und26 rfl rfl) ?_
  refine zl (r := b false) (LOp.eqb (LOp.neq rfl rfl rfl) hc1) ?_
  refine zN ?_
  refine RunC.cond_false rfl rfl ?_
  refine RunC.skip ?_
  refine RunC.seq ?_
  refine zQ ?_
  refine za (r := i64 0) ?_
  refine zN ?_
  obtain ⟨z2, hz_2, h⟩ := obind_some h
  refine RunC.cutN (fun τ Γ => WeakLe τ [] ∧ DeadLe Γ [] ∧ z2 = .inl ()) ?_ ?_
  ·refine RunC.block (RunC.loop (RunL.loopM (x := z2) (s_l01SameAll_s1 a0 a1) (fun (s : Int) τ Γ => WeakLe τ [(0, (sFc a0)), (1, (sFc a1)), (5, i64 s)] ∧ DeadLe Γ []) ?_ _ _ _ hz_2 ⟨⟨aR, aR, aR, trivial⟩, trivial⟩))
   rintro v1 τ2 Γ2 y2_ ⟨hw2, hd2⟩ h2_ ho2 hr2
   refine RunC.wl (τ' := [(0, (sFc a0)), (1, (sFc a1)), (5, i64 v1)]) (Γ' := []) hw2 hd2 ?_
   replace h2_ : s_l01SameAll_b1 a0 a1 v1 = some y2_ := h2_
   unfold s_l01SameAll_b1 at h2_
   iterate 2 (refine RunC.seq ?_)
   rcases bsel_some h2_ with ⟨hc2, h2_⟩ | ⟨hc2, h2_⟩
   ·refine RunC.regionW ?_
    refine zm (r := i64 v1) ?_
    refine zm (r := (sFc a0)) ?_
    refine zl (r := i64 (a0.length : Int)) (LOp.len_sl und26 rfl rfl) ?_
    refine zl (r := b true) (LOp.eqb (LOp.lss rfl rfl rfl) hc2) ?_
    refine zN ?_
    refine RunC.cond_true rfl rfl ?_
    refine RunC.skip ?_
    refine RunC.seq ?_
    refine RunC.block ?_
    refine RunC.seq ?_
    obtain ⟨e2, he3, h2_⟩ := obind_some h2_
    obtain ⟨e3, he4, h2_⟩ := obind_some h2_
    obtain ⟨r4, hf5, h2_⟩ := obind_some h2_
    rcases bsel_some h2_ with ⟨hc6, h2_⟩ | ⟨hc6, h2_⟩
    ·refine RunC.region_draw (Γ' := []) 10 mixed 
      (TR.l (r := (sFc a0)) rfl rfl (LOp.move rfl rfl) <|
      (TR.l (r := i64 v1) rfl rfl (LOp.move rfl rfl) <|
      (TR.l (r := ptr [f32 e2]) rfl rfl (LOp.le (LOp.ix (f := f32) und26 siz28 rfl rfl rfl rfl he3) ALe.ptr) <|
      (TR.l (r := f32 e2) rfl rfl (LOp.load1 agg28 rfl rfl) <|
      (TR.l (r := (sFc a1)) rfl rfl (LOp.move rfl rfl) <|
      (TR.l (r := i64 v1) rfl rfl (LOp.move rfl rfl) <|
      (TR.l (r := ptr [f32 e3]) rfl rfl (LOp.le (LOp.ix (f := f32) und26 siz28 rfl rfl rfl rfl he4) ALe.ptr) <|
      (TR.l (r := f32 e3) rfl rfl (LOp.load1 agg28 rfl rfl) <|
      (TR.d (r := b true) (fs := []) rfl rfl (TOp.eqb (TOp.callB (CallAs.func ent147 rfl rfl) (Bors.cons (Bor.pure rfl) (Bors.cons (Bor.pure rfl) Bors.nil)) rfl rfl (s_l01Same_ok e2 e3 r4 hf5)) hc6) <|
      (TR.l (r := b false) rfl rfl (LOp.eqb (LOp.not rfl rfl) rfl) <|
      TR.nil)))))))))) rfl (by kernel_rfl) rfl fills_nil rfl ?_
     iterate 10 refine ROps.dropS ?_
     refine ROps.drop0 ?_
     refine zN ?_
     refine RunC.wl (τ' := [(0, (sFc a0)), (1, (sFc a1)), (5, i64 v1), (26, b false)]) (Γ' := []) ⟨aR, aR, aR, aR, trivial⟩ trivial ?_
     refine RunC.cond_false rfl rfl ?_
     refine RunC.skip ?_
     obtain ⟨x5, hx7, h2_⟩ := olet_some h2_
     refine RunC.regionW ?_
     refine zm (r := i64 v1) ?_
     refine zl (r := i64 x5) (LOp.eqr (LOp.add rfl rfl rfl) (congrArg (ik .i64) hx7)) ?_
     refine za (r := i64 x5) ?_
     refine zN ?_
     cases Option.some.inj h2_
     exact ⟨_, rfl, ⟨aR, aR, aR, trivial⟩, trivial⟩
    ·refine RunC.region_draw (Γ' := []) 10 mixed 
      (TR.l (r := (sFc a0)) rfl rfl (LOp.move rfl rfl) <|
      (TR.l (r := i64 v1) rfl rfl (LOp.move rfl rfl) <|
      (TR.l (r := ptr [f32 e2]) rfl rfl (LOp.le (LOp.ix (f := f32) und26 siz28 rfl rfl rfl rfl he3) ALe.ptr) <|
      (TR.l (r := f32 e2) rfl rfl (LOp.load1 agg28 rfl rfl) <|
      (TR.l (r := (sFc a1)) rfl rfl (LOp.move rfl rfl) <|
      (TR.l (r := i64 v1) rfl rfl (LOp.move rfl rfl) <|
      (TR.l (r := ptr [f32 e3]) rfl rfl (LOp.le (LOp.ix (f := f32) und26 siz28 rfl rfl rfl rfl he4) ALe.ptr) <|
      (TR.l (r := f32 e3) rfl rfl (LOp.load1 agg28 rfl rfl) <|
      (TR.d (r := b false) (fs := []) rfl rfl (TOp.eqb (TOp.callB (CallAs.func ent147 rfl rfl) (Bors.cons (Bor.pure rfl) (Bors.cons (Bor.pure rfl) Bors.nil)) rfl rfl (s_l01Same_ok e2 e3 r4 hf5)) hc6) <|
      (TR.l (r := b true) rfl rfl (LOp.eqb (LOp.not rfl rfl) rfl) <|
      TR.nil)))))))))) rfl (by kernel_rfl) rfl fills_nil rfl ?_
     iterate 10 refine ROps.dropS ?_
     refine ROps.drop0 ?_
     refine zN ?_
     refine RunC.wl (τ' := [(0, (sFc a0)), (1, (sFc a1)), (5, i64 v1), (26, b true)]) (Γ' := []) ⟨aR, aR, aR, aR, trivial⟩ trivial ?_
     refine RunC.cond_true rfl rfl ?_
     refine zQ ?_
     refine za (r := b false) ?_
     refine zN ?_
     refine RunC.ret ?_
     cases Option.some.inj h2_
     have hx3_ := hr2 _ rfl
     subst hx3_
     have hq := Option.some.inj h
     subst q0
     exact bodyQ.pure (.inr rfl) rfl (Res.one rfl (RV.tmp rfl))
   ·refine RunC.regionW ?_
    refine zm (r := i64 v1) ?_
    refine zm (r := (sFc a0)) ?_
    refine zl (r := i64 (a0.length : Int)) (LOp.len_sl und26 rfl rfl) ?_
    refine zl (r := b false) (LOp.eqb (LOp.lss rfl rfl rfl) hc2) ?_
    refine zN ?_
    refine RunC.cond_false rfl rfl ?_
    refine RunC.exit ?_
    cases Option.some.inj h2_
    have hx := ho2 _ rfl
    exact ⟨trivial, trivial, hx⟩
  ·rintro τ4 Γ4 ⟨hw4, hd4, rfl⟩
   refine RunC.wl hw4 hd4 ?_
   replace h : s_l01SameAll_k1 = some q0 := h
   unfold s_l01SameAll_k1 at h
   refine zQ ?_
   refine za (r := b true) ?_
   refine zN ?_
   refine RunC.ret ?_
   have hq := Option.some.inj h
   subst q0
   exact bodyQ.pure (.inr rfl) rfl (Res.one rfl (RV.tmp rfl))
noncomputable def s_l02Same (a0 : Int) (a1 : Int) (a2 : List F) (a3 : Int) (a4 : Int) (a5 : List F) : Option (Bool) :=
 bsel (decide (a0 = a3)) (
  bsel (decide (a1 = a4)) (
   obind (s_l01SameAll a2 a5) fun (r1 : Bool) =>
   some r1) (
   some false)) (
  some false)
theorem s_l02Same_ok (a0 : Int) (a1 : Int) (a2 : List F) (a3 : Int) (a4 : Int) (a5 : List F) (q0 : Bool) (h : s_l02Same a0 a1 a2 a3 a4 a5 = some q0) : Ev Try.prog 115 [ptr (mXc a0 a1 a2), ptr (mXc a3 a4 a5)] [] (b q0) [] := by
 refine Ev.start Try.func115 rfl rfl 0 (τ := [(0, ptr (mXc a0 a1 a2)), (1, ptr (mXc a3 a4 a5))]) rfl (Γ' := []) rfl (n := 73) rfl (g := 0) rfl (fun _ => rfl) ?_
 unfold s_l02Same at h
 refine zQ ?_
 refine za (r := b false) ?_
 refine zN ?_
 refine RunC.seq ?_
 rcases bsel_some h with ⟨hc1, h⟩ | ⟨hc1, h⟩
 ·rcases bsel_some h with ⟨hc2, h⟩ | ⟨hc2, h⟩
  ·obtain ⟨r1, hf3, h⟩ := obind_some h
   refine RunC.region_draw (Γ' := []) 32 mixed 
    (TR.l (r := ptr (mXc a0 a1 a2)) rfl rfl (LOp.move rfl rfl) <|
    (TR.l (r := ptr (mXc a0 a1 a2)) rfl rfl (LOp.nilCheck_ptr rfl rfl) <|
    (TR.l (r := ptr (mXc a0 a1 a2)) rfl rfl (LOp.fap und33 rfl siz2 rfl rfl rfl) <|
    (TR.l (r := i64 a0) rfl rfl (LOp.load1 agg2 rfl rfl) <|
    (TR.l (r := ptr (mXc a3 a4 a5)) rfl rfl (LOp.move rfl rfl) <|
    (TR.l (r := ptr (mXc a3 a4 a5)) rfl rfl (LOp.nilCheck_ptr rfl rfl) <|
    (TR.l (r := ptr (mXc a3 a4 a5)) rfl rfl (LOp.fap und33 rfl siz2 rfl rfl rfl) <|
    (TR.l (r := i64 a3) rfl rfl (LOp.load1 agg2 rfl rfl) <|
    (TR.l (r := b true) rfl rfl (LOp.eqb (LOp.eql rfl rfl rfl) hc1) <|
    (TR.l (r := b true) rfl rfl (LOp.move rfl rfl) <|
    (TR.l (r := ptr (mXc a0 a1 a2)) rfl rfl (LOp.move rfl rfl) <|
    (TR.l (r := ptr (mXc a0 a1 a2)) rfl rfl (LOp.nilCheck_ptr rfl rfl) <|
    (TR.l (r := ptr [i64 a1, (sFc a2)]) rfl rfl (LOp.fap und33 rfl siz2 rfl rfl rfl) <|
    (TR.l (r := i64 a1) rfl rfl (LOp.load1 agg2 rfl rfl) <|
    (TR.l (r := ptr (mXc a3 a4 a5)) rfl rfl (LOp.move rfl rfl) <|
    (TR.l (r := ptr (mXc a3 a4 a5)) rfl rfl (LOp.nilCheck_ptr rfl rfl) <|
    (TR.l (r := ptr [i64 a4, (sFc a5)]) rfl rfl (LOp.fap und33 rfl siz2 rfl rfl rfl) <|
    (TR.l (r := i64 a4) rfl rfl (LOp.load1 agg2 rfl rfl) <|
    (TR.l (r := b true) rfl rfl (LOp.eqb (LOp.eql rfl rfl rfl) hc2) <|
    (TR.l (r := b true) rfl rfl (LOp.pick_true rfl rfl rfl) <|
    (TR.l (r := b true) rfl rfl (LOp.move rfl rfl) <|
    (TR.l (r := ptr (mXc a0 a1 a2)) rfl rfl (LOp.move rfl rfl) <|
    (TR.l (r := ptr (mXc a0 a1 a2)) rfl rfl (LOp.nilCheck_ptr rfl rfl) <|
    (TR.l (r := ptr [(sFc a2)]) rfl rfl (LOp.fap und33 rfl siz26 rfl rfl rfl) <|
    (TR.l (r := (sFc a2)) rfl rfl (LOp.load1 agg26 rfl rfl) <|
    (TR.l (r := ptr (mXc a3 a4 a5)) rfl rfl (LOp.move rfl rfl) <|
    (TR.l (r := ptr (mXc a3 a4 a5)) rfl rfl (LOp.nilCheck_ptr rfl rfl) <|
    (TR.l (r := ptr [(sFc a5)]) rfl rfl (LOp.fap und33 rfl siz26 rfl rfl rfl) <|
    (TR.l (r := (sFc a5)) rfl rfl (LOp.load1 agg26 rfl rfl) <|
    (TR.d (r := b r1) (fs := []) rfl rfl (TOp.callB (CallAs.func ent162 rfl rfl) (Bors.cons (Bor.sl (fun _ => rfl)) (Bors.cons (Bor.sl (fun _ => rfl)) Bors.nil)) rfl rfl (s_l01SameAll_ok a2 a5 r1 hf3)) <|
    (TR.l (r := b r1) rfl rfl (LOp.pick_true rfl rfl rfl) <|
    (TR.l (r := b r1) rfl rfl (LOp.assign rfl rfl) <|
    TR.nil)))))))))))))))))))))))))))))))) rfl (by kernel_rfl) rfl fills_nil rfl ?_
   iterate 32 refine ROps.dropS ?_
   refine ROps.drop0 ?_
   refine zN ?_
   refine RunC.ret ?_
   have hq := Option.some.inj h
   subst q0
   exact bodyQ.pure (.inr rfl) rfl (Res.one rfl (RV.tmp rfl))
  ·refine RunC.region_draw (Γ' := []) 32 mixed 
    (TR.l (r := ptr (mXc a0 a1 a2)) rfl rfl (LOp.move rfl rfl) <|
    (TR.l (r := ptr (mXc a0 a1 a2)) rfl rfl (LOp.nilCheck_ptr rfl rfl) <|
    (TR.l (r := ptr (mXc a0 a1 a2)) rfl rfl (LOp.fap und33 rfl siz2 rfl rfl rfl) <|
    (TR.l (r := i64 a0) rfl rfl (LOp.load1 agg2 rfl rfl) <|
    (TR.l (r := ptr (mXc a3 a4 a5)) rfl rfl (LOp.move rfl rfl) <|
    (TR.l (r := ptr (mXc a3 a4 a5)) rfl rfl (LOp.nilCheck_ptr rfl rfl) <|
    (TR.l (r := ptr (mXc a3 a4 a5)) rfl rfl (LOp.fap und33 rfl siz2 rfl rfl rfl) <|
    (TR.l (r := i64 a3) rfl rfl (LOp.load1 agg2 rfl rfl) <|
    (TR.l (r := b true) rfl rfl (LOp.eqb (LOp.eql rfl rfl rfl) hc1) <|
    (TR.l (r := b true) rfl rfl (LOp.move rfl rfl) <|
    (TR.l (r := ptr (mXc a0 a1 a2)) rfl rfl (LOp.move rfl rfl) <|
    (TR.l (r := ptr (mXc a0 a1 a2)) rfl rfl (LOp.nilCheck_ptr rfl rfl) <|
    (TR.l (r := ptr [i64 a1, (sFc a2)]) rfl rfl (LOp.fap und33 rfl siz2 rfl rfl rfl) <|
    (TR.l (r := i64 a1) rfl rfl (LOp.load1 agg2 rfl rfl) <|
    (TR.l (r := ptr (mXc a3 a4 a5)) rfl rfl (LOp.move rfl rfl) <|
    (TR.l (r := ptr (mXc a3 a4 a5)) rfl rfl (LOp.nilCheck_ptr rfl rfl) <|
    (TR.l (r := ptr [i64 a4, (sFc a5)]) rfl rfl (LOp.fap und33 rfl siz2 rfl rfl rfl) <|
    (TR.l (r := i64 a4) rfl rfl (LOp.load1 agg2 rfl rfl) <|
    (TR.l (r := b false) rfl rfl (LOp.eqb (LOp.eql rfl rfl rfl) hc2) <|
    (TR.l (r := b false) rfl rfl (LOp.pick_true rfl rfl rfl) <|
    (TR.l (r := b false) rfl rfl (LOp.move rfl rfl) <|
    (TR.s rfl rfl <|
    (TR.s rfl rfl <|
    (TR.s rfl rfl <|
    (TR.s rfl rfl <|
    (TR.s rfl rfl <|
    (TR.s rfl rfl <|
    (TR.s rfl rfl <|
    (TR.s rfl rfl <|
    (TR.s rfl rfl <|
    (TR.l (r := b false) rfl rfl (LOp.pick_false rfl rfl rfl) <|
    (TR.l (r := b false) rfl rfl (LOp.assign rfl rfl) <|
    TR.nil)))))))))))))))))))))))))))))))) rfl (by kernel_rfl) rfl fills_nil rfl ?_
   iterate 32 refine ROps.dropS ?_
   refine ROps.drop0 ?_
   refine zN ?_
   refine RunC.ret ?_
   have hq := Option.some.inj h
   subst q0
   exact bodyQ.pure (.inr rfl) rfl (Res.one rfl (RV.tmp rfl))
 ·refine RunC.region_draw (Γ' := []) 32 mixed 
   (TR.l (r := ptr (mXc a0 a1 a2)) rfl rfl (LOp.move rfl rfl) <|
   (TR.l (r := ptr (mXc a0 a1 a2)) rfl rfl (LOp.nilCheck_ptr rfl rfl) <|
   (TR.l (r := ptr (mXc a0 a1 a2)) rfl rfl (LOp.fap und33 rfl siz2 rfl rfl rfl) <|
   (TR.l (r := i64 a0) rfl rfl (LOp.load1 agg2 rfl rfl) <|
   (TR.l (r := ptr (mXc a3 a4 a5)) rfl rfl (LOp.move rfl rfl) <|
   (TR.l (r := ptr (mXc a3 a4 a5)) rfl rfl (LOp.nilCheck_ptr rfl rfl) <|
   (TR.l (r := ptr (mXc a3 a4 a5)) rfl rfl (LOp.fap und33 rfl siz2 rfl rfl rfl) <|
   (TR.l (r := i64 a3) rfl rfl (LOp.load1 agg2 rfl rfl) <|
   (TR.l (r := b false) rfl rfl (LOp.eqb (LOp.eql rfl rfl rfl) hc1) <|
   (TR.l (r := b false) rfl rfl (LOp.move rfl rfl) <|
   (TR.s rfl rfl <|
   (TR.s rfl rfl <|
   (TR.s rfl rfl <|
   (TR.s rfl rfl <|
   (TR.s rfl rfl <|
   (TR.s rfl rfl <|
   (TR.s rfl rfl <|
   (TR.s rfl rfl <|
   (TR.s rfl rfl <|
   (TR.l (r := b false) rfl rfl (LOp.pick_false rfl rfl rfl) <|
   (TR.l (r := b false) rfl rfl (LOp.move rfl rfl) <|
   (TR.s rfl rfl <|
   (TR.s rfl rfl <|
   (TR.s rfl rfl <|
   (TR.s rfl rfl <|
   (TR.s rfl rfl <|
   (TR.s rfl rfl <|
   (TR.s rfl rfl <|
   (TR.s rfl rfl <|
   (TR.s rfl rfl <|
   (TR.l (r := b false) rfl rfl (LOp.pick_false rfl rfl rfl) <|
   (TR.l (r := b false) rfl rfl (LOp.assign rfl rfl) <|
   TR.nil)))))))))))))))))))))))))))))))) rfl (by kernel_rfl) rfl fills_nil rfl ?_
  iterate 32 refine ROps.dropS ?_
  refine ROps.drop0 ?_
  refine zN ?_
  refine RunC.ret ?_
  have hq := Option.some.inj h
  subst q0
  exact bodyQ.pure (.inr rfl) rfl (Res.one rfl (RV.tmp rfl))
noncomputable def s_SameMatrix (a0 : Int) (a1 : Int) (a2 : List F) (a3 : Int) (a4 : Int) (a5 : List F) : Option (Bool) :=
 obind (s_l02Same a0 a1 a2 a3 a4 a5) fun (r1 : Bool) =>
 some r1
theorem s_SameMatrix_ok (a0 : Int) (a1 : Int) (a2 : List F) (a3 : Int) (a4 : Int) (a5 : List F) (q0 : Bool) (h : s_SameMatrix a0 a1 a2 a3 a4 a5 = some q0) : Ev Try.prog 46 [agg (mXc a0 a1 a2), agg (mXc a3 a4 a5)] [] (b q0) [] := by
 refine Ev.start Try.func46 rfl rfl 0 (τ := [(0, agg (mXc a0 a1 a2)), (1, agg (mXc a3 a4 a5))]) rfl (Γ' := []) rfl (n := 13) rfl (g := 0) rfl (fun _ => rfl) ?_
 unfold s_SameMatrix at h
 refine zQ ?_
 refine ROps.d (r := ptr (mXc a0 a1 a2)) (fs := []) (Γ' := []) rfl rfl rfl (TOp.box_s rfl rfl rfl) rfl ?_
 refine ROps.d (r := ptr (mXc a3 a4 a5)) (fs := []) (Γ' := []) rfl rfl rfl (TOp.box_s rfl rfl rfl) rfl ?_
 refine za (r := b false) ?_
 refine zN ?_
 refine RunC.seq ?_
 obtain ⟨r1, hf1, h⟩ := obind_some h
 refine RunC.regionW ?_
 refine ROps.d (r := b r1) (fs := []) (Γ' := []) rfl rfl rfl (TOp.callB (CallAs.func ent115 rfl rfl) (Bors.cons (Bor.ptr (Bors.cons (Bor.pure rfl) (Bors.cons (Bor.pure rfl) (Bors.cons (Bor.sl (fun _ => rfl)) Bors.nil)))) (Bors.cons (Bor.ptr (Bors.cons (Bor.pure rfl) (Bors.cons (Bor.pure rfl) (Bors.cons (Bor.sl (fun _ => rfl)) Bors.nil)))) Bors.nil)) rfl rfl (s_l02Same_ok a0 a1 a2 a3 a4 a5 r1 hf1)) rfl ?_
 refine za (r := b r1) ?_
 refine zN ?_
 refine RunC.ret ?_
 have hq := Option.some.inj h
 subst q0
 exact bodyQ.pure (.inr rfl) rfl (Res.one rfl (RV.tmp rfl))
noncomputable def s_l00In (a0 : Int) (a1 : Int) (a2 : Int) : Option (Bool) :=
 bsel (decide (a1 ≤ a0)) (
  some (decide (a0 ≤ a2))) (
  some false)
theorem s_l00In_ok (a0 : Int) (a1 : Int) (a2 : Int) (q0 : Bool) (h : s_l00In a0 a1 a2 = some q0) : Ev Try.prog 170 [i64 a0, i64 a1, i64 a2] [] (b q0) [] := by
 refine Ev.start Try.func170 rfl rfl 0 (τ := [(0, i64 a0), (1, i64 a1), (2, i64 a2)]) rfl (Γ' := []) rfl (n := 31) rfl (g := 0) rfl (fun _ => rfl) ?_
 unfold s_l00In at h
 refine zQ ?_
 refine za (r := b false) ?_
 refine zN ?_
 refine RunC.seq ?_
 rcases bsel_some h with ⟨hc1, h⟩ | ⟨hc1, h⟩
 ·refine RunC.regionW ?_
  refine zm (r := i64 a0) ?_
  refine zm (r := i64 a1) ?_
  refine zl (r := b true) (LOp.eqb (LOp.geq rfl rfl rfl) hc1) ?_
  refine zm (r := b true) ?_
  refine zm (r := i64 a0) ?_
  refine zm (r := i64 a2) ?_
  refine zl (r := b (decide (a0 ≤ a2))) (LOp.leq rfl rfl rfl) ?_
  refine zl (r := b (decide (a0 ≤ a2))) (LOp.pick_true rfl rfl rfl) ?_
  refine za (r := b (decide (a0 ≤ a2))) ?_
  refine zN ?_
  refine RunC.ret ?_
  have hq := Option.some.inj h
  subst q0
  exact bodyQ.pure (.inr rfl) rfl (Res.one rfl (RV.tmp rfl))
 ·refine RunC.regionW ?_
  refine zm (r := i64 a0) ?_
  refine zm (r := i64 a1) ?_
  refine zl (r := b false) (LOp.eqb (LOp.geq rfl rfl rfl) hc1) ?_
  refine zm (r := b false) ?_
  iterate 3 (refine ROps.s rfl rfl rfl ?_)
  refine zl (r := b false) (LOp.pick_false rfl rfl rfl) ?_
  refine za (r := b false) ?_
  refine zN ?_
  refine RunC.ret ?_
  have hq := Option.some.inj h
  subst q0
  exact bodyQ.pure (.inr rfl) rfl (Res.one rfl (RV.tmp rfl))
noncomputable def s_l02Sides (a0 : Int) (a1 : Int) : Option (Bool) :=
 obind (s_l00In a0 1 12) fun (r1 : Bool) =>
 bsel r1 (
  obind (s_l00In a1 1 12) fun (r2 : Bool) =>
  some r2) (
  some false)
theorem s_l02Sides_ok (a0 : Int) (a1 : Int) (q0 : Bool) (h : s_l02Sides a0 a1 = some q0) : Ev Try.prog 134 [i64 a0, i64 a1] [] (b q0) [] := by
 refine Ev.start Try.func134 rfl rfl 0 (τ := [(0, i64 a0), (1, i64 a1)]) rfl (Γ' := []) rfl (n := 23) rfl (g := 0) rfl (fun _ => rfl) ?_
 unfold s_l02Sides at h
 refine zQ ?_
 refine za (r := b false) ?_
 refine zN ?_
 refine RunC.seq ?_
 obtain ⟨r1, hf1, h⟩ := obind_some h
 rcases bsel_some h with ⟨hc2, h⟩ | ⟨hc2, h⟩
 ·obtain ⟨r2, hf3, h⟩ := obind_some h
  refine RunC.regionW ?_
  refine zm (r := i64 a0) ?_
  refine ROps.d (r := b true) (fs := []) (Γ' := []) rfl rfl rfl (TOp.eqb (TOp.callB (CallAs.func ent170 rfl rfl) (Bors.cons (Bor.pure rfl) (Bors.cons (Bor.pure rfl) (Bors.cons (Bor.pure rfl) Bors.nil))) rfl rfl (s_l00In_ok a0 1 12 r1 hf1)) hc2) rfl ?_
  refine zm (r := b true) ?_
  refine zm (r := i64 a1) ?_
  refine ROps.d (r := b r2) (fs := []) (Γ' := []) rfl rfl rfl (TOp.callB (CallAs.func ent170 rfl rfl) (Bors.cons (Bor.pure rfl) (Bors.cons (Bor.pure rfl) (Bors.cons (Bor.pure rfl) Bors.nil))) rfl rfl (s_l00In_ok a1 1 12 r2 hf3)) rfl ?_
  refine zl (r := b r2) (LOp.pick_true rfl rfl rfl) ?_
  refine za (r := b r2) ?_
  refine zN ?_
  refine RunC.ret ?_
  have hq := Option.some.inj h
  subst q0
  exact bodyQ.pure (.inr rfl) rfl (Res.one rfl (RV.tmp rfl))
 ·refine RunC.regionW ?_
  refine zm (r := i64 a0) ?_
  refine ROps.d (r := b false) (fs := []) (Γ' := []) rfl rfl rfl (TOp.eqb (TOp.callB (CallAs.func ent170 rfl rfl) (Bors.cons (Bor.pure rfl) (Bors.cons (Bor.pure rfl) (Bors.cons (Bor.pure rfl) Bors.nil))) rfl rfl (s_l00In_ok a0 1 12 r1 hf1)) hc2) rfl ?_
  refine zm (r := b false) ?_
  iterate 2 (refine ROps.s rfl rfl rfl ?_)
  refine zl (r := b false) (LOp.pick_false rfl rfl rfl) ?_
  refine za (r := b false) ?_
  refine zN ?_
  refine RunC.ret ?_
  have hq := Option.some.inj h
  subst q0
  exact bodyQ.pure (.inr rfl) rfl (Res.one rfl (RV.tmp rfl))
noncomputable def s_l01Finite (a0 : F) : Option (Bool) :=
 olet (fop .sub .f32 a0 a0) fun (x1 : F) =>
 some (feq .f32 x1 (some 0))
theorem s_l01Finite_ok (a0 : F) (q0 : Bool) (h : s_l01Finite a0 = some q0) : Ev Try.prog 171 [f32 a0] [] (b q0) [] := by
 refine Ev.start Try.func171 rfl rfl 0 (τ := [(0, f32 a0)]) rfl (Γ' := []) rfl (n := 15) rfl (g := 0) rfl (fun _ => rfl) ?_
 unfold s_l01Finite at h
 refine zQ ?_
 refine za (r := b false) ?_
 refine zN ?_
 refine RunC.seq ?_
 obtain ⟨x1, hx1, h⟩ := olet_some h
 refine RunC.regionW ?_
 iterate 2 (refine zm (r := f32 a0) ?_)
 refine ROps.d (r := f32 x1) (fs := []) (Γ' := []) rfl rfl rfl (TOp.eqr (TOp.fop (.inr (.inl rfl)) rfl (OpF.tmp rfl) (OpF.tmp rfl)) (congrArg (f .f32) hx1)) rfl ?_
 refine zl (r := b (feq .f32 x1 (some 0))) (LOp.feq rfl (OpF.tmp rfl) (OpF.const rfl (by kernel_rfl) (by kernel_rfl))) ?_
 refine za (r := b (feq .f32 x1 (some 0))) ?_
 refine zN ?_
 refine RunC.ret ?_
 have hq := Option.some.inj h
 subst q0
 exact bodyQ.pure (.inr rfl) rfl (Res.one rfl (RV.tmp rfl))
noncomputable def s_l02Finite_b1 (a0 : List F) (v1 : Int) : Option (LR (Int) (Unit) (Bool)) :=
 bsel (decide (v1 < (a0.length : Int))) (
  obind (at? a0 v1) fun (e2 : F) =>
  obind (s_l01Finite e2) fun (r3 : Bool) =>
  bsel r3 (
   olet (IntKind.i64.wrap (v1 + 1)) fun (x4 : Int) =>
   some (LR.next x4)) (
   some (LR.ret false))) (
  some (LR.out ()))
noncomputable def s_l02Finite_s1 (a0 : List F) : (Int) → Option (LR (Int) (Unit) (Bool)) := fun s => s_l02Finite_b1 a0 s
noncomputable def s_l02Finite_k1  : Option (Bool) :=
 some true
noncomputable def s_l02Finite (a0 : List F) : Option (Bool) :=
 obind (loopM (s_l02Finite_s1 a0) 0) fun z => osum z (fun _ => s_l02Finite_k1) (fun r => some r)
theorem s_l02Finite_ok (a0 : List F) (q0 : Bool) (h : s_l02Finite a0 = some q0) : Ev Try.prog 135 [(sFc a0)] [] (b q0) [] := by
 refine Ev.start Try.func135 rfl rfl 0 (τ := [(0, (sFc a0))]) rfl (Γ' := []) rfl (n := 33) rfl (g := 0) rfl (fun _ => rfl) ?_
 unfold s_l02Finite at h
 refine zQ ?_
 refine za (r := b false) ?_
 refine zN ?_
 refine RunC.seq ?_
 refine zQ ?_
 refine za (r := i64 0) ?_
 refine zN ?_
 obtain ⟨z2, hz_2, h⟩ := obind_some h
 refine RunC.cutN (fun τ Γ => WeakLe τ [] ∧ DeadLe Γ [] ∧ z2 = .inl ()) ?_ ?_
 ·refine RunC.block (RunC.loop (RunL.loopM (x := z2) (s_l02Finite_s1 a0) (fun (s : Int) τ Γ => WeakLe τ [(0, (sFc a0)), (3, i64 s)] ∧ DeadLe Γ []) ?_ _ _ _ hz_2 ⟨⟨aR, aR, trivial⟩, trivial⟩))
  rintro v1 τ2 Γ2 y2_ ⟨hw2, hd2⟩ h2_ ho2 hr2
  refine RunC.wl (τ' := [(0, (sFc a0)), (3, i64 v1)]) (Γ' := []) hw2 hd2 ?_
  replace h2_ : s_l02Finite_b1 a0 v1 = some y2_ := h2_
  unfold s_l02Finite_b1 at h2_
  iterate 2 (refine RunC.seq ?_)
  rcases bsel_some h2_ with ⟨hc1, h2_⟩ | ⟨hc1, h2_⟩
  ·refine RunC.regionW ?_
   refine zm (r := i64 v1) ?_
   refine zm (r := (sFc a0)) ?_
   refine zl (r := i64 (a0.length : Int)) (LOp.len_sl und26 rfl rfl) ?_
   refine zl (r := b true) (LOp.eqb (LOp.lss rfl rfl rfl) hc1) ?_
   refine zN ?_
   refine RunC.cond_true rfl rfl ?_
   refine RunC.skip ?_
   refine RunC.seq ?_
   refine RunC.block ?_
   refine RunC.seq ?_
   obtain ⟨e2, he2, h2_⟩ := obind_some h2_
   obtain ⟨r3, hf3, h2_⟩ := obind_some h2_
   rcases bsel_some h2_ with ⟨hc4, h2_⟩ | ⟨hc4, h2_⟩
   ·refine RunC.regionW ?_
    refine zm (r := (sFc a0)) ?_
    refine zm (r := i64 v1) ?_
    refine zl (r := ptr [f32 e2]) (LOp.le (LOp.ix (f := f32) und26 siz28 rfl rfl rfl rfl he2) ALe.ptr) ?_
    refine zl (r := f32 e2) (LOp.load1 agg28 rfl rfl) ?_
    refine ROps.d (r := b true) (fs := []) (Γ' := []) rfl rfl rfl (TOp.eqb (TOp.callB (CallAs.func ent171 rfl rfl) (Bors.cons (Bor.pure rfl) Bors.nil) rfl rfl (s_l01Finite_ok e2 r3 hf3)) hc4) rfl ?_
    refine zl (r := b false) (LOp.eqb (LOp.not rfl rfl) rfl) ?_
    refine zN ?_
    refine RunC.cond_false rfl rfl ?_
    refine RunC.skip ?_
    obtain ⟨x4, hx5, h2_⟩ := olet_some h2_
    refine RunC.regionW ?_
    refine zm (r := i64 v1) ?_
    refine zl (r := i64 x4) (LOp.eqr (LOp.add rfl rfl rfl) (congrArg (ik .i64) hx5)) ?_
    refine za (r := i64 x4) ?_
    refine zN ?_
    cases Option.some.inj h2_
    exact ⟨_, rfl, ⟨aR, aR, trivial⟩, trivial⟩
   ·refine RunC.regionW ?_
    refine zm (r := (sFc a0)) ?_
    refine zm (r := i64 v1) ?_
    refine zl (r := ptr [f32 e2]) (LOp.le (LOp.ix (f := f32) und26 siz28 rfl rfl rfl rfl he2) ALe.ptr) ?_
    refine zl (r := f32 e2) (LOp.load1 agg28 rfl rfl) ?_
    refine ROps.d (r := b false) (fs := []) (Γ' := []) rfl rfl rfl (TOp.eqb (TOp.callB (CallAs.func ent171 rfl rfl) (Bors.cons (Bor.pure rfl) Bors.nil) rfl rfl (s_l01Finite_ok e2 r3 hf3)) hc4) rfl ?_
    refine zl (r := b true) (LOp.eqb (LOp.not rfl rfl) rfl) ?_
    refine zN ?_
    refine RunC.cond_true rfl rfl ?_
    refine zQ ?_
    refine za (r := b false) ?_
    refine zN ?_
    refine RunC.ret ?_
    cases Option.some.inj h2_
    have hx3_ := hr2 _ rfl
    subst hx3_
    have hq := Option.some.inj h
    subst q0
    exact bodyQ.pure (.inr rfl) rfl (Res.one rfl (RV.tmp rfl))
  ·refine RunC.regionW ?_
   refine zm (r := i64 v1) ?_
   refine zm (r := (sFc a0)) ?_
   refine zl (r := i64 (a0.length : Int)) (LOp.len_sl und26 rfl rfl) ?_
   refine zl (r := b false) (LOp.eqb (LOp.lss rfl rfl rfl) hc1) ?_
   refine zN ?_
   refine RunC.cond_false rfl rfl ?_
   refine RunC.exit ?_
   cases Option.some.inj h2_
   have hx := ho2 _ rfl
   exact ⟨trivial, trivial, hx⟩
 ·rintro τ4 Γ4 ⟨hw4, hd4, rfl⟩
  refine RunC.wl hw4 hd4 ?_
  replace h : s_l02Finite_k1 = some q0 := h
  unfold s_l02Finite_k1 at h
  refine zQ ?_
  refine za (r := b true) ?_
  refine zN ?_
  refine RunC.ret ?_
  have hq := Option.some.inj h
  subst q0
  exact bodyQ.pure (.inr rfl) rfl (Res.one rfl (RV.tmp rfl))
noncomputable def s_l02Is (a0 : Int) (a1 : Int) (a2 : List F) : Option (Bool) :=
 obind (s_l02Sides a0 a1) fun (r1 : Bool) =>
 bsel r1 (
  olet (IntKind.i64.wrap (a0 * a1)) fun (x2 : Int) =>
  bsel (decide ((a2.length : Int) = x2)) (
   obind (s_l02Finite a2) fun (r3 : Bool) =>
   some r3) (
   some false)) (
  some false)
theorem s_l02Is_ok (a0 : Int) (a1 : Int) (a2 : List F) (q0 : Bool) (h : s_l02Is a0 a1 a2 = some q0) : Ev Try.prog 66 [ptr (mXc a0 a1 a2)] [] (b q0) [] := by
 refine Ev.start Try.func66 rfl rfl 0 (τ := [(0, ptr (mXc a0 a1 a2))]) rfl (Γ' := []) rfl (n := 73) rfl (g := 0) rfl (fun _ => rfl) ?_
 unfold s_l02Is at h
 refine zQ ?_
 refine za (r := b false) ?_
 refine zN ?_
 refine RunC.seq ?_
 obtain ⟨r1, hf1, h⟩ := obind_some h
 rcases bsel_some h with ⟨hc2, h⟩ | ⟨hc2, h⟩
 ·obtain ⟨x2, hx3, h⟩ := olet_some h
  rcases bsel_some h with ⟨hc4, h⟩ | ⟨hc4, h⟩
  ·obtain ⟨r3, hf5, h⟩ := obind_some h
   refine RunC.region_draw (Γ' := []) 34 mixed 
    (TR.l (r := ptr (mXc a0 a1 a2)) rfl rfl (LOp.move rfl rfl) <|
    (TR.l (r := ptr (mXc a0 a1 a2)) rfl rfl (LOp.nilCheck_ptr rfl rfl) <|
    (TR.l (r := ptr (mXc a0 a1 a2)) rfl rfl (LOp.fap und33 rfl siz2 rfl rfl rfl) <|
    (TR.l (r := i64 a0) rfl rfl (LOp.load1 agg2 rfl rfl) <|
    (TR.l (r := ptr (mXc a0 a1 a2)) rfl rfl (LOp.move rfl rfl) <|
    (TR.l (r := ptr (mXc a0 a1 a2)) rfl rfl (LOp.nilCheck_ptr rfl rfl) <|
    (TR.l (r := ptr [i64 a1, (sFc a2)]) rfl rfl (LOp.fap und33 rfl siz2 rfl rfl rfl) <|
    (TR.l (r := i64 a1) rfl rfl (LOp.load1 agg2 rfl rfl) <|
    (TR.d (r := b true) (fs := []) rfl rfl (TOp.eqb (TOp.callB (CallAs.func ent134 rfl rfl) (Bors.cons (Bor.pure rfl) (Bors.cons (Bor.pure rfl) Bors.nil)) rfl rfl (s_l02Sides_ok a0 a1 r1 hf1)) hc2) <|
    (TR.l (r := b true) rfl rfl (LOp.move rfl rfl) <|
    (TR.l (r := ptr (mXc a0 a1 a2)) rfl rfl (LOp.move rfl rfl) <|
    (TR.l (r := ptr (mXc a0 a1 a2)) rfl rfl (LOp.nilCheck_ptr rfl rfl) <|
    (TR.l (r := ptr [(sFc a2)]) rfl rfl (LOp.fap und33 rfl siz26 rfl rfl rfl) <|
    (TR.l (r := (sFc a2)) rfl rfl (LOp.load1 agg26 rfl rfl) <|
    (TR.l (r := i64 (a2.length : Int)) rfl rfl (LOp.len_sl und26 rfl rfl) <|
    (TR.l (r := ptr (mXc a0 a1 a2)) rfl rfl (LOp.move rfl rfl) <|
    (TR.l (r := ptr (mXc a0 a1 a2)) rfl rfl (LOp.nilCheck_ptr rfl rfl) <|
    (TR.l (r := ptr (mXc a0 a1 a2)) rfl rfl (LOp.fap und33 rfl siz2 rfl rfl rfl) <|
    (TR.l (r := i64 a0) rfl rfl (LOp.load1 agg2 rfl rfl) <|
    (TR.l (r := ptr (mXc a0 a1 a2)) rfl rfl (LOp.move rfl rfl) <|
    (TR.l (r := ptr (mXc a0 a1 a2)) rfl rfl (LOp.nilCheck_ptr rfl rfl) <|
    (TR.l (r := ptr [i64 a1, (sFc a2)]) rfl rfl (LOp.fap und33 rfl siz2 rfl rfl rfl) <|
    (TR.l (r := i64 a1) rfl rfl (LOp.load1 agg2 rfl rfl) <|
    (TR.l (r := i64 x2) rfl rfl (LOp.eqr (LOp.mul rfl rfl rfl) (congrArg (ik .i64) hx3)) <|
    (TR.l (r := b true) rfl rfl (LOp.eqb (LOp.eql rfl rfl rfl) hc4) <|
    (TR.l (r := b true) rfl rfl (LOp.pick_true rfl rfl rfl) <|
    (TR.l (r := b true) rfl rfl (LOp.move rfl rfl) <|
    (TR.l (r := ptr (mXc a0 a1 a2)) rfl rfl (LOp.move rfl rfl) <|
    (TR.l (r := ptr (mXc a0 a1 a2)) rfl rfl (LOp.nilCheck_ptr rfl rfl) <|
    (TR.l (r := ptr [(sFc a2)]) rfl rfl (LOp.fap und33 rfl siz26 rfl rfl rfl) <|
    (TR.l (r := (sFc a2)) rfl rfl (LOp.load1 agg26 rfl rfl) <|
    (TR.d (r := b r3) (fs := []) rfl rfl (TOp.callB (CallAs.func ent135 rfl rfl) (Bors.cons (Bor.sl (fun _ => rfl)) Bors.nil) rfl rfl (s_l02Finite_ok a2 r3 hf5)) <|
    (TR.l (r := b r3) rfl rfl (LOp.pick_true rfl rfl rfl) <|
    (TR.l (r := b r3) rfl rfl (LOp.assign rfl rfl) <|
    TR.nil)))))))))))))))))))))))))))))))))) rfl (by kernel_rfl) rfl fills_nil rfl ?_
   iterate 34 refine ROps.dropS ?_
   refine ROps.drop0 ?_
   refine zN ?_
   refine RunC.ret ?_
   have hq := Option.some.inj h
   subst q0
   exact bodyQ.pure (.inr rfl) rfl (Res.one rfl (RV.tmp rfl))
  ·refine RunC.region_draw (Γ' := []) 34 mixed 
    (TR.l (r := ptr (mXc a0 a1 a2)) rfl rfl (LOp.move rfl rfl) <|
    (TR.l (r := ptr (mXc a0 a1 a2)) rfl rfl (LOp.nilCheck_ptr rfl rfl) <|
    (TR.l (r := ptr (mXc a0 a1 a2)) rfl rfl (LOp.fap und33 rfl siz2 rfl rfl rfl) <|
    (TR.l (r := i64 a0) rfl rfl (LOp.load1 agg2 rfl rfl) <|
    (TR.l (r := ptr (mXc a0 a1 a2)) rfl rfl (LOp.move rfl rfl) <|
    (TR.l (r := ptr (mXc a0 a1 a2)) rfl rfl (LOp.nilCheck_ptr rfl rfl) <|
    (TR.l (r := ptr [i64 a1, (sFc a2)]) rfl rfl (LOp.fap und33 rfl siz2 rfl rfl rfl) <|
    (TR.l (r := i64 a1) rfl rfl (LOp.load1 agg2 rfl rfl) <|
    (TR.d (r := b true) (fs := []) rfl rfl (TOp.eqb (TOp.callB (CallAs.func ent134 rfl rfl) (Bors.cons (Bor.pure rfl) (Bors.cons (Bor.pure rfl) Bors.nil)) rfl rfl (s_l02Sides_ok a0 a1 r1 hf1)) hc2) <|
    (TR.l (r := b true) rfl rfl (LOp.move rfl rfl) <|
    (TR.l (r := ptr (mXc a0 a1 a2)) rfl rfl (LOp.move rfl rfl) <|
    (TR.l (r := ptr (mXc a0 a1 a2)) rfl rfl (LOp.nilCheck_ptr rfl rfl) <|
    (TR.l (r := ptr [(sFc a2)]) rfl rfl (LOp.fap und33 rfl siz26 rfl rfl rfl) <|
    (TR.l (r := (sFc a2)) rfl rfl (LOp.load1 agg26 rfl rfl) <|
    (TR.l (r := i64 (a2.length : Int)) rfl rfl (LOp.len_sl und26 rfl rfl) <|
    (TR.l (r := ptr (mXc a0 a1 a2)) rfl rfl (LOp.move rfl rfl) <|
    (TR.l (r := ptr (mXc a0 a1 a2)) rfl rfl (LOp.nilCheck_ptr rfl rfl) <|
    (TR.l (r := ptr (mXc a0 a1 a2)) rfl rfl (LOp.fap und33 rfl siz2 rfl rfl rfl) <|
    (TR.l (r := i64 a0) rfl rfl (LOp.load1 agg2 rfl rfl) <|
    (TR.l (r := ptr (mXc a0 a1 a2)) rfl rfl (LOp.move rfl rfl) <|
    (TR.l (r := ptr (mXc a0 a1 a2)) rfl rfl (LOp.nilCheck_ptr rfl rfl) <|
    (TR.l (r := ptr [i64 a1, (sFc a2)]) rfl rfl (LOp.fap und33 rfl siz2 rfl rfl rfl) <|
    (TR.l (r := i64 a1) rfl rfl (LOp.load1 agg2 rfl rfl) <|
    (TR.l (r := i64 x2) rfl rfl (LOp.eqr (LOp.mul rfl rfl rfl) (congrArg (ik .i64) hx3)) <|
    (TR.l (r := b false) rfl rfl (LOp.eqb (LOp.eql rfl rfl rfl) hc4) <|
    (TR.l (r := b false) rfl rfl (LOp.pick_true rfl rfl rfl) <|
    (TR.l (r := b false) rfl rfl (LOp.move rfl rfl) <|
    (TR.s rfl rfl <|
    (TR.s rfl rfl <|
    (TR.s rfl rfl <|
    (TR.s rfl rfl <|
    (TR.s rfl rfl <|
    (TR.l (r := b false) rfl rfl (LOp.pick_false rfl rfl rfl) <|
    (TR.l (r := b false) rfl rfl (LOp.assign rfl rfl) <|
    TR.nil)))))))))))))))))))))))))))))))))) rfl (by kernel_rfl) rfl fills_nil rfl ?_
   iterate 34 refine ROps.dropS ?_
   refine ROps.drop0 ?_
   refine zN ?_
   refine RunC.ret ?_
   have hq := Option.some.inj h
   subst q0
   exact bodyQ.pure (.inr rfl) rfl (Res.one rfl (RV.tmp rfl))
 ·refine RunC.region_draw (Γ' := []) 34 mixed 
   (TR.l (r := ptr (mXc a0 a1 a2)) rfl rfl (LOp.move rfl rfl) <|
   (TR.l (r := ptr (mXc a0 a1 a2)) rfl rfl (LOp.nilCheck_ptr rfl rfl) <|
   (TR.l (r := ptr (mXc a0 a1 a2)) rfl rfl (LOp.fap und33 rfl siz2 rfl rfl rfl) <|
   (TR.l (r := i64 a0) rfl rfl (LOp.load1 agg2 rfl rfl) <|
   (TR.l (r := ptr (mXc a0 a1 a2)) rfl rfl (LOp.move rfl rfl) <|
   (TR.l (r := ptr (mXc a0 a1 a2)) rfl rfl (LOp.nilCheck_ptr rfl rfl) <|
   (TR.l (r := ptr [i64 a1, (sFc a2)]) rfl rfl (LOp.fap und33 rfl siz2 rfl rfl rfl) <|
   (TR.l (r := i64 a1) rfl rfl (LOp.load1 agg2 rfl rfl) <|
   (TR.d (r := b false) (fs := []) rfl rfl (TOp.eqb (TOp.callB (CallAs.func ent134 rfl rfl) (Bors.cons (Bor.pure rfl) (Bors.cons (Bor.pure rfl) Bors.nil)) rfl rfl (s_l02Sides_ok a0 a1 r1 hf1)) hc2) <|
   (TR.l (r := b false) rfl rfl (LOp.move rfl rfl) <|
   (TR.s rfl rfl <|
   (TR.s rfl rfl <|
   (TR.s rfl rfl <|
   (TR.s rfl rfl <|
   (TR.s rfl rfl <|
   (TR.s rfl rfl <|
   (TR.s rfl rfl <|
   (TR.s rfl rfl <|
   (TR.s rfl rfl <|
   (TR.s rfl rfl <|
   (TR.s rfl rfl <|
   (TR.s rfl rfl <|
   (TR.s rfl rfl <|
   (TR.s rfl rfl <|
   (TR.s rfl rfl <|
   (TR.l (r := b false) rfl rfl (LOp.pick_false rfl rfl rfl) <|
   (TR.l (r := b false) rfl rfl (LOp.move rfl rfl) <|
   (TR.s rfl rfl <|
   (TR.s rfl rfl <|
   (TR.s rfl rfl <|
   (TR.s rfl rfl <|
   (TR.s rfl rfl <|
   (TR.l (r := b false) rfl rfl (LOp.pick_false rfl rfl rfl) <|
   (TR.l (r := b false) rfl rfl (LOp.assign rfl rfl) <|
   TR.nil)))))))))))))))))))))))))))))))))) rfl (by kernel_rfl) rfl fills_nil rfl ?_
  iterate 34 refine ROps.dropS ?_
  refine ROps.drop0 ?_
  refine zN ?_
  refine RunC.ret ?_
  have hq := Option.some.inj h
  subst q0
  exact bodyQ.pure (.inr rfl) rfl (Res.one rfl (RV.tmp rfl))
noncomputable def s_ValidMatrix (a0 : Int) (a1 : Int) (a2 : List F) : Option (Bool) :=
 obind (s_l02Is a0 a1 a2) fun (r1 : Bool) =>
 some r1
theorem s_ValidMatrix_ok (a0 : Int) (a1 : Int) (a2 : List F) (q0 : Bool) (h : s_ValidMatrix a0 a1 a2 = some q0) : Ev Try.prog 47 [agg (mXc a0 a1 a2)] [] (b q0) [] := by
 refine Ev.start Try.func47 rfl rfl 0 (τ := [(0, agg (mXc a0 a1 a2))]) rfl (Γ' := []) rfl (n := 9) rfl (g := 0) rfl (fun _ => rfl) ?_
 unfold s_ValidMatrix at h
 refine zQ ?_
 refine ROps.d (r := ptr (mXc a0 a1 a2)) (fs := []) (Γ' := []) rfl rfl rfl (TOp.box_s rfl rfl rfl) rfl ?_
 refine za (r := b false) ?_
 refine zN ?_
 refine RunC.seq ?_
 obtain ⟨r1, hf1, h⟩ := obind_some h
 refine RunC.regionW ?_
 refine ROps.d (r := b r1) (fs := []) (Γ' := []) rfl rfl rfl (TOp.callB (CallAs.func ent66 rfl rfl) (Bors.cons (Bor.ptr (Bors.cons (Bor.pure rfl) (Bors.cons (Bor.pure rfl) (Bors.cons (Bor.sl (fun _ => rfl)) Bors.nil)))) Bors.nil) rfl rfl (s_l02Is_ok a0 a1 a2 r1 hf1)) rfl ?_
 refine za (r := b r1) ?_
 refine zN ?_
 refine RunC.ret ?_
 have hq := Option.some.inj h
 subst q0
 exact bodyQ.pure (.inr rfl) rfl (Res.one rfl (RV.tmp rfl))
noncomputable def s_l02At (a0 : Int) (a1 : Int) (a2 : List F) (a3 : Int) (a4 : Int) : Option (F) :=
 olet (IntKind.i64.wrap (a3 * a1)) fun (x1 : Int) =>
 olet (IntKind.i64.wrap (x1 + a4)) fun (x2 : Int) =>
 obind (at? a2 x2) fun (e3 : F) =>
 some e3
theorem s_l02At_ok (a0 : Int) (a1 : Int) (a2 : List F) (a3 : Int) (a4 : Int) (q0 : F) (h : s_l02At a0 a1 a2 a3 a4 = some q0) : Ev Try.prog 163 [ptr (mXc a0 a1 a2), i64 a3, i64 a4] [] (f32 q0) [] := by
 refine Ev.start Try.func163 rfl rfl 0 (τ := [(0, ptr (mXc a0 a1 a2)), (1, i64 a3), (2, i64 a4)]) rfl (Γ' := []) rfl (n := 43) rfl (g := 0) rfl (fun _ => rfl) ?_
 unfold s_l02At at h
 refine zQ ?_
 refine zl (r := f32 (some 0)) (LOp.le (LOp.assign rfl rfl) (ALe.fl (by kernel_rfl) (by kernel_rfl))) ?_
 refine zN ?_
 refine RunC.seq ?_
 obtain ⟨x1, hx1, h⟩ := olet_some h
 obtain ⟨x2, hx2, h⟩ := olet_some h
 obtain ⟨e3, he3, h⟩ := obind_some h
 refine RunC.region_draw (Γ' := []) 15 mixed 
  (TR.l (r := ptr (mXc a0 a1 a2)) rfl rfl (LOp.move rfl rfl) <|
  (TR.l (r := ptr (mXc a0 a1 a2)) rfl rfl (LOp.nilCheck_ptr rfl rfl) <|
  (TR.l (r := ptr [(sFc a2)]) rfl rfl (LOp.fap und33 rfl siz26 rfl rfl rfl) <|
  (TR.l (r := (sFc a2)) rfl rfl (LOp.load1 agg26 rfl rfl) <|
  (TR.l (r := i64 a3) rfl rfl (LOp.move rfl rfl) <|
  (TR.l (r := ptr (mXc a0 a1 a2)) rfl rfl (LOp.move rfl rfl) <|
  (TR.l (r := ptr (mXc a0 a1 a2)) rfl rfl (LOp.nilCheck_ptr rfl rfl) <|
  (TR.l (r := ptr [i64 a1, (sFc a2)]) rfl rfl (LOp.fap und33 rfl siz2 rfl rfl rfl) <|
  (TR.l (r := i64 a1) rfl rfl (LOp.load1 agg2 rfl rfl) <|
  (TR.l (r := i64 x1) rfl rfl (LOp.eqr (LOp.mul rfl rfl rfl) (congrArg (ik .i64) hx1)) <|
  (TR.l (r := i64 a4) rfl rfl (LOp.move rfl rfl) <|
  (TR.l (r := i64 x2) rfl rfl (LOp.eqr (LOp.add rfl rfl rfl) (congrArg (ik .i64) hx2)) <|
  (TR.l (r := ptr [f32 e3]) rfl rfl (LOp.le (LOp.ix (f := f32) und26 siz28 rfl rfl rfl rfl he3) ALe.ptr) <|
  (TR.l (r := f32 e3) rfl rfl (LOp.load1 agg28 rfl rfl) <|
  (TR.l (r := f32 e3) rfl rfl (LOp.assign rfl rfl) <|
  TR.nil))))))))))))))) rfl (by kernel_rfl) rfl fills_nil rfl ?_
 iterate 15 refine ROps.dropS ?_
 refine ROps.drop0 ?_
 refine zN ?_
 refine RunC.ret ?_
 have hq := Option.some.inj h
 subst q0
 exact bodyQ.pure (.inr rfl) rfl (Res.one rfl (RV.tmp rfl))
end Go.Proofs.Ytkdociaoknmgbaa
