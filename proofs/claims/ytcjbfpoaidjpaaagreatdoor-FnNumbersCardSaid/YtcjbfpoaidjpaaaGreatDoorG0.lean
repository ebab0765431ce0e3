/- Generated. -/
import Derived.Test.YtcjbfpoaidjpaaaGreatDoorTys
namespace Go.Proofs.YtcjbfpoaidjpaaaGreatDoor
open Go Go.AM Go.AM.AV
set_option maxRecDepth 20000
set_option maxHeartbeats 4000000
set_option linter.unusedVariables false
set_option linter.unusedSimpArgs false
noncomputable def w_b10Long (a0 : List Int) (a1 : List Int) : Option (Bool) :=
 bsel (decide (1048576 < (a0.length : Int))) (
  some true) (
  some (decide (1048576 < (a1.length : Int))))
theorem w_b10Long_ok (a0 : List Int) (a1 : List Int) (q0 : Bool) (h : w_b10Long a0 a1 = some q0) : Ev Tryz.prog 5 [sl a0.length (a0.map (ik .u8)), sl a1.length (a1.map (ik .u8))] [] (b q0) [] := by
 refine Ev.start Tryz.func5 rfl rfl 0 (τ := [(0, sl a0.length (a0.map (ik .u8))), (1, sl a1.length (a1.map (ik .u8)))]) rfl (Γ' := []) rfl (n := 27) rfl (g := 0) rfl (fun _ => rfl) ?_
 unfold w_b10Long at h
 refine zQ ?_
 refine za (r := b false) ?_
 refine zN ?_
 refine RunC.seq ?_
 rcases bsel_some h with ⟨hc1, h⟩ | ⟨hc1, h⟩
 ·refine RunC.regionW ?_
  refine zm (r := sl a0.length (a0.map (ik .u8))) ?_
  refine zl (r := i64 (a0.length : Int)) (LOp.len_sl und22 rfl rfl) ?_
  refine zl (r := b true) (LOp.eqb (LOp.gtr rfl rfl rfl) hc1) ?_
  refine zm (r := b true) ?_
  iterate 3 (refine ROps.s rfl rfl rfl ?_)
  refine zl (r := b true) (LOp.pick_true rfl rfl rfl) ?_
  refine za (r := b true) ?_
  refine zN ?_
  refine RunC.ret ?_
  have hq := Option.some.inj h
  subst q0
  exact bodyQ.pure (.inr rfl) rfl (Res.one rfl (RV.tmp rfl))
 ·refine RunC.regionW ?_
  refine zm (r := sl a0.length (a0.map (ik .u8))) ?_
  refine zl (r := i64 (a0.length : Int)) (LOp.len_sl und22 rfl rfl) ?_
  refine zl (r := b false) (LOp.eqb (LOp.gtr rfl rfl rfl) hc1) ?_
  refine zm (r := b false) ?_
  refine zm (r := sl a1.length (a1.map (ik .u8))) ?_
  refine zl (r := i64 (a1.length : Int)) (LOp.len_sl und22 rfl rfl) ?_
  refine zl (r := b (decide (1048576 < (a1.length : Int)))) (LOp.gtr rfl rfl rfl) ?_
  refine zl (r := b (decide (1048576 < (a1.length : Int)))) (LOp.pick_false rfl rfl rfl) ?_
  refine za (r := b (decide (1048576 < (a1.length : Int)))) ?_
  refine zN ?_
  refine RunC.ret ?_
  have hq := Option.some.inj h
  subst q0
  exact bodyQ.pure (.inr rfl) rfl (Res.one rfl (RV.tmp rfl))
noncomputable def s_l00From (a0 : List Int) : Option ((List Int) × Int × Int) :=
 some (a0, 0, 0)
theorem s_l00From_ok (a0 : List Int) (q0 : List Int) (q1 : Int) (q2 : Int) (h : s_l00From a0 = some (q0, q1, q2)) : Ev Tryz.prog 38 [sl a0.length (a0.map (ik .u8))] [] (optr 0 0 0) [⟨0, some [sl q0.length (q0.map (ik .u8)), i64 q1, ik .u64 q2]⟩] := by
 refine Ev.start Tryz.func38 rfl rfl 1 (τ := [(0, sl a0.length (a0.map (ik .u8)))]) rfl (Γ' := [⟨0, none⟩]) rfl (n := 13) rfl (g := 0) rfl (fun _ => rfl) ?_
 unfold s_l00From at h
 refine zQ ?_
 refine za (r := x (.pointer none)) ?_
 refine zN ?_
 refine zQ ?_
 refine zm (r := sl a0.length (a0.map (ik .u8))) ?_
 refine zl (r := agg [sl a0.length (a0.map (ik .u8)), i64 0, ik .u64 0]) (LOp.build (qs := [(0, [sl a0.length (a0.map (ik .u8))])]) zer92 zok92 und92 plc92 rfl ⟨rfl, ⟨_, ALe.refl _, rfl⟩, trivial⟩ rfl) ?_
 refine ROps.d (r := optr 0 1 0) (fs := [(0, [sl a0.length (a0.map (ik .u8)), i64 0, ik .u64 0])]) (Γ' := [⟨1, some [sl a0.length (a0.map (ik .u8)), i64 0, ik .u64 0]⟩]) rfl rfl rfl (TOp.box_o (g := ⟨0, none⟩) 0 rfl rfl rfl rfl) rfl ?_
 refine za (r := optr 0 1 0) ?_
 refine zN ?_
 refine RunC.ret ?_
 have hq := Option.some.inj h
 obtain ⟨hq0, hq⟩ := Prod.mk.inj hq
 obtain ⟨hq1, hq⟩ := Prod.mk.inj hq
 subst q0
 subst q1
 subst q2
 exact bodyQ.mk (r' := optr 0 1 0) [(0, 1)] (.inr rfl) rfl (show List.Nodup [0] from by decide) rfl rfl (Res.one rfl (RV.tmp rfl)) (SelL.cells0 rfl (by first | rfl | simp [ren, rens, sigma, rens_f32, rens_f64, rens_i64, rens_ik, rens_str, rens_cp]) (lts_cons (lt_slk (fun _ => rfl)) (lts_cons rfl (lts_cons rfl lts_nil))) trivial)
noncomputable def s_l00Src_next_0p0_C0_k1 (a0 : List Int) (a1 : Int) (a2 : Int) (v3 : Int) : Option (Int × Int × Int) :=
 olet (IntKind.i64.wrap (a1 + 1)) fun (x4 : Int) =>
 olet (IntKind.u64.wrap (a2 * 6364136223846793005)) fun (x5 : Int) =>
 olet (IntKind.u64.wrap v3) fun (x6 : Int) =>
 olet (IntKind.u64.wrap (x5 + x6)) fun (x7 : Int) =>
 olet (IntKind.u64.wrap (x7 + 1442695040888963407)) fun (x8 : Int) =>
 bsel (decide (x4 ≤ (a0.length : Int))) (
  some (v3, x4, x8)) (
  need (decide ((0 : Int) ≤ 40)) <|
  olet (ishr .u64 x8 40) fun (x9 : Int) =>
  olet (iand .u64 x9 255) fun (x10 : Int) =>
  olet (IntKind.i64.wrap x10) fun (x11 : Int) =>
  some (x11, x4, x8))
noncomputable def s_l00Src_next_0p0_C0 (a0 : List Int) (a1 : Int) (a2 : Int) : Option (Int × Int × Int) :=
 bsel (decide (a1 < (a0.length : Int))) (
  obind (at? a0 a1) fun (e1 : Int) =>
  olet (IntKind.i64.wrap e1) fun (x2 : Int) =>
  s_l00Src_next_0p0_C0_k1 a0 a1 a2 x2) (
  s_l00Src_next_0p0_C0_k1 a0 a1 a2 0)
theorem s_l00Src_next_0p0_C0_ok (a0 : List Int) (a1 : Int) (a2 : Int) (q0 : Int) (q1 : Int) (q2 : Int) (h : s_l00Src_next_0p0_C0 a0 a1 a2 = some (q0, q1, q2)) : Ev Tryz.prog 75 [optr 0 0 0] [⟨0, some [sl a0.length (a0.map (ik .u8)), i64 a1, ik .u64 a2]⟩] (i64 q0) [⟨0, some [sl a0.length (a0.map (ik .u8)), i64 q1, ik .u64 q2]⟩] := by
 refine Ev.start Tryz.func75 rfl rfl 0 (τ := [(0, optr 0 0 0)]) rfl (Γ' := [⟨0, some [sl a0.length (a0.map (ik .u8)), i64 a1, ik .u64 a2]⟩]) rfl (n := 124) rfl (g := 1) rfl (by decide) ?_
 unfold s_l00Src_next_0p0_C0 at h
 iterate 2 (refine zQ ?_; refine za (r := i64 0) ?_; refine zN ?_)
 refine RunC.seq ?_
 refine RunC.cutN (fun τ Γ => ∃ (v3 : Int), WeakLe τ [(0, optr 0 0 0), (3, i64 v3)] ∧ DeadLe Γ [⟨0, some [sl a0.length (a0.map (ik .u8)), i64 a1, ik .u64 a2]⟩] ∧ s_l00Src_next_0p0_C0_k1 a0 a1 a2 v3 = some (q0, q1, q2)) ?_ ?_
 ·refine RunC.seq ?_
  rcases bsel_some h with ⟨hc1, h⟩ | ⟨hc1, h⟩
  ·refine RunC.region_draw (Γ' := [⟨0, some [sl a0.length (a0.map (ik .u8)), i64 a1, ik .u64 a2]⟩]) 10 mixed 
    (TR.l (r := optr 0 0 0) rfl rfl (LOp.move rfl rfl) <|
    (TR.l (r := optr 0 0 0) rfl rfl (LOp.nilCheck_optr rfl rfl) <|
    (TR.l (r := optr 0 0 1) rfl rfl (LOp.fao und92 rfl siz3 rfl rfl rfl) <|
    (TR.d (r := i64 a1) (fs := []) rfl rfl (TOp.load1_o rfl rfl agg3 rfl rfl) <|
    (TR.l (r := optr 0 0 0) rfl rfl (LOp.move rfl rfl) <|
    (TR.l (r := optr 0 0 0) rfl rfl (LOp.nilCheck_optr rfl rfl) <|
    (TR.l (r := optr 0 0 0) rfl rfl (LOp.fao und92 rfl siz22 rfl rfl rfl) <|
    (TR.d (r := sl a0.length (a0.map (ik .u8))) (fs := []) rfl rfl (TOp.load1_o rfl rfl agg22 rfl rfl) <|
    (TR.l (r := i64 (a0.length : Int)) rfl rfl (LOp.len_sl und22 rfl rfl) <|
    (TR.l (r := b true) rfl rfl (LOp.eqb (LOp.lss rfl rfl rfl) hc1) <|
    TR.nil)))))))))) rfl (by kernel_rfl) rfl fills_nil rfl ?_
   iterate 10 refine ROps.dropS ?_
   refine ROps.drop0 ?_
   refine zN ?_
   refine RunC.cond_true rfl rfl ?_
   obtain ⟨e1, he2, h⟩ := obind_some h
   obtain ⟨x2, hx3, h⟩ := olet_some h
   refine RunC.region_draw (Γ' := [⟨0, some [sl a0.length (a0.map (ik .u8)), i64 a1, ik .u64 a2]⟩]) 12 mixed 
    (TR.l (r := optr 0 0 0) rfl rfl (LOp.move rfl rfl) <|
    (TR.l (r := optr 0 0 0) rfl rfl (LOp.nilCheck_optr rfl rfl) <|
    (TR.l (r := optr 0 0 0) rfl rfl (LOp.fao und92 rfl siz22 rfl rfl rfl) <|
    (TR.d (r := sl a0.length (a0.map (ik .u8))) (fs := []) rfl rfl (TOp.load1_o rfl rfl agg22 rfl rfl) <|
    (TR.l (r := optr 0 0 0) rfl rfl (LOp.move rfl rfl) <|
    (TR.l (r := optr 0 0 0) rfl rfl (LOp.nilCheck_optr rfl rfl) <|
    (TR.l (r := optr 0 0 1) rfl rfl (LOp.fao und92 rfl siz3 rfl rfl rfl) <|
    (TR.d (r := i64 a1) (fs := []) rfl rfl (TOp.load1_o rfl rfl agg3 rfl rfl) <|
    (TR.l (r := ptr [ik .u8 e1]) rfl rfl (LOp.le (LOp.ix (f := (ik .u8)) und22 siz5 rfl rfl rfl rfl he2) ALe.ptr) <|
    (TR.l (r := ik .u8 e1) rfl rfl (LOp.load1 agg5 rfl rfl) <|
    (TR.l (r := i64 x2) rfl rfl (LOp.eqr (LOp.i2i (src := 5) (dst := 3) ⟨_, pun5⟩ pun3 rfl rfl) (congrArg (ik .i64) hx3)) <|
    (TR.l (r := i64 x2) rfl rfl (LOp.assign rfl rfl) <|
    TR.nil)))))))))))) rfl (by kernel_rfl) rfl fills_nil rfl ?_
   iterate 12 refine ROps.dropS ?_
   refine ROps.drop0 ?_
   refine zN ?_
   exact ⟨x2, ⟨aR, aR, trivial⟩, ⟨⟨rfl, .inr rfl⟩, trivial⟩, h⟩
  ·refine RunC.region_draw (Γ' := [⟨0, some [sl a0.length (a0.map (ik .u8)), i64 a1, ik .u64 a2]⟩]) 10 mixed 
    (TR.l (r := optr 0 0 0) rfl rfl (LOp.move rfl rfl) <|
    (TR.l (r := optr 0 0 0) rfl rfl (LOp.nilCheck_optr rfl rfl) <|
    (TR.l (r := optr 0 0 1) rfl rfl (LOp.fao und92 rfl siz3 rfl rfl rfl) <|
    (TR.d (r := i64 a1) (fs := []) rfl rfl (TOp.load1_o rfl rfl agg3 rfl rfl) <|
    (TR.l (r := optr 0 0 0) rfl rfl (LOp.move rfl rfl) <|
    (TR.l (r := optr 0 0 0) rfl rfl (LOp.nilCheck_optr rfl rfl) <|
    (TR.l (r := optr 0 0 0) rfl rfl (LOp.fao und92 rfl siz22 rfl rfl rfl) <|
    (TR.d (r := sl a0.length (a0.map (ik .u8))) (fs := []) rfl rfl (TOp.load1_o rfl rfl agg22 rfl rfl) <|
    (TR.l (r := i64 (a0.length : Int)) rfl rfl (LOp.len_sl und22 rfl rfl) <|
    (TR.l (r := b false) rfl rfl (LOp.eqb (LOp.lss rfl rfl rfl) hc1) <|
    TR.nil)))))))))) rfl (by kernel_rfl) rfl fills_nil rfl ?_
   iterate 10 refine ROps.dropS ?_
   refine ROps.drop0 ?_
   refine zN ?_
   refine RunC.cond_false rfl rfl ?_
   refine RunC.skip ?_
   exact ⟨0, ⟨aR, aR, trivial⟩, ⟨⟨rfl, .inr rfl⟩, trivial⟩, h⟩
 ·rintro τ2 Γ2 ⟨v3, hw2, hd2, h⟩
  refine RunC.wl hw2 hd2 ?_
  unfold s_l00Src_next_0p0_C0_k1 at h
  refine RunC.seq ?_
  obtain ⟨x4, hx4, h⟩ := olet_some h
  refine RunC.regionW ?_
  refine zm (r := optr 0 0 0) ?_
  refine zl (r := optr 0 0 0) (LOp.nilCheck_optr rfl rfl) ?_
  refine zl (r := optr 0 0 1) (LOp.fao und92 rfl siz3 rfl rfl rfl) ?_
  refine ROps.d (r := i64 a1) (fs := []) (Γ' := [⟨0, some [sl a0.length (a0.map (ik .u8)), i64 a1, ik .u64 a2]⟩]) rfl rfl rfl (TOp.load1_o rfl rfl agg3 rfl rfl) rfl ?_
  refine zl (r := i64 x4) (LOp.eqr (LOp.add rfl rfl rfl) (congrArg (ik .i64) hx4)) ?_
  refine zl (r := optr 0 0 0) (LOp.nilCheck_optr rfl rfl) ?_
  refine zl (r := optr 0 0 1) (LOp.fao und92 rfl siz3 rfl rfl rfl) ?_
  refine ROps.store_le (r := i64 x4) (l' := [sl a0.length (a0.map (ik .u8)), i64 x4, ik .u64 a2]) (Γ' := [⟨0, some [sl a0.length (a0.map (ik .u8)), i64 x4, ik .u64 a2]⟩]) rfl siz3 rfl rfl rfl aR rfl rfl rfl rfl (Nat.le_of_ble_eq_true rfl) rfl rfl ?_
  refine zN ?_
  refine RunC.seq ?_
  obtain ⟨x5, hx5, h⟩ := olet_some h
  obtain ⟨x6, hx6, h⟩ := olet_some h
  obtain ⟨x7, hx7, h⟩ := olet_some h
  obtain ⟨x8, hx8, h⟩ := olet_some h
  refine RunC.regionW ?_
  iterate 2 (refine zm (r := optr 0 0 0) ?_)
  refine zl (r := optr 0 0 0) (LOp.nilCheck_optr rfl rfl) ?_
  refine zl (r := optr 0 0 2) (LOp.fao und92 rfl siz90 rfl rfl rfl) ?_
  refine ROps.d (r := ik .u64 a2) (fs := []) (Γ' := [⟨0, some [sl a0.length (a0.map (ik .u8)), i64 x4, ik .u64 a2]⟩]) rfl rfl rfl (TOp.load1_o rfl rfl agg90 rfl rfl) rfl ?_
  refine zl (r := ik .u64 x5) (LOp.eqr (LOp.mul rfl rfl rfl) (congrArg (ik .u64) hx5)) ?_
  refine zm (r := i64 v3) ?_
  refine zl (r := ik .u64 x6) (LOp.eqr (LOp.i2i (src := 3) (dst := 90) ⟨_, pun3⟩ pun90 rfl rfl) (congrArg (ik .u64) hx6)) ?_
  refine zl (r := ik .u64 x7) (LOp.eqr (LOp.add rfl rfl rfl) (congrArg (ik .u64) hx7)) ?_
  refine zl (r := ik .u64 x8) (LOp.eqr (LOp.add rfl rfl rfl) (congrArg (ik .u64) hx8)) ?_
  refine zl (r := optr 0 0 0) (LOp.nilCheck_optr rfl rfl) ?_
  refine zl (r := optr 0 0 2) (LOp.fao und92 rfl siz90 rfl rfl rfl) ?_
  refine ROps.store_le (r := ik .u64 x8) (l' := [sl a0.length (a0.map (ik .u8)), i64 x4, ik .u64 x8]) (Γ' := [⟨0, some [sl a0.length (a0.map (ik .u8)), i64 x4, ik .u64 x8]⟩]) rfl siz90 rfl rfl rfl aR rfl rfl rfl rfl (Nat.le_of_ble_eq_true rfl) rfl rfl ?_
  refine zN ?_
  refine RunC.wl (τ' := [(0, optr 0 0 0), (3, i64 v3)]) (Γ' := [⟨0, some [sl a0.length (a0.map (ik .u8)), i64 x4, ik .u64 x8]⟩]) ⟨aR, aR, trivial⟩ ⟨⟨rfl, .inr rfl⟩, trivial⟩ ?_
  iterate 2 (refine RunC.seq ?_)
  rcases bsel_some h with ⟨hc9, h⟩ | ⟨hc9, h⟩
  ·refine RunC.region_draw (Γ' := [⟨0, some [sl a0.length (a0.map (ik .u8)), i64 x4, ik .u64 x8]⟩]) 10 mixed 
    (TR.l (r := optr 0 0 0) rfl rfl (LOp.move rfl rfl) <|
    (TR.l (r := optr 0 0 0) rfl rfl (LOp.nilCheck_optr rfl rfl) <|
    (TR.l (r := optr 0 0 1) rfl rfl (LOp.fao und92 rfl siz3 rfl rfl rfl) <|
    (TR.d (r := i64 x4) (fs := []) rfl rfl (TOp.load1_o rfl rfl agg3 rfl rfl) <|
    (TR.l (r := optr 0 0 0) rfl rfl (LOp.move rfl rfl) <|
    (TR.l (r := optr 0 0 0) rfl rfl (LOp.nilCheck_optr rfl rfl) <|
    (TR.l (r := optr 0 0 0) rfl rfl (LOp.fao und92 rfl siz22 rfl rfl rfl) <|
    (TR.d (r := sl a0.length (a0.map (ik .u8))) (fs := []) rfl rfl (TOp.load1_o rfl rfl agg22 rfl rfl) <|
    (TR.l (r := i64 (a0.length : Int)) rfl rfl (LOp.len_sl und22 rfl rfl) <|
    (TR.l (r := b true) rfl rfl (LOp.eqb (LOp.leq rfl rfl rfl) hc9) <|
    TR.nil)))))))))) rfl (by kernel_rfl) rfl fills_nil rfl ?_
   iterate 10 refine ROps.dropS ?_
   refine ROps.drop0 ?_
   refine zN ?_
   refine RunC.cond_true rfl rfl ?_
   refine zQ ?_
   refine zm (r := i64 v3) ?_
   refine za (r := i64 v3) ?_
   refine zN ?_
   refine RunC.ret ?_
   have hq := Option.some.inj h
   obtain ⟨hq0, hq⟩ := Prod.mk.inj hq
   obtain ⟨hq1, hq⟩ := Prod.mk.inj hq
   subst q0
   subst q1
   subst q2
   exact bodyQ.mk (r' := i64 v3) [(0, 0)] (.inr rfl) rfl (show List.Nodup [0] from by decide) rfl rfl (Res.one rfl (RV.tmp rfl)) (SelL.cells rfl (by first | rfl | simp [ren, rens, sigma, rens_f32, rens_f64, rens_i64, rens_ik, rens_str, rens_cp]) (lts_cons (lt_slk (fun _ => rfl)) (lts_cons rfl (lts_cons rfl lts_nil))) trivial)
  ·refine RunC.region_draw (Γ' := [⟨0, some [sl a0.length (a0.map (ik .u8)), i64 x4, ik .u64 x8]⟩]) 10 mixed 
    (TR.l (r := optr 0 0 0) rfl rfl (LOp.move rfl rfl) <|
    (TR.l (r := optr 0 0 0) rfl rfl (LOp.nilCheck_optr rfl rfl) <|
    (TR.l (r := optr 0 0 1) rfl rfl (LOp.fao und92 rfl siz3 rfl rfl rfl) <|
    (TR.d (r := i64 x4) (fs := []) rfl rfl (TOp.load1_o rfl rfl agg3 rfl rfl) <|
    (TR.l (r := optr 0 0 0) rfl rfl (LOp.move rfl rfl) <|
    (TR.l (r := optr 0 0 0) rfl rfl (LOp.nilCheck_optr rfl rfl) <|
    (TR.l (r := optr 0 0 0) rfl rfl (LOp.fao und92 rfl siz22 rfl rfl rfl) <|
    (TR.d (r := sl a0.length (a0.map (ik .u8))) (fs := []) rfl rfl (TOp.load1_o rfl rfl agg22 rfl rfl) <|
    (TR.l (r := i64 (a0.length : Int)) rfl rfl (LOp.len_sl und22 rfl rfl) <|
    (TR.l (r := b false) rfl rfl (LOp.eqb (LOp.leq rfl rfl rfl) hc9) <|
    TR.nil)))))))))) rfl (by kernel_rfl) rfl fills_nil rfl ?_
   iterate 10 refine ROps.dropS ?_
   refine ROps.drop0 ?_
   refine zN ?_
   refine RunC.cond_false rfl rfl ?_
   refine RunC.skip ?_
   refine RunC.seq ?_
   obtain ⟨hz10, h⟩ := need_some h
   obtain ⟨x9, hx11, h⟩ := olet_some h
   obtain ⟨x10, hx12, h⟩ := olet_some h
   obtain ⟨x11, hx13, h⟩ := olet_some h
   refine RunC.regionW ?_
   refine zm (r := optr 0 0 0) ?_
   refine zl (r := optr 0 0 0) (LOp.nilCheck_optr rfl rfl) ?_
   refine zl (r := optr 0 0 2) (LOp.fao und92 rfl siz90 rfl rfl rfl) ?_
   refine ROps.d (r := ik .u64 x8) (fs := []) (Γ' := [⟨0, some [sl a0.length (a0.map (ik .u8)), i64 x4, ik .u64 x8]⟩]) rfl rfl rfl (TOp.load1_o rfl rfl agg90 rfl rfl) rfl ?_
   refine zl (r := ik .u64 x9) (LOp.eqr (LOp.shr rfl rfl rfl (of_decide_eq_true hz10)) (congrArg (ik .u64) hx11)) ?_
   refine zl (r := ik .u64 x10) (LOp.eqr (LOp.iand rfl rfl rfl) (congrArg (ik .u64) hx12)) ?_
   refine zl (r := i64 x11) (LOp.eqr (LOp.i2i (src := 90) (dst := 2) ⟨_, pun90⟩ pun2 rfl rfl) (congrArg (ik .i64) hx13)) ?_
   refine za (r := i64 x11) ?_
   refine zN ?_
   refine RunC.ret ?_
   have hq := Option.some.inj h
   obtain ⟨hq0, hq⟩ := Prod.mk.inj hq
   obtain ⟨hq1, hq⟩ := Prod.mk.inj hq
   subst q0
   subst q1
   subst q2
   exact bodyQ.mk (r' := i64 x11) [(0, 0)] (.inr rfl) rfl (show List.Nodup [0] from by decide) rfl rfl (Res.one rfl (RV.tmp rfl)) (SelL.cells rfl (by first | rfl | simp [ren, rens, sigma, rens_f32, rens_f64, rens_i64, rens_ik, rens_str, rens_cp]) (lts_cons (lt_slk (fun _ => rfl)) (lts_cons rfl (lts_cons rfl lts_nil))) trivial)
noncomputable def s_l00Src_pick_0p0_C0_k1 (a0 : Int) (v9 : Int) (v10 : Int) (v11 : Int) : Option (Int × Int × Int) :=
 need (!decide (a0 = 0)) <|
 olet (v11.tmod a0) fun (x12 : Int) =>
 some (x12, v9, v10)
noncomputable def s_l00Src_pick_0p0_C0 (a0 : Int) (a1 : List Int) (a2 : Int) (a3 : Int) : Option (Int × Int × Int) :=
 bsel (decide (a0 ≤ 1)) (
  some (0, a2, a3)) (
  obind3 (s_l00Src_next_0p0_C0 a1 a2 a3) fun (r1 : Int) (r2 : Int) (r3 : Int) =>
  bsel (decide (200 < a0)) (
   olet (IntKind.i64.wrap (r1 * 256)) fun (x4 : Int) =>
   obind3 (s_l00Src_next_0p0_C0 a1 r2 r3) fun (r5 : Int) (r6 : Int) (r7 : Int) =>
   olet (IntKind.i64.wrap (x4 + r5)) fun (x8 : Int) =>
   s_l00Src_pick_0p0_C0_k1 a0 r6 r7 x8) (
   s_l00Src_pick_0p0_C0_k1 a0 r2 r3 r1))
theorem s_l00Src_pick_0p0_C0_ok (a0 : Int) (a1 : List Int) (a2 : Int) (a3 : Int) (q0 : Int) (q1 : Int) (q2 : Int) (h : s_l00Src_pick_0p0_C0 a0 a1 a2 a3 = some (q0, q1, q2)) : Ev Tryz.prog 39 [optr 0 0 0, i64 a0] [⟨0, some [sl a1.length (a1.map (ik .u8)), i64 a2, ik .u64 a3]⟩] (i64 q0) [⟨0, some [sl a1.length (a1.map (ik .u8)), i64 q1, ik .u64 q2]⟩] := by
 refine Ev.start Tryz.func39 rfl rfl 0 (τ := [(0, optr 0 0 0), (1, i64 a0)]) rfl (Γ' := [⟨0, some [sl a1.length (a1.map (ik .u8)), i64 a2, ik .u64 a3]⟩]) rfl (n := 40) rfl (g := 1) rfl (by decide) ?_
 unfold s_l00Src_pick_0p0_C0 at h
 refine zQ ?_
 refine za (r := i64 0) ?_
 refine zN ?_
 iterate 2 (refine RunC.seq ?_)
 rcases bsel_some h with ⟨hc1, h⟩ | ⟨hc1, h⟩
 ·refine RunC.regionW ?_
  refine zm (r := i64 a0) ?_
  refine zl (r := b true) (LOp.eqb (LOp.leq rfl rfl rfl) hc1) ?_
  refine zN ?_
  refine RunC.cond_true rfl rfl ?_
  refine zQ ?_
  refine za (r := i64 0) ?_
  refine zN ?_
  refine RunC.ret ?_
  have hq := Option.some.inj h
  obtain ⟨hq0, hq⟩ := Prod.mk.inj hq
  obtain ⟨hq1, hq⟩ := Prod.mk.inj hq
  subst q0
  subst q1
  subst q2
  exact bodyQ.mk (r' := i64 0) [(0, 0)] (.inr rfl) rfl (show List.Nodup [0] from by decide) rfl rfl (Res.one rfl (RV.tmp rfl)) (SelL.cells rfl (by first | rfl | simp [ren, rens, sigma, rens_f32, rens_f64, rens_i64, rens_ik, rens_str, rens_cp]) (lts_cons (lt_slk (fun _ => rfl)) (lts_cons rfl (lts_cons rfl lts_nil))) trivial)
 ·refine RunC.regionW ?_
  refine zm (r := i64 a0) ?_
  refine zl (r := b false) (LOp.eqb (LOp.leq rfl rfl rfl) hc1) ?_
  refine zN ?_
  refine RunC.cond_false rfl rfl ?_
  refine RunC.skip ?_
  refine RunC.seq ?_
  obtain ⟨r1, r2, r3, hf2, h⟩ := obind3_some h
  refine RunC.regionW ?_
  refine zm (r := optr 0 0 0) ?_
  refine ROps.callO (A := [optr 0 0 0]) (args := [optr 0 0 0]) (Γc := [⟨0, some [sl a1.length (a1.map (ik .u8)), i64 a2, ik .u64 a3]⟩]) (Γc' := [⟨0, some [sl a1.length (a1.map (ik .u8)), i64 r2, ik .u64 r3]⟩]) (r' := i64 r1) (Γ' := [⟨0, some [sl a1.length (a1.map (ik .u8)), i64 r2, ik .u64 r3]⟩]) [(0, 0)] [] rfl (CallAs.func ent75 rfl rfl) rfl rfl (SelOk.of (show List.Nodup [0] from by decide) (SelL.cells0 rfl (by simp [ren, rens, sigma, rens_f32, rens_f64, rens_i64, rens_ik, rens_str, rens_cp]) (lts_cons (lt_slk (fun _ => rfl)) (lts_cons rfl (lts_cons rfl lts_nil))) trivial)) (live_of ⟨⟨_, _, rfl⟩, trivial⟩) (by simp [ren, rens, sigma, rens_f32, rens_f64, rens_i64, rens_ik, rens_str, rens_cp]) rfl (s_l00Src_next_0p0_C0_ok a1 a2 a3 r1 r2 r3 hf2) rfl (news_of trivial) (show List.Nodup [0] from by decide) (by simp [ren, rens, sigma]) (by simp [backOb, sigma, ren, rens, rens_f32, rens_f64, rens_i64, rens_ik, rens_str, rens_cp]) ?_
  refine za (r := i64 r1) ?_
  refine zN ?_
  refine RunC.seq ?_
  refine RunC.cutN (fun τ Γ => ∃ (v9 : Int) (v10 : Int) (v11 : Int), WeakLe τ [(1, i64 a0), (5, i64 v11)] ∧ DeadLe Γ [⟨0, some [sl a1.length (a1.map (ik .u8)), i64 v9, ik .u64 v10]⟩] ∧ s_l00Src_pick_0p0_C0_k1 a0 v9 v10 v11 = some (q0, q1, q2)) ?_ ?_
  ·refine RunC.seq ?_
   rcases bsel_some h with ⟨hc3, h⟩ | ⟨hc3, h⟩
   ·refine RunC.regionW ?_
    refine zm (r := i64 a0) ?_
    refine zl (r := b true) (LOp.eqb (LOp.gtr rfl rfl rfl) hc3) ?_
    refine zN ?_
    refine RunC.cond_true rfl rfl ?_
    obtain ⟨x4, hx4, h⟩ := olet_some h
    obtain ⟨r5, r6, r7, hf5, h⟩ := obind3_some h
    obtain ⟨x8, hx6, h⟩ := olet_some h
    refine RunC.regionW ?_
    refine zm (r := i64 r1) ?_
    refine zl (r := i64 x4) (LOp.eqr (LOp.mul rfl rfl rfl) (congrArg (ik .i64) hx4)) ?_
    refine zm (r := optr 0 0 0) ?_
    refine ROps.callO (A := [optr 0 0 0]) (args := [optr 0 0 0]) (Γc := [⟨0, some [sl a1.length (a1.map (ik .u8)), i64 r2, ik .u64 r3]⟩]) (Γc' := [⟨0, some [sl a1.length (a1.map (ik .u8)), i64 r6, ik .u64 r7]⟩]) (r' := i64 r5) (Γ' := [⟨0, some [sl a1.length (a1.map (ik .u8)), i64 r6, ik .u64 r7]⟩]) [(0, 0)] [] rfl (CallAs.func ent75 rfl rfl) rfl rfl (SelOk.of (show List.Nodup [0] from by decide) (SelL.cells0 rfl (by simp [ren, rens, sigma, rens_f32, rens_f64, rens_i64, rens_ik, rens_str, rens_cp]) (lts_cons (lt_slk (fun _ => rfl)) (lts_cons rfl (lts_cons rfl lts_nil))) trivial)) (live_of ⟨⟨_, _, rfl⟩, trivial⟩) (by simp [ren, rens, sigma, rens_f32, rens_f64, rens_i64, rens_ik, rens_str, rens_cp]) rfl (s_l00Src_next_0p0_C0_ok a1 r2 r3 r5 r6 r7 hf5) rfl (news_of trivial) (show List.Nodup [0] from by decide) (by simp [ren, rens, sigma]) (by simp [backOb, sigma, ren, rens, rens_f32, rens_f64, rens_i64, rens_ik, rens_str, rens_cp]) ?_
    refine zl (r := i64 x8) (LOp.eqr (LOp.add rfl rfl rfl) (congrArg (ik .i64) hx6)) ?_
    refine za (r := i64 x8) ?_
    refine zN ?_
    exact ⟨r6, r7, x8, ⟨aR, aR, trivial⟩, ⟨⟨rfl, .inr rfl⟩, trivial⟩, h⟩
   ·refine RunC.regionW ?_
    refine zm (r := i64 a0) ?_
    refine zl (r := b false) (LOp.eqb (LOp.gtr rfl rfl rfl) hc3) ?_
    refine zN ?_
    refine RunC.cond_false rfl rfl ?_
    refine RunC.skip ?_
    exact ⟨r2, r3, r1, ⟨aR, aR, trivial⟩, ⟨⟨rfl, .inr rfl⟩, trivial⟩, h⟩
  ·rintro τ2 Γ2 ⟨v9, v10, v11, hw2, hd2, h⟩
   refine RunC.wl hw2 hd2 ?_
   unfold s_l00Src_pick_0p0_C0_k1 at h
   refine RunC.seq ?_
   obtain ⟨hz7, h⟩ := need_some h
   obtain ⟨x12, hx8, h⟩ := olet_some h
   refine RunC.regionW ?_
   refine zm (r := i64 v11) ?_
   refine zm (r := i64 a0) ?_
   refine zl (r := i64 x12) (LOp.eqr (LOp.rem rfl rfl rfl (nz hz7)) (congrArg (ik .i64) hx8)) ?_
   refine za (r := i64 x12) ?_
   refine zN ?_
   refine RunC.ret ?_
   have hq := Option.some.inj h
   obtain ⟨hq0, hq⟩ := Prod.mk.inj hq
   obtain ⟨hq1, hq⟩ := Prod.mk.inj hq
   subst q0
   subst q1
   subst q2
   exact bodyQ.mk (r' := i64 x12) [(0, 0)] (.inr rfl) rfl (show List.Nodup [0] from by decide) rfl rfl (Res.one rfl (RV.tmp rfl)) (SelL.cells rfl (by first | rfl | simp [ren, rens, sigma, rens_f32, rens_f64, rens_i64, rens_ik, rens_str, rens_cp]) (lts_cons (lt_slk (fun _ => rfl)) (lts_cons rfl (lts_cons rfl lts_nil))) trivial)
noncomputable def s_l00Src_one_0p0_C0 (a0 : Int) (a1 : List Int) (a2 : Int) (a3 : Int) : Option (Bool × Int × Int) :=
 obind3 (s_l00Src_pick_0p0_C0 a0 a1 a2 a3) fun (r1 : Int) (r2 : Int) (r3 : Int) =>
 some ((decide (r1 = 0)), r2, r3)
theorem s_l00Src_one_0p0_C0_ok (a0 : Int) (a1 : List Int) (a2 : Int) (a3 : Int) (q0 : Bool) (q1 : Int) (q2 : Int) (h : s_l00Src_one_0p0_C0 a0 a1 a2 a3 = some (q0, q1, q2)) : Ev Tryz.prog 52 [optr 0 0 0, i64 a0] [⟨0, some [sl a1.length (a1.map (ik .u8)), i64 a2, ik .u64 a3]⟩] (b q0) [⟨0, some [sl a1.length (a1.map (ik .u8)), i64 q1, ik .u64 q2]⟩] := by
 refine Ev.start Tryz.func52 rfl rfl 0 (τ := [(0, optr 0 0 0), (1, i64 a0)]) rfl (Γ' := [⟨0, some [sl a1.length (a1.map (ik .u8)), i64 a2, ik .u64 a3]⟩]) rfl (n := 18) rfl (g := 1) rfl (by decide) ?_
 unfold s_l00Src_one_0p0_C0 at h
 refine zQ ?_
 refine za (r := b false) ?_
 refine zN ?_
 refine RunC.seq ?_
 obtain ⟨r1, r2, r3, hf1, h⟩ := obind3_some h
 refine RunC.regionW ?_
 refine zm (r := optr 0 0 0) ?_
 refine zm (r := i64 a0) ?_
 refine ROps.callO (A := [optr 0 0 0, i64 a0]) (args := [optr 0 0 0, i64 a0]) (Γc := [⟨0, some [sl a1.length (a1.map (ik .u8)), i64 a2, ik .u64 a3]⟩]) (Γc' := [⟨0, some [sl a1.length (a1.map (ik .u8)), i64 r2, ik .u64 r3]⟩]) (r' := i64 r1) (Γ' := [⟨0, some [sl a1.length (a1.map (ik .u8)), i64 r2, ik .u64 r3]⟩]) [(0, 0)] [] rfl (CallAs.func ent39 rfl rfl) rfl rfl (SelOk.of (show List.Nodup [0] from by decide) (SelL.cells0 rfl (by simp [ren, rens, sigma, rens_f32, rens_f64, rens_i64, rens_ik, rens_str, rens_cp]) (lts_cons (lt_slk (fun _ => rfl)) (lts_cons rfl (lts_cons rfl lts_nil))) trivial)) (live_of ⟨⟨_, _, rfl⟩, trivial⟩) (by simp [ren, rens, sigma, rens_f32, rens_f64, rens_i64, rens_ik, rens_str, rens_cp]) rfl (s_l00Src_pick_0p0_C0_ok a0 a1 a2 a3 r1 r2 r3 hf1) rfl (news_of trivial) (show List.Nodup [0] from by decide) (by simp [ren, rens, sigma]) (by simp [backOb, sigma, ren, rens, rens_f32, rens_f64, rens_i64, rens_ik, rens_str, rens_cp]) ?_
 refine zl (r := b (decide (r1 = 0))) (LOp.eql rfl rfl rfl) ?_
 refine za (r := b (decide (r1 = 0))) ?_
 refine zN ?_
 refine RunC.ret ?_
 have hq := Option.some.inj h
 obtain ⟨hq0, hq⟩ := Prod.mk.inj hq
 obtain ⟨hq1, hq⟩ := Prod.mk.inj hq
 subst q0
 subst q1
 subst q2
 exact bodyQ.mk (r' := b (decide (r1 = 0))) [(0, 0)] (.inr rfl) rfl (show List.Nodup [0] from by decide) rfl rfl (Res.one rfl (RV.tmp rfl)) (SelL.cells rfl (by first | rfl | simp [ren, rens, sigma, rens_f32, rens_f64, rens_i64, rens_ik, rens_str, rens_cp]) (lts_cons (lt_slk (fun _ => rfl)) (lts_cons rfl (lts_cons rfl lts_nil))) trivial)
noncomputable def s_l01From (a0 : Int) : Option (F) :=
 olet (IntKind.u32.wrap a0) fun (x1 : Int) =>
 need ((decide (0 ≤ x1) && decide (x1.toNat < 2 ^ FloatKind.f32.format.width))) <|
 some (ffb .f32 x1)
theorem s_l01From_ok (a0 : Int) (q0 : F) (h : s_l01From a0 = some q0) : Ev Tryz.prog 53 [i64 a0] [] (f32 q0) [] := by
 refine Ev.start Tryz.func53 rfl rfl 0 (τ := [(0, i64 a0)]) rfl (Γ' := []) rfl (n := 13) rfl (g := 0) rfl (fun _ => rfl) ?_
 unfold s_l01From at h
 refine zQ ?_
 refine zl (r := f32 (some 0)) (LOp.le (LOp.assign rfl rfl) (ALe.fl (by kernel_rfl) (by kernel_rfl))) ?_
 refine zN ?_
 refine RunC.seq ?_
 obtain ⟨x1, hx1, h⟩ := olet_some h
 obtain ⟨hz2, h⟩ := need_some h
 refine RunC.regionW ?_
 refine zm (r := i64 a0) ?_
 refine zl (r := ik .u32 x1) (LOp.eqr (LOp.i2i (src := 2) (dst := 79) ⟨_, pun2⟩ pun79 rfl rfl) (congrArg (ik .u32) hx1)) ?_
 refine zl (r := f32 (ffb .f32 x1)) (LOp.ffromx ext56 rfl rfl hz2) ?_
 refine za (r := f32 (ffb .f32 x1)) ?_
 refine zN ?_
 refine RunC.ret ?_
 have hq := Option.some.inj h
 subst q0
 exact bodyQ.pure (.inr rfl) rfl (Res.one rfl (RV.tmp rfl))
noncomputable def s_l01DrawPlain_0p0_C0 (a0 : List Int) (a1 : Int) (a2 : Int) : Option (F × Int × Int) :=
 obind3 (s_l00Src_pick_0p0_C0 129 a0 a1 a2) fun (r1 : Int) (r2 : Int) (r3 : Int) =>
 olet (IntKind.i64.wrap (r1 - 64)) fun (x4 : Int) =>
 obind3 (s_l00Src_one_0p0_C0 4 a0 r2 r3) fun (r5 : Bool) (r6 : Int) (r7 : Int) =>
 bsel r5 (
  olet (fint .f32 x4) fun (x8 : F) =>
  olet (fop .quo .f32 x8 (some 1088421888)) fun (x9 : F) =>
  some (x9, r6, r7)) (
  olet (fint .f32 x4) fun (x10 : F) =>
  olet (fop .quo .f32 x10 (some 1098907648)) fun (x11 : F) =>
  some (x11, r6, r7))
theorem s_l01DrawPlain_0p0_C0_ok (a0 : List Int) (a1 : Int) (a2 : Int) (q0 : F) (q1 : Int) (q2 : Int) (h : s_l01DrawPlain_0p0_C0 a0 a1 a2 = some (q0, q1, q2)) : Ev Tryz.prog 84 [optr 0 0 0] [⟨0, some [sl a0.length (a0.map (ik .u8)), i64 a1, ik .u64 a2]⟩] (f32 q0) [⟨0, some [sl a0.length (a0.map (ik .u8)), i64 q1, ik .u64 q2]⟩] := by
 refine Ev.start Tryz.func84 rfl rfl 0 (τ := [(0, optr 0 0 0)]) rfl (Γ' := [⟨0, some [sl a0.length (a0.map (ik .u8)), i64 a1, ik .u64 a2]⟩]) rfl (n := 30) rfl (g := 1) rfl (by decide) ?_
 unfold s_l01DrawPlain_0p0_C0 at h
 refine zQ ?_
 refine zl (r := f32 (some 0)) (LOp.le (LOp.assign rfl rfl) (ALe.fl (by kernel_rfl) (by kernel_rfl))) ?_
 refine zN ?_
 refine RunC.seq ?_
 obtain ⟨r1, r2, r3, hf1, h⟩ := obind3_some h
 obtain ⟨x4, hx2, h⟩ := olet_some h
 refine RunC.regionW ?_
 refine zm (r := optr 0 0 0) ?_
 refine ROps.callO (A := [optr 0 0 0, i64 129]) (args := [optr 0 0 0, i64 129]) (Γc := [⟨0, some [sl a0.length (a0.map (ik .u8)), i64 a1, ik .u64 a2]⟩]) (Γc' := [⟨0, some [sl a0.length (a0.map (ik .u8)), i64 r2, ik .u64 r3]⟩]) (r' := i64 r1) (Γ' := [⟨0, some [sl a0.length (a0.map (ik .u8)), i64 r2, ik .u64 r3]⟩]) [(0, 0)] [] rfl (CallAs.func ent39 rfl rfl) rfl rfl (SelOk.of (show List.Nodup [0] from by decide) (SelL.cells0 rfl (by simp [ren, rens, sigma, rens_f32, rens_f64, rens_i64, rens_ik, rens_str, rens_cp]) (lts_cons (lt_slk (fun _ => rfl)) (lts_cons rfl (lts_cons rfl lts_nil))) trivial)) (live_of ⟨⟨_, _, rfl⟩, trivial⟩) (by simp [ren, rens, sigma, rens_f32, rens_f64, rens_i64, rens_ik, rens_str, rens_cp]) rfl (s_l00Src_pick_0p0_C0_ok 129 a0 a1 a2 r1 r2 r3 hf1) rfl (news_of trivial) (show List.Nodup [0] from by decide) (by simp [ren, rens, sigma]) (by simp [backOb, sigma, ren, rens, rens_f32, rens_f64, rens_i64, rens_ik, rens_str, rens_cp]) ?_
 refine zl (r := i64 x4) (LOp.eqr (LOp.sub rfl rfl rfl) (congrArg (ik .i64) hx2)) ?_
 refine za (r := i64 x4) ?_
 refine zN ?_
 iterate 2 (refine RunC.seq ?_)
 obtain ⟨r5, r6, r7, hf3, h⟩ := obind3_some h
 refine RunC.regionW ?_
 refine zm (r := optr 0 0 0) ?_
 refine ROps.callO (A := [optr 0 0 0, i64 4]) (args := [optr 0 0 0, i64 4]) (Γc := [⟨0, some [sl a0.length (a0.map (ik .u8)), i64 r2, ik .u64 r3]⟩]) (Γc' := [⟨0, some [sl a0.length (a0.map (ik .u8)), i64 r6, ik .u64 r7]⟩]) (r' := b r5) (Γ' := [⟨0, some [sl a0.length (a0.map (ik .u8)), i64 r6, ik .u64 r7]⟩]) [(0, 0)] [] rfl (CallAs.func ent52 rfl rfl) rfl rfl (SelOk.of (show List.Nodup [0] from by decide) (SelL.cells0 rfl (by simp [ren, rens, sigma, rens_f32, rens_f64, rens_i64, rens_ik, rens_str, rens_cp]) (lts_cons (lt_slk (fun _ => rfl)) (lts_cons rfl (lts_cons rfl lts_nil))) trivial)) (live_of ⟨⟨_, _, rfl⟩, trivial⟩) (by simp [ren, rens, sigma, rens_f32, rens_f64, rens_i64, rens_ik, rens_str, rens_cp]) rfl (s_l00Src_one_0p0_C0_ok 4 a0 r2 r3 r5 r6 r7 hf3) rfl (news_of trivial) (show List.Nodup [0] from by decide) (by simp [ren, rens, sigma]) (by simp [backOb, sigma, ren, rens, rens_f32, rens_f64, rens_i64, rens_ik, rens_str, rens_cp]) ?_
 refine zN ?_
 rcases bsel_some h with ⟨hc4, h⟩ | ⟨hc4, h⟩
 ·refine RunC.cond_true rfl hc4 ?_
  refine RunC.seq ?_
  obtain ⟨x8, hx5, h⟩ := olet_some h
  obtain ⟨x9, hx6, h⟩ := olet_some h
  refine RunC.regionW ?_
  refine zm (r := i64 x4) ?_
  refine zl (r := f32 x8) (LOp.eqr (LOp.i2f (src := 2) (dst := 28) ⟨_, pun2⟩ pun28 rfl rfl) (congrArg (f .f32) hx5)) ?_
  refine ROps.d (r := f32 x9) (fs := []) (Γ' := [⟨0, some [sl a0.length (a0.map (ik .u8)), i64 r6, ik .u64 r7]⟩]) rfl rfl rfl (TOp.eqr (TOp.fop (.inr (.inr (.inr rfl))) rfl (OpF.tmp rfl) (OpF.const rfl (by kernel_rfl) (by kernel_rfl))) (congrArg (f .f32) hx6)) rfl ?_
  refine za (r := f32 x9) ?_
  refine zN ?_
  refine RunC.ret ?_
  have hq := Option.some.inj h
  obtain ⟨hq0, hq⟩ := Prod.mk.inj hq
  obtain ⟨hq1, hq⟩ := Prod.mk.inj hq
  subst q0
  subst q1
  subst q2
  exact bodyQ.mk (r' := f32 x9) [(0, 0)] (.inr rfl) rfl (show List.Nodup [0] from by decide) rfl rfl (Res.one rfl (RV.tmp rfl)) (SelL.cells rfl (by first | rfl | simp [ren, rens, sigma, rens_f32, rens_f64, rens_i64, rens_ik, rens_str, rens_cp]) (lts_cons (lt_slk (fun _ => rfl)) (lts_cons rfl (lts_cons rfl lts_nil))) trivial)
 ·refine RunC.cond_false rfl hc4 ?_
  refine RunC.skip ?_
  refine RunC.seq ?_
  obtain ⟨x10, hx7, h⟩ := olet_some h
  obtain ⟨x11, hx8, h⟩ := olet_some h
  refine RunC.regionW ?_
  refine zm (r := i64 x4) ?_
  refine zl (r := f32 x10) (LOp.eqr (LOp.i2f (src := 2) (dst := 28) ⟨_, pun2⟩ pun28 rfl rfl) (congrArg (f .f32) hx7)) ?_
  refine ROps.d (r := f32 x11) (fs := []) (Γ' := [⟨0, some [sl a0.length (a0.map (ik .u8)), i64 r6, ik .u64 r7]⟩]) rfl rfl rfl (TOp.eqr (TOp.fop (.inr (.inr (.inr rfl))) rfl (OpF.tmp rfl) (OpF.const rfl (by kernel_rfl) (by kernel_rfl))) (congrArg (f .f32) hx8)) rfl ?_
  refine za (r := f32 x11) ?_
  refine zN ?_
  refine RunC.ret ?_
  have hq := Option.some.inj h
  obtain ⟨hq0, hq⟩ := Prod.mk.inj hq
  obtain ⟨hq1, hq⟩ := Prod.mk.inj hq
  subst q0
  subst q1
  subst q2
  exact bodyQ.mk (r' := f32 x11) [(0, 0)] (.inr rfl) rfl (show List.Nodup [0] from by decide) rfl rfl (Res.one rfl (RV.tmp rfl)) (SelL.cells rfl (by first | rfl | simp [ren, rens, sigma, rens_f32, rens_f64, rens_i64, rens_ik, rens_str, rens_cp]) (lts_cons (lt_slk (fun _ => rfl)) (lts_cons rfl (lts_cons rfl lts_nil))) trivial)
noncomputable def s_l00Src_among_0p0_1o1_C0 (a0 : List Int) (a1 : Int) (a2 : Int) (a3 : List Int) : Option (Int × Int × Int × (List Int)) :=
 obind3 (s_l00Src_pick_0p0_C0 ((a3.length : Nat) : Int) a0 a1 a2) fun (r1 : Int) (r2 : Int) (r3 : Int) =>
 obind (at? a3 r1) fun (e4 : Int) =>
 some (e4, r2, r3, a3)
theorem s_l00Src_among_0p0_1o1_C0_ok (a0 : List Int) (a1 : Int) (a2 : Int) (a3 : List Int) (q0 : Int) (q1 : Int) (q2 : Int) (q3 : List Int) (h : s_l00Src_among_0p0_1o1_C0 a0 a1 a2 a3 = some (q0, q1, q2, q3)) : Ev Tryz.prog 85 [optr 0 0 0, oref 1 0 0 a3.length] [⟨0, some [sl a0.length (a0.map (ik .u8)), i64 a1, ik .u64 a2]⟩, ⟨0, some (a3.map i64)⟩] (i64 q0) [⟨0, some [sl a0.length (a0.map (ik .u8)), i64 q1, ik .u64 q2]⟩, ⟨0, some (q3.map i64)⟩] := by
 refine Ev.start Tryz.func85 rfl rfl 0 (τ := [(0, optr 0 0 0), (1, oref 1 0 0 a3.length)]) rfl (Γ' := [⟨0, some [sl a0.length (a0.map (ik .u8)), i64 a1, ik .u64 a2]⟩, ⟨0, some (a3.map i64)⟩]) rfl (n := 24) rfl (g := 2) rfl (by decide) ?_
 unfold s_l00Src_among_0p0_1o1_C0 at h
 refine zQ ?_
 refine za (r := i64 0) ?_
 refine zN ?_
 refine RunC.seq ?_
 obtain ⟨r1, r2, r3, hf1, h⟩ := obind3_some h
 obtain ⟨e4, he2, h⟩ := obind_some h
 refine RunC.regionW ?_
 refine zm (r := oref 1 0 0 a3.length) ?_
 refine zm (r := optr 0 0 0) ?_
 refine zm (r := oref 1 0 0 a3.length) ?_
 refine zl (r := i64 ((a3.length : Nat) : Int)) (LOp.len_oref und103 rfl rfl) ?_
 refine ROps.callO (A := [optr 0 0 0, i64 ((a3.length : Nat) : Int)]) (args := [optr 0 0 0, i64 ((a3.length : Nat) : Int)]) (Γc := [⟨0, some [sl a0.length (a0.map (ik .u8)), i64 a1, ik .u64 a2]⟩]) (Γc' := [⟨0, some [sl a0.length (a0.map (ik .u8)), i64 r2, ik .u64 r3]⟩]) (r' := i64 r1) (Γ' := [⟨0, some [sl a0.length (a0.map (ik .u8)), i64 r2, ik .u64 r3]⟩, ⟨0, some (a3.map i64)⟩]) [(0, 0)] [] rfl (CallAs.func ent39 rfl rfl) rfl rfl (SelOk.of (show List.Nodup [0] from by decide) (SelL.cells0 rfl (by simp [ren, rens, sigma, rens_f32, rens_f64, rens_i64, rens_ik, rens_str, rens_cp]) (lts_cons (lt_slk (fun _ => rfl)) (lts_cons rfl (lts_cons rfl lts_nil))) trivial)) (live_of ⟨⟨_, _, rfl⟩, trivial⟩) (by simp [ren, rens, sigma, rens_f32, rens_f64, rens_i64, rens_ik, rens_str, rens_cp]) rfl (s_l00Src_pick_0p0_C0_ok ((a3.length : Nat) : Int) a0 a1 a2 r1 r2 r3 hf1) rfl (news_of trivial) (show List.Nodup [0] from by decide) (by simp [ren, rens, sigma]) (by simp [backOb, sigma, ren, rens, rens_f32, rens_f64, rens_i64, rens_ik, rens_str, rens_cp]) ?_
 refine ROps.d (r := optr 1 0 r1.toNat) (fs := []) (Γ' := [⟨0, some [sl a0.length (a0.map (ik .u8)), i64 r2, ik .u64 r3]⟩, ⟨0, some (a3.map i64)⟩]) rfl rfl rfl (TOp.ixo und103 siz2 rfl rfl rfl (at_in he2 rfl) rfl) rfl ?_
 refine ROps.d (r := i64 e4) (fs := []) (Γ' := [⟨0, some [sl a0.length (a0.map (ik .u8)), i64 r2, ik .u64 r3]⟩, ⟨0, some (a3.map i64)⟩]) rfl rfl rfl (TOp.load1_o rfl (at_cell he2) agg2 rfl rfl) rfl ?_
 refine za (r := i64 e4) ?_
 refine zN ?_
 refine RunC.ret ?_
 have hq := Option.some.inj h
 obtain ⟨hq0, hq⟩ := Prod.mk.inj hq
 obtain ⟨hq1, hq⟩ := Prod.mk.inj hq
 obtain ⟨hq2, hq⟩ := Prod.mk.inj hq
 subst q0
 subst q1
 subst q2
 subst q3
 exact bodyQ.mk (r' := i64 e4) [(0, 0), (1, 0)] (.inr rfl) rfl (show List.Nodup [0, 1] from by decide) rfl rfl (Res.one rfl (RV.tmp rfl)) (SelL.cells rfl (by first | rfl | simp [ren, rens, sigma, rens_f32, rens_f64, rens_i64, rens_ik, rens_str, rens_cp]) (lts_cons (lt_slk (fun _ => rfl)) (lts_cons rfl (lts_cons rfl lts_nil))) (SelL.arr (f := i64) (fun _ => rfl) rfl trivial))
noncomputable def s_l01DrawFloat_0p0_C0 (a0 : List Int) (a1 : Int) (a2 : Int) : Option (F × Int × Int) :=
 obind3 (s_l00Src_one_0p0_C0 12 a0 a1 a2) fun (r1 : Bool) (r2 : Int) (r3 : Int) =>
 bsel (!r1) (
  obind3 (s_l01DrawPlain_0p0_C0 a0 r2 r3) fun (r4 : F) (r5 : Int) (r6 : Int) =>
  some (r4, r5, r6)) (
  obind3 (s_l00Src_pick_0p0_C0 4 a0 r2 r3) fun (r7 : Int) (r8 : Int) (r9 : Int) =>
  bsel (decide (r7 = 0)) (
   obind4 (s_l00Src_among_0p0_1o1_C0 a0 r8 r9 ([0, 2147483648, 2139095040, 4286578688, 2143289344, 1, 2139095039, 8388608, 8388607, 2147483649] : List Int)) fun (r10 : Int) (r11 : Int) (r12 : Int) (r13 : List Int) =>
   need (decide (r13.length = 10)) <|
   obind (s_l01From r10) fun (r14 : F) =>
   some (r14, r11, r12)) (
   bsel (decide (r7 = 1)) (
    obind3 (s_l00Src_pick_0p0_C0 65536 a0 r8 r9) fun (r15 : Int) (r16 : Int) (r17 : Int) =>
    olet (IntKind.i64.wrap (r15 * 65536)) fun (x18 : Int) =>
    obind3 (s_l00Src_pick_0p0_C0 65536 a0 r16 r17) fun (r19 : Int) (r20 : Int) (r21 : Int) =>
    olet (IntKind.i64.wrap (x18 + r19)) fun (x22 : Int) =>
    obind (s_l01From x22) fun (r23 : F) =>
    some (r23, r20, r21)) (
    bsel (decide (r7 = 2)) (
     obind3 (s_l00Src_pick_0p0_C0 65536 a0 r8 r9) fun (r24 : Int) (r25 : Int) (r26 : Int) =>
     olet (IntKind.i64.wrap (r24 * 65536)) fun (x27 : Int) =>
     obind (s_l01From x27) fun (r28 : F) =>
     some (r28, r25, r26)) (
     obind3 (s_l01DrawPlain_0p0_C0 a0 r8 r9) fun (r29 : F) (r30 : Int) (r31 : Int) =>
     obind4 (s_l00Src_among_0p0_1o1_C0 a0 r30 r31 ([8388608, 2130706432, 1610612736, 536870912] : List Int)) fun (r32 : Int) (r33 : Int) (r34 : Int) (r35 : List Int) =>
     need (decide (r35.length = 4)) <|
     obind (s_l01From r32) fun (r36 : F) =>
     olet (fop .mul .f32 r29 r36) fun (x37 : F) =>
     some (x37, r33, r34)))))
theorem s_l01DrawFloat_0p0_C0_ok (a0 : List Int) (a1 : Int) (a2 : Int) (q0 : F) (q1 : Int) (q2 : Int) (h : s_l01DrawFloat_0p0_C0 a0 a1 a2 = some (q0, q1, q2)) : Ev Tryz.prog 54 [optr 0 0 0] [⟨0, some [sl a0.length (a0.map (ik .u8)), i64 a1, ik .u64 a2]⟩] (f32 q0) [⟨0, some [sl a0.length (a0.map (ik .u8)), i64 q1, ik .u64 q2]⟩] := by
 refine Ev.start Tryz.func54 rfl rfl 1 (τ := [(0, optr 0 0 0)]) rfl (Γ' := [⟨0, some [sl a0.length (a0.map (ik .u8)), i64 a1, ik .u64 a2]⟩, ⟨0, none⟩]) rfl (n := 80) rfl (g := 1) rfl (by decide) ?_
 unfold s_l01DrawFloat_0p0_C0 at h
 refine zQ ?_
 refine zl (r := f32 (some 0)) (LOp.le (LOp.assign rfl rfl) (ALe.fl (by kernel_rfl) (by kernel_rfl))) ?_
 refine zN ?_
 iterate 2 (refine RunC.seq ?_)
 obtain ⟨r1, r2, r3, hf1, h⟩ := obind3_some h
 rcases bsel_some h with ⟨hc2, h⟩ | ⟨hc2, h⟩
 ·refine RunC.regionW ?_
  refine zm (r := optr 0 0 0) ?_
  refine ROps.callO (A := [optr 0 0 0, i64 12]) (args := [optr 0 0 0, i64 12]) (Γc := [⟨0, some [sl a0.length (a0.map (ik .u8)), i64 a1, ik .u64 a2]⟩]) (Γc' := [⟨0, some [sl a0.length (a0.map (ik .u8)), i64 r2, ik .u64 r3]⟩]) (r' := b r1) (Γ' := [⟨0, some [sl a0.length (a0.map (ik .u8)), i64 r2, ik .u64 r3]⟩, ⟨0, none⟩]) [(0, 0)] [] rfl (CallAs.func ent52 rfl rfl) rfl rfl (SelOk.of (show List.Nodup [0] from by decide) (SelL.cells0 rfl (by simp [ren, rens, sigma, rens_f32, rens_f64, rens_i64, rens_ik, rens_str, rens_cp]) (lts_cons (lt_slk (fun _ => rfl)) (lts_cons rfl (lts_cons rfl lts_nil))) trivial)) (live_of ⟨⟨_, _, rfl⟩, trivial⟩) (by simp [ren, rens, sigma, rens_f32, rens_f64, rens_i64, rens_ik, rens_str, rens_cp]) rfl (s_l00Src_one_0p0_C0_ok 12 a0 a1 a2 r1 r2 r3 hf1) rfl (news_of trivial) (show List.Nodup [0] from by decide) (by simp [ren, rens, sigma]) (by simp [backOb, sigma, ren, rens, rens_f32, rens_f64, rens_i64, rens_ik, rens_str, rens_cp]) ?_
  refine zl (r := b true) (LOp.eqb (LOp.not rfl rfl) hc2) ?_
  refine zN ?_
  refine RunC.cond_true rfl rfl ?_
  refine RunC.seq ?_
  obtain ⟨r4, r5, r6, hf3, h⟩ := obind3_some h
  refine RunC.regionW ?_
  refine zm (r := optr 0 0 0) ?_
  refine ROps.callO (A := [optr 0 0 0]) (args := [optr 0 0 0]) (Γc := [⟨0, some [sl a0.length (a0.map (ik .u8)), i64 r2, ik .u64 r3]⟩]) (Γc' := [⟨0, some [sl a0.length (a0.map (ik .u8)), i64 r5, ik .u64 r6]⟩]) (r' := f32 r4) (Γ' := [⟨0, some [sl a0.length (a0.map (ik .u8)), i64 r5, ik .u64 r6]⟩, ⟨0, none⟩]) [(0, 0)] [] rfl (CallAs.func ent84 rfl rfl) rfl rfl (SelOk.of (show List.Nodup [0] from by decide) (SelL.cells0 rfl (by simp [ren, rens, sigma, rens_f32, rens_f64, rens_i64, rens_ik, rens_str, rens_cp]) (lts_cons (lt_slk (fun _ => rfl)) (lts_cons rfl (lts_cons rfl lts_nil))) trivial)) (live_of ⟨⟨_, _, rfl⟩, trivial⟩) (by simp [ren, rens, sigma, rens_f32, rens_f64, rens_i64, rens_ik, rens_str, rens_cp]) rfl (s_l01DrawPlain_0p0_C0_ok a0 r2 r3 r4 r5 r6 hf3) rfl (news_of trivial) (show List.Nodup [0] from by decide) (by simp [ren, rens, sigma]) (by simp [backOb, sigma, ren, rens, rens_f32, rens_f64, rens_i64, rens_ik, rens_str, rens_cp]) ?_
  refine za (r := f32 r4) ?_
  refine zN ?_
  refine RunC.ret ?_
  have hq := Option.some.inj h
  obtain ⟨hq0, hq⟩ := Prod.mk.inj hq
  obtain ⟨hq1, hq⟩ := Prod.mk.inj hq
  subst q0
  subst q1
  subst q2
  exact bodyQ.mk (r' := f32 r4) [(0, 0)] (.inr rfl) rfl (show List.Nodup [0] from by decide) rfl rfl (Res.one rfl (RV.tmp rfl)) (SelL.cells rfl (by first | rfl | simp [ren, rens, sigma, rens_f32, rens_f64, rens_i64, rens_ik, rens_str, rens_cp]) (lts_cons (lt_slk (fun _ => rfl)) (lts_cons rfl (lts_cons rfl lts_nil))) trivial)
 ·refine RunC.regionW ?_
  refine zm (r := optr 0 0 0) ?_
  refine ROps.callO (A := [optr 0 0 0, i64 12]) (args := [optr 0 0 0, i64 12]) (Γc := [⟨0, some [sl a0.length (a0.map (ik .u8)), i64 a1, ik .u64 a2]⟩]) (Γc' := [⟨0, some [sl a0.length (a0.map (ik .u8)), i64 r2, ik .u64 r3]⟩]) (r' := b r1) (Γ' := [⟨0, some [sl a0.length (a0.map (ik .u8)), i64 r2, ik .u64 r3]⟩, ⟨0, none⟩]) [(0, 0)] [] rfl (CallAs.func ent52 rfl rfl) rfl rfl (SelOk.of (show List.Nodup [0] from by decide) (SelL.cells0 rfl (by simp [ren, rens, sigma, rens_f32, rens_f64, rens_i64, rens_ik, rens_str, rens_cp]) (lts_cons (lt_slk (fun _ => rfl)) (lts_cons rfl (lts_cons rfl lts_nil))) trivial)) (live_of ⟨⟨_, _, rfl⟩, trivial⟩) (by simp [ren, rens, sigma, rens_f32, rens_f64, rens_i64, rens_ik, rens_str, rens_cp]) rfl (s_l00Src_one_0p0_C0_ok 12 a0 a1 a2 r1 r2 r3 hf1) rfl (news_of trivial) (show List.Nodup [0] from by decide) (by simp [ren, rens, sigma]) (by simp [backOb, sigma, ren, rens, rens_f32, rens_f64, rens_i64, rens_ik, rens_str, rens_cp]) ?_
  refine zl (r := b false) (LOp.eqb (LOp.not rfl rfl) hc2) ?_
  refine zN ?_
  refine RunC.cond_false rfl rfl ?_
  refine RunC.skip ?_
  iterate 2 (refine RunC.seq ?_)
  obtain ⟨r7, r8, r9, hf4, h⟩ := obind3_some h
  refine RunC.regionW ?_
  refine zm (r := optr 0 0 0) ?_
  refine ROps.callO (A := [optr 0 0 0, i64 4]) (args := [optr 0 0 0, i64 4]) (Γc := [⟨0, some [sl a0.length (a0.map (ik .u8)), i64 r2, ik .u64 r3]⟩]) (Γc' := [⟨0, some [sl a0.length (a0.map (ik .u8)), i64 r8, ik .u64 r9]⟩]) (r' := i64 r7) (Γ' := [⟨0, some [sl a0.length (a0.map (ik .u8)), i64 r8, ik .u64 r9]⟩, ⟨0, none⟩]) [(0, 0)] [] rfl (CallAs.func ent39 rfl rfl) rfl rfl (SelOk.of (show List.Nodup [0] from by decide) (SelL.cells0 rfl (by simp [ren, rens, sigma, rens_f32, rens_f64, rens_i64, rens_ik, rens_str, rens_cp]) (lts_cons (lt_slk (fun _ => rfl)) (lts_cons rfl (lts_cons rfl lts_nil))) trivial)) (live_of ⟨⟨_, _, rfl⟩, trivial⟩) (by simp [ren, rens, sigma, rens_f32, rens_f64, rens_i64, rens_ik, rens_str, rens_cp]) rfl (s_l00Src_pick_0p0_C0_ok 4 a0 r2 r3 r7 r8 r9 hf4) rfl (news_of trivial) (show List.Nodup [0] from by decide) (by simp [ren, rens, sigma]) (by simp [backOb, sigma, ren, rens, rens_f32, rens_f64, rens_i64, rens_ik, rens_str, rens_cp]) ?_
  refine zN ?_
  refine RunC.block ?_
  refine RunC.seq ?_
  rcases bsel_some h with ⟨hc5, h⟩ | ⟨hc5, h⟩
  ·refine RunC.regionW ?_
   refine zl (r := b true) (LOp.eqb (LOp.eql rfl rfl rfl) hc5) ?_
   refine za (r := b true) ?_
   refine zN ?_
   refine RunC.cond_true rfl rfl ?_
   refine RunC.seq ?_
   obtain ⟨r10, r11, r12, r13, hf6, h⟩ := obind4_some h
   obtain ⟨hn7, h⟩ := need_some h
   obtain ⟨r14, hf8, h⟩ := obind_some h
   refine RunC.regionW ?_
   refine zm (r := optr 0 0 0) ?_
   refine ROps.d (r := oref 1 1 0 10) (fs := [(1, (([0, 2147483648, 2139095040, 4286578688, 2143289344, 1, 2139095039, 8388608, 8388607, 2147483649] : List Int).map i64))]) (Γ' := [⟨0, some [sl a0.length (a0.map (ik .u8)), i64 r8, ik .u64 r9]⟩, ⟨1, some (([0, 2147483648, 2139095040, 4286578688, 2143289344, 1, 2139095039, 8388608, 8388607, 2147483649] : List Int).map i64)⟩]) rfl rfl rfl (TOp.buildSlice_o (g := ⟨0, none⟩) (za := i64 0) (qs := [(0, [i64 0]), (1, [i64 2147483648]), (2, [i64 2139095040]), (3, [i64 4286578688]), (4, [i64 2143289344]), (5, [i64 1]), (6, [i64 2139095039]), (7, [i64 8388608]), (8, [i64 8388607]), (9, [i64 2147483649])]) 1 rfl und103 siz2 zer2 rfl zel2 rfl rfl ⟨rfl, ⟨_, ALe.refl _, rfl⟩, ⟨rfl, ⟨_, ALe.refl _, rfl⟩, ⟨rfl, ⟨_, ALe.refl _, rfl⟩, ⟨rfl, ⟨_, ALe.refl _, rfl⟩, ⟨rfl, ⟨_, ALe.refl _, rfl⟩, ⟨rfl, ⟨_, ALe.refl _, rfl⟩, ⟨rfl, ⟨_, ALe.refl _, rfl⟩, ⟨rfl, ⟨_, ALe.refl _, rfl⟩, ⟨rfl, ⟨_, ALe.refl _, rfl⟩, ⟨rfl, ⟨_, ALe.refl _, rfl⟩, trivial⟩⟩⟩⟩⟩⟩⟩⟩⟩⟩ rfl) rfl ?_
   refine ROps.callO (A := [optr 0 0 0, oref 1 1 0 10]) (args := [optr 0 0 0, oref 1 0 0 (([0, 2147483648, 2139095040, 4286578688, 2143289344, 1, 2139095039, 8388608, 8388607, 2147483649] : List Int).length)]) (Γc := [⟨0, some [sl a0.length (a0.map (ik .u8)), i64 r8, ik .u64 r9]⟩, ⟨0, some (([0, 2147483648, 2139095040, 4286578688, 2143289344, 1, 2139095039, 8388608, 8388607, 2147483649] : List Int).map i64)⟩]) (Γc' := [⟨0, some [sl a0.length (a0.map (ik .u8)), i64 r11, ik .u64 r12]⟩, ⟨0, some (r13.map i64)⟩]) (r' := i64 r10) (Γ' := [⟨0, some [sl a0.length (a0.map (ik .u8)), i64 r11, ik .u64 r12]⟩, ⟨1, some (r13.map i64)⟩]) [(0, 0), (1, 1)] [] rfl (CallAs.func ent85 rfl rfl) rfl rfl (SelOk.of (show List.Nodup [0, 1] from by decide) (SelL.cells0 rfl (by simp [ren, rens, sigma, rens_f32, rens_f64, rens_i64, rens_ik, rens_str, rens_cp]) (lts_cons (lt_slk (fun _ => rfl)) (lts_cons rfl (lts_cons rfl lts_nil))) (SelL.arr0 (f := i64) (fun _ => rfl) rfl trivial))) (live_of ⟨⟨_, _, rfl⟩, ⟨_, _, rfl⟩, trivial⟩) (by simp [ren, rens, sigma, rens_f32, rens_f64, rens_i64, rens_ik, rens_str, rens_cp]) rfl (s_l00Src_among_0p0_1o1_C0_ok a0 r8 r9 ([0, 2147483648, 2139095040, 4286578688, 2143289344, 1, 2139095039, 8388608, 8388607, 2147483649] : List Int) r10 r11 r12 r13 hf6) rfl (news_of trivial) (show List.Nodup [0, 1] from by decide) (by simp [ren, rens, sigma, of_decide_eq_true hn7]) (by simp [backOb, sigma, ren, rens, rens_f32, rens_f64, rens_i64, rens_ik, rens_str, rens_cp, of_decide_eq_true hn7]) ?_
   refine ROps.d (r := f32 r14) (fs := []) (Γ' := [⟨0, some [sl a0.length (a0.map (ik .u8)), i64 r11, ik .u64 r12]⟩, ⟨1, some (r13.map i64)⟩]) rfl rfl rfl (TOp.callB (CallAs.func ent53 rfl rfl) (Bors.cons (Bor.pure rfl) Bors.nil) rfl rfl (s_l01From_ok r10 r14 hf8)) rfl ?_
   refine za (r := f32 r14) ?_
   refine zN ?_
   refine RunC.ret ?_
   have hq := Option.some.inj h
   obtain ⟨hq0, hq⟩ := Prod.mk.inj hq
   obtain ⟨hq1, hq⟩ := Prod.mk.inj hq
   subst q0
   subst q1
   subst q2
   exact bodyQ.mk (r' := f32 r14) [(0, 0)] (.inr rfl) rfl (show List.Nodup [0] from by decide) rfl rfl (Res.one rfl (RV.tmp rfl)) (SelL.cells rfl (by first | rfl | simp [ren, rens, sigma, rens_f32, rens_f64, rens_i64, rens_ik, rens_str, rens_cp]) (lts_cons (lt_slk (fun _ => rfl)) (lts_cons rfl (lts_cons rfl lts_nil))) trivial)
  ·refine RunC.regionW ?_
   refine zl (r := b false) (LOp.eqb (LOp.eql rfl rfl rfl) hc5) ?_
   refine za (r := b false) ?_
   refine zN ?_
   refine RunC.cond_false rfl rfl ?_
   refine RunC.seq ?_
   rcases bsel_some h with ⟨hc9, h⟩ | ⟨hc9, h⟩
   ·refine RunC.regionW ?_
    refine zl (r := b true) (LOp.eqb (LOp.eql rfl rfl rfl) hc9) ?_
    refine za (r := b true) ?_
    refine zN ?_
    refine RunC.cond_true rfl rfl ?_
    refine RunC.seq ?_
    obtain ⟨r15, r16, r17, hf10, h⟩ := obind3_some h
    obtain ⟨x18, hx11, h⟩ := olet_some h
    refine RunC.regionW ?_
    refine zm (r := optr 0 0 0) ?_
    refine ROps.callO (A := [optr 0 0 0, i64 65536]) (args := [optr 0 0 0, i64 65536]) (Γc := [⟨0, some [sl a0.length (a0.map (ik .u8)), i64 r8, ik .u64 r9]⟩]) (Γc' := [⟨0, some [sl a0.length (a0.map (ik .u8)), i64 r16, ik .u64 r17]⟩]) (r' := i64 r15) (Γ' := [⟨0, some [sl a0.length (a0.map (ik .u8)), i64 r16, ik .u64 r17]⟩, ⟨0, none⟩]) [(0, 0)] [] rfl (CallAs.func ent39 rfl rfl) rfl rfl (SelOk.of (show List.Nodup [0] from by decide) (SelL.cells0 rfl (by simp [ren, rens, sigma, rens_f32, rens_f64, rens_i64, rens_ik, rens_str, rens_cp]) (lts_cons (lt_slk (fun _ => rfl)) (lts_cons rfl (lts_cons rfl lts_nil))) trivial)) (live_of ⟨⟨_, _, rfl⟩, trivial⟩) (by simp [ren, rens, sigma, rens_f32, rens_f64, rens_i64, rens_ik, rens_str, rens_cp]) rfl (s_l00Src_pick_0p0_C0_ok 65536 a0 r8 r9 r15 r16 r17 hf10) rfl (news_of trivial) (show List.Nodup [0] from by decide) (by simp [ren, rens, sigma]) (by simp [backOb, sigma, ren, rens, rens_f32, rens_f64, rens_i64, rens_ik, rens_str, rens_cp]) ?_
    refine zl (r := i64 x18) (LOp.eqr (LOp.mul rfl rfl rfl) (congrArg (ik .i64) hx11)) ?_
    refine za (r := i64 x18) ?_
    refine zN ?_
    refine RunC.wl (τ' := [(0, optr 0 0 0), (3, i64 x18)]) (Γ' := [⟨0, some [sl a0.length (a0.map (ik .u8)), i64 r16, ik .u64 r17]⟩, ⟨0, none⟩]) ⟨aR, aR, trivial⟩ ⟨⟨rfl, .inr rfl⟩, ⟨rfl, .inr rfl⟩, trivial⟩ ?_
    refine RunC.seq ?_
    obtain ⟨r19, r20, r21, hf12, h⟩ := obind3_some h
    obtain ⟨x22, hx13, h⟩ := olet_some h
    obtain ⟨r23, hf14, h⟩ := obind_some h
    refine RunC.regionW ?_
    refine zm (r := i64 x18) ?_
    refine zm (r := optr 0 0 0) ?_
    refine ROps.callO (A := [optr 0 0 0, i64 65536]) (args := [optr 0 0 0, i64 65536]) (Γc := [⟨0, some [sl a0.length (a0.map (ik .u8)), i64 r16, ik .u64 r17]⟩]) (Γc' := [⟨0, some [sl a0.length (a0.map (ik .u8)), i64 r20, ik .u64 r21]⟩]) (r' := i64 r19) (Γ' := [⟨0, some [sl a0.length (a0.map (ik .u8)), i64 r20, ik .u64 r21]⟩, ⟨0, none⟩]) [(0, 0)] [] rfl (CallAs.func ent39 rfl rfl) rfl rfl (SelOk.of (show List.Nodup [0] from by decide) (SelL.cells0 rfl (by simp [ren, rens, sigma, rens_f32, rens_f64, rens_i64, rens_ik, rens_str, rens_cp]) (lts_cons (lt_slk (fun _ => rfl)) (lts_cons rfl (lts_cons rfl lts_nil))) trivial)) (live_of ⟨⟨_, _, rfl⟩, trivial⟩) (by simp [ren, rens, sigma, rens_f32, rens_f64, rens_i64, rens_ik, rens_str, rens_cp]) rfl (s_l00Src_pick_0p0_C0_ok 65536 a0 r16 r17 r19 r20 r21 hf12) rfl (news_of trivial) (show List.Nodup [0] from by decide) (by simp [ren, rens, sigma]) (by simp [backOb, sigma, ren, rens, rens_f32, rens_f64, rens_i64, rens_ik, rens_str, rens_cp]) ?_
    refine zl (r := i64 x22) (LOp.eqr (LOp.add rfl rfl rfl) (congrArg (ik .i64) hx13)) ?_
    refine ROps.d (r := f32 r23) (fs := []) (Γ' := [⟨0, some [sl a0.length (a0.map (ik .u8)), i64 r20, ik .u64 r21]⟩, ⟨0, none⟩]) rfl rfl rfl (TOp.callB (CallAs.func ent53 rfl rfl) (Bors.cons (Bor.pure rfl) Bors.nil) rfl rfl (s_l01From_ok x22 r23 hf14)) rfl ?_
    refine za (r := f32 r23) ?_
    refine zN ?_
    refine RunC.ret ?_
    have hq := Option.some.inj h
    obtain ⟨hq0, hq⟩ := Prod.mk.inj hq
    obtain ⟨hq1, hq⟩ := Prod.mk.inj hq
    subst q0
    subst q1
    subst q2
    exact bodyQ.mk (r' := f32 r23) [(0, 0)] (.inr rfl) rfl (show List.Nodup [0] from by decide) rfl rfl (Res.one rfl (RV.tmp rfl)) (SelL.cells rfl (by first | rfl | simp [ren, rens, sigma, rens_f32, rens_f64, rens_i64, rens_ik, rens_str, rens_cp]) (lts_cons (lt_slk (fun _ => rfl)) (lts_cons rfl (lts_cons rfl lts_nil))) trivial)
   ·refine RunC.regionW ?_
    refine zl (r := b false) (LOp.eqb (LOp.eql rfl rfl rfl) hc9) ?_
    refine za (r := b false) ?_
    refine zN ?_
    refine RunC.cond_false rfl rfl ?_
    refine RunC.seq ?_
    rcases bsel_some h with ⟨hc15, h⟩ | ⟨hc15, h⟩
    ·refine RunC.regionW ?_
     refine zl (r := b true) (LOp.eqb (LOp.eql rfl rfl rfl) hc15) ?_
     refine za (r := b true) ?_
     refine zN ?_
     refine RunC.cond_true rfl rfl ?_
     refine RunC.seq ?_
     obtain ⟨r24, r25, r26, hf16, h⟩ := obind3_some h
     obtain ⟨x27, hx17, h⟩ := olet_some h
     obtain ⟨r28, hf18, h⟩ := obind_some h
     refine RunC.regionW ?_
     refine zm (r := optr 0 0 0) ?_
     refine ROps.callO (A := [optr 0 0 0, i64 65536]) (args := [optr 0 0 0, i64 65536]) (Γc := [⟨0, some [sl a0.length (a0.map (ik .u8)), i64 r8, ik .u64 r9]⟩]) (Γc' := [⟨0, some [sl a0.length (a0.map (ik .u8)), i64 r25, ik .u64 r26]⟩]) (r' := i64 r24) (Γ' := [⟨0, some [sl a0.length (a0.map (ik .u8)), i64 r25, ik .u64 r26]⟩, ⟨0, none⟩]) [(0, 0)] [] rfl (CallAs.func ent39 rfl rfl) rfl rfl (SelOk.of (show List.Nodup [0] from by decide) (SelL.cells0 rfl (by simp [ren, rens, sigma, rens_f32, rens_f64, rens_i64, rens_ik, rens_str, rens_cp]) (lts_cons (lt_slk (fun _ => rfl)) (lts_cons rfl (lts_cons rfl lts_nil))) trivial)) (live_of ⟨⟨_, _, rfl⟩, trivial⟩) (by simp [ren, rens, sigma, rens_f32, rens_f64, rens_i64, rens_ik, rens_str, rens_cp]) rfl (s_l00Src_pick_0p0_C0_ok 65536 a0 r8 r9 r24 r25 r26 hf16) rfl (news_of trivial) (show List.Nodup [0] from by decide) (by simp [ren, rens, sigma]) (by simp [backOb, sigma, ren, rens, rens_f32, rens_f64, rens_i64, rens_ik, rens_str, rens_cp]) ?_
     refine zl (r := i64 x27) (LOp.eqr (LOp.mul rfl rfl rfl) (congrArg (ik .i64) hx17)) ?_
     refine ROps.d (r := f32 r28) (fs := []) (Γ' := [⟨0, some [sl a0.length (a0.map (ik .u8)), i64 r25, ik .u64 r26]⟩, ⟨0, none⟩]) rfl rfl rfl (TOp.callB (CallAs.func ent53 rfl rfl) (Bors.cons (Bor.pure rfl) Bors.nil) rfl rfl (s_l01From_ok x27 r28 hf18)) rfl ?_
     refine za (r := f32 r28) ?_
     refine zN ?_
     refine RunC.ret ?_
     have hq := Option.some.inj h
     obtain ⟨hq0, hq⟩ := Prod.mk.inj hq
     obtain ⟨hq1, hq⟩ := Prod.mk.inj hq
     subst q0
     subst q1
     subst q2
     exact bodyQ.mk (r' := f32 r28) [(0, 0)] (.inr rfl) rfl (show List.Nodup [0] from by decide) rfl rfl (Res.one rfl (RV.tmp rfl)) (SelL.cells rfl (by first | rfl | simp [ren, rens, sigma, rens_f32, rens_f64, rens_i64, rens_ik, rens_str, rens_cp]) (lts_cons (lt_slk (fun _ => rfl)) (lts_cons rfl (lts_cons rfl lts_nil))) trivial)
    ·refine RunC.regionW ?_
     refine zl (r := b false) (LOp.eqb (LOp.eql rfl rfl rfl) hc15) ?_
     refine za (r := b false) ?_
     refine zN ?_
     refine RunC.cond_false rfl rfl ?_
     refine RunC.skip ?_
     refine RunC.seq ?_
     obtain ⟨r29, r30, r31, hf19, h⟩ := obind3_some h
     obtain ⟨r32, r33, r34, r35, hf20, h⟩ := obind4_some h
     obtain ⟨hn21, h⟩ := need_some h
     obtain ⟨r36, hf22, h⟩ := obind_some h
     obtain ⟨x37, hx23, h⟩ := olet_some h
     refine RunC.regionW ?_
     refine zm (r := optr 0 0 0) ?_
     refine ROps.callO (A := [optr 0 0 0]) (args := [optr 0 0 0]) (Γc := [⟨0, some [sl a0.length (a0.map (ik .u8)), i64 r8, ik .u64 r9]⟩]) (Γc' := [⟨0, some [sl a0.length (a0.map (ik .u8)), i64 r30, ik .u64 r31]⟩]) (r' := f32 r29) (Γ' := [⟨0, some [sl a0.length (a0.map (ik .u8)), i64 r30, ik .u64 r31]⟩, ⟨0, none⟩]) [(0, 0)] [] rfl (CallAs.func ent84 rfl rfl) rfl rfl (SelOk.of (show List.Nodup [0] from by decide) (SelL.cells0 rfl (by simp [ren, rens, sigma, rens_f32, rens_f64, rens_i64, rens_ik, rens_str, rens_cp]) (lts_cons (lt_slk (fun _ => rfl)) (lts_cons rfl (lts_cons rfl lts_nil))) trivial)) (live_of ⟨⟨_, _, rfl⟩, trivial⟩) (by simp [ren, rens, sigma, rens_f32, rens_f64, rens_i64, rens_ik, rens_str, rens_cp]) rfl (s_l01DrawPlain_0p0_C0_ok a0 r8 r9 r29 r30 r31 hf19) rfl (news_of trivial) (show List.Nodup [0] from by decide) (by simp [ren, rens, sigma]) (by simp [backOb, sigma, ren, rens, rens_f32, rens_f64, rens_i64, rens_ik, rens_str, rens_cp]) ?_
     refine zm (r := optr 0 0 0) ?_
     refine ROps.d (r := oref 1 1 0 4) (fs := [(1, (([8388608, 2130706432, 1610612736, 536870912] : List Int).map i64))]) (Γ' := [⟨0, some [sl a0.length (a0.map (ik .u8)), i64 r30, ik .u64 r31]⟩, ⟨1, some (([8388608, 2130706432, 1610612736, 536870912] : List Int).map i64)⟩]) rfl rfl rfl (TOp.buildSlice_o (g := ⟨0, none⟩) (za := i64 0) (qs := [(0, [i64 8388608]), (1, [i64 2130706432]), (2, [i64 1610612736]), (3, [i64 536870912])]) 1 rfl und103 siz2 zer2 rfl zel2 rfl rfl ⟨rfl, ⟨_, ALe.refl _, rfl⟩, ⟨rfl, ⟨_, ALe.refl _, rfl⟩, ⟨rfl, ⟨_, ALe.refl _, rfl⟩, ⟨rfl, ⟨_, ALe.refl _, rfl⟩, trivial⟩⟩⟩⟩ rfl) rfl ?_
     refine ROps.callO (A := [optr 0 0 0, oref 1 1 0 4]) (args := [optr 0 0 0, oref 1 0 0 (([8388608, 2130706432, 1610612736, 536870912] : List Int).length)]) (Γc := [⟨0, some [sl a0.length (a0.map (ik .u8)), i64 r30, ik .u64 r31]⟩, ⟨0, some (([8388608, 2130706432, 1610612736, 536870912] : List Int).map i64)⟩]) (Γc' := [⟨0, some [sl a0.length (a0.map (ik .u8)), i64 r33, ik .u64 r34]⟩, ⟨0, some (r35.map i64)⟩]) (r' := i64 r32) (Γ' := [⟨0, some [sl a0.length (a0.map (ik .u8)), i64 r33, ik .u64 r34]⟩, ⟨1, some (r35.map i64)⟩]) [(0, 0), (1, 1)] [] rfl (CallAs.func ent85 rfl rfl) rfl rfl (SelOk.of (show List.Nodup [0, 1] from by decide) (SelL.cells0 rfl (by simp [ren, rens, sigma, rens_f32, rens_f64, rens_i64, rens_ik, rens_str, rens_cp]) (lts_cons (lt_slk (fun _ => rfl)) (lts_cons rfl (lts_cons rfl lts_nil))) (SelL.arr0 (f := i64) (fun _ => rfl) rfl trivial))) (live_of ⟨⟨_, _, rfl⟩, ⟨_, _, rfl⟩, trivial⟩) (by simp [ren, rens, sigma, rens_f32, rens_f64, rens_i64, rens_ik, rens_str, rens_cp]) rfl (s_l00Src_among_0p0_1o1_C0_ok a0 r30 r31 ([8388608, 2130706432, 1610612736, 536870912] : List Int) r32 r33 r34 r35 hf20) rfl (news_of trivial) (show List.Nodup [0, 1] from by decide) (by simp [ren, rens, sigma, of_decide_eq_true hn21]) (by simp [backOb, sigma, ren, rens, rens_f32, rens_f64, rens_i64, rens_ik, rens_str, rens_cp, of_decide_eq_true hn21]) ?_
     refine ROps.d (r := f32 r36) (fs := []) (Γ' := [⟨0, some [sl a0.length (a0.map (ik .u8)), i64 r33, ik .u64 r34]⟩, ⟨1, some (r35.map i64)⟩]) rfl rfl rfl (TOp.callB (CallAs.func ent53 rfl rfl) (Bors.cons (Bor.pure rfl) Bors.nil) rfl rfl (s_l01From_ok r32 r36 hf22)) rfl ?_
     refine ROps.d (r := f32 x37) (fs := []) (Γ' := [⟨0, some [sl a0.length (a0.map (ik .u8)), i64 r33, ik .u64 r34]⟩, ⟨1, some (r35.map i64)⟩]) rfl rfl rfl (TOp.eqr (TOp.fop (.inr (.inr (.inl rfl))) rfl (OpF.tmp rfl) (OpF.tmp rfl)) (congrArg (f .f32) hx23)) rfl ?_
     refine za (r := f32 x37) ?_
     refine zN ?_
     refine RunC.ret ?_
     have hq := Option.some.inj h
     obtain ⟨hq0, hq⟩ := Prod.mk.inj hq
     obtain ⟨hq1, hq⟩ := Prod.mk.inj hq
     subst q0
     subst q1
     subst q2
     exact bodyQ.mk (r' := f32 x37) [(0, 0)] (.inr rfl) rfl (show List.Nodup [0] from by decide) rfl rfl (Res.one rfl (RV.tmp rfl)) (SelL.cells rfl (by first | rfl | simp [ren, rens, sigma, rens_f32, rens_f64, rens_i64, rens_ik, rens_str, rens_cp]) (lts_cons (lt_slk (fun _ => rfl)) (lts_cons rfl (lts_cons rfl lts_nil))) trivial)
noncomputable def s_B10Number (a0 : List Int) : Option (F) :=
 obind3 (s_l00From a0) fun (r1 : List Int) (r2 : Int) (r3 : Int) =>
 obind3 (s_l00Src_one_0p0_C0 2 r1 r2 r3) fun (r4 : Bool) (r5 : Int) (r6 : Int) =>
 bsel r4 (
  obind3 (s_l00Src_pick_0p0_C0 65536 r1 r5 r6) fun (r7 : Int) (r8 : Int) (r9 : Int) =>
  olet (IntKind.i64.wrap (r7 * 65536)) fun (x10 : Int) =>
  obind3 (s_l00Src_pick_0p0_C0 65536 r1 r8 r9) fun (r11 : Int) (r12 : Int) (r13 : Int) =>
  olet (IntKind.i64.wrap (x10 + r11)) fun (x14 : Int) =>
  obind (s_l01From x14) fun (r15 : F) =>
  some r15) (
  obind3 (s_l01DrawFloat_0p0_C0 r1 r5 r6) fun (r16 : F) (r17 : Int) (r18 : Int) =>
  some r16)
theorem s_B10Number_ok (a0 : List Int) (q0 : F) (h : s_B10Number a0 = some q0) : Ev Tryz.prog 19 [sl a0.length (a0.map (ik .u8))] [] (f32 q0) [] := by
 refine Ev.start Tryz.func19 rfl rfl 1 (τ := [(0, sl a0.length (a0.map (ik .u8)))]) rfl (Γ' := [⟨0, none⟩]) rfl (n := 39) rfl (g := 0) rfl (fun _ => rfl) ?_
 unfold s_B10Number at h
 refine zQ ?_
 refine zl (r := f32 (some 0)) (LOp.le (LOp.assign rfl rfl) (ALe.fl (by kernel_rfl) (by kernel_rfl))) ?_
 refine zN ?_
 refine RunC.seq ?_
 obtain ⟨r1, r2, r3, hf1, h⟩ := obind3_some h
 refine RunC.regionW ?_
 refine zm (r := sl a0.length (a0.map (ik .u8))) ?_
 refine ROps.d (r := optr 0 1 0) (fs := [(0, [sl r1.length (r1.map (ik .u8)), i64 r2, ik .u64 r3])]) (Γ' := [⟨1, some [sl r1.length (r1.map (ik .u8)), i64 r2, ik .u64 r3]⟩]) rfl rfl rfl (TOp.callN (A := [sl a0.length (a0.map (ik .u8))]) (ls := [[sl r1.length (r1.map (ik .u8)), i64 r2, ik .u64 r3]]) [0] (by exact (CallAs.func ent38 rfl rfl)) (lts_cons (lt_sl (fun _ => rfl)) lts_nil) (s_l00From_ok a0 r1 r2 r3 hf1) (and_all (lts_cons (lt_sl (fun _ => rfl)) (lts_cons rfl (lts_cons rfl lts_nil))) rfl) rfl (by decide) (ns_of ⟨⟨_, rfl⟩, trivial⟩)) rfl ?_
 refine za (r := optr 0 1 0) ?_
 refine zN ?_
 iterate 2 (refine RunC.seq ?_)
 obtain ⟨r4, r5, r6, hf2, h⟩ := obind3_some h
 refine RunC.regionW ?_
 refine zm (r := optr 0 1 0) ?_
 refine ROps.callO (A := [optr 0 1 0, i64 2]) (args := [optr 0 0 0, i64 2]) (Γc := [⟨0, some [sl r1.length (r1.map (ik .u8)), i64 r2, ik .u64 r3]⟩]) (Γc' := [⟨0, some [sl r1.length (r1.map (ik .u8)), i64 r5, ik .u64 r6]⟩]) (r' := b r4) (Γ' := [⟨1, some [sl r1.length (r1.map (ik .u8)), i64 r5, ik .u64 r6]⟩]) [(0, 1)] [] rfl (CallAs.func ent52 rfl rfl) rfl rfl (SelOk.of (show List.Nodup [0] from by decide) (SelL.cells0 rfl (by simp [ren, rens, sigma, rens_f32, rens_f64, rens_i64, rens_ik, rens_str, rens_cp]) (lts_cons (lt_slk (fun _ => rfl)) (lts_cons rfl (lts_cons rfl lts_nil))) trivial)) (live_of ⟨⟨_, _, rfl⟩, trivial⟩) (by simp [ren, rens, sigma, rens_f32, rens_f64, rens_i64, rens_ik, rens_str, rens_cp]) rfl (s_l00Src_one_0p0_C0_ok 2 r1 r2 r3 r4 r5 r6 hf2) rfl (news_of trivial) (show List.Nodup [0] from by decide) (by simp [ren, rens, sigma]) (by simp [backOb, sigma, ren, rens, rens_f32, rens_f64, rens_i64, rens_ik, rens_str, rens_cp]) ?_
 refine zN ?_
 rcases bsel_some h with ⟨hc3, h⟩ | ⟨hc3, h⟩
 ·refine RunC.cond_true rfl hc3 ?_
  refine RunC.seq ?_
  obtain ⟨r7, r8, r9, hf4, h⟩ := obind3_some h
  obtain ⟨x10, hx5, h⟩ := olet_some h
  refine RunC.regionW ?_
  refine zm (r := optr 0 1 0) ?_
  refine ROps.callO (A := [optr 0 1 0, i64 65536]) (args := [optr 0 0 0, i64 65536]) (Γc := [⟨0, some [sl r1.length (r1.map (ik .u8)), i64 r5, ik .u64 r6]⟩]) (Γc' := [⟨0, some [sl r1.length (r1.map (ik .u8)), i64 r8, ik .u64 r9]⟩]) (r' := i64 r7) (Γ' := [⟨1, some [sl r1.length (r1.map (ik .u8)), i64 r8, ik .u64 r9]⟩]) [(0, 1)] [] rfl (CallAs.func ent39 rfl rfl) rfl rfl (SelOk.of (show List.Nodup [0] from by decide) (SelL.cells0 rfl (by simp [ren, rens, sigma, rens_f32, rens_f64, rens_i64, rens_ik, rens_str, rens_cp]) (lts_cons (lt_slk (fun _ => rfl)) (lts_cons rfl (lts_cons rfl lts_nil))) trivial)) (live_of ⟨⟨_, _, rfl⟩, trivial⟩) (by simp [ren, rens, sigma, rens_f32, rens_f64, rens_i64, rens_ik, rens_str, rens_cp]) rfl (s_l00Src_pick_0p0_C0_ok 65536 r1 r5 r6 r7 r8 r9 hf4) rfl (news_of trivial) (show List.Nodup [0] from by decide) (by simp [ren, rens, sigma]) (by simp [backOb, sigma, ren, rens, rens_f32, rens_f64, rens_i64, rens_ik, rens_str, rens_cp]) ?_
  refine zl (r := i64 x10) (LOp.eqr (LOp.mul rfl rfl rfl) (congrArg (ik .i64) hx5)) ?_
  refine za (r := i64 x10) ?_
  refine zN ?_
  refine RunC.seq ?_
  obtain ⟨r11, r12, r13, hf6, h⟩ := obind3_some h
  obtain ⟨x14, hx7, h⟩ := olet_some h
  obtain ⟨r15, hf8, h⟩ := obind_some h
  refine RunC.regionW ?_
  refine zm (r := i64 x10) ?_
  refine zm (r := optr 0 1 0) ?_
  refine ROps.callO (A := [optr 0 1 0, i64 65536]) (args := [optr 0 0 0, i64 65536]) (Γc := [⟨0, some [sl r1.length (r1.map (ik .u8)), i64 r8, ik .u64 r9]⟩]) (Γc' := [⟨0, some [sl r1.length (r1.map (ik .u8)), i64 r12, ik .u64 r13]⟩]) (r' := i64 r11) (Γ' := [⟨1, some [sl r1.length (r1.map (ik .u8)), i64 r12, ik .u64 r13]⟩]) [(0, 1)] [] rfl (CallAs.func ent39 rfl rfl) rfl rfl (SelOk.of (show List.Nodup [0] from by decide) (SelL.cells0 rfl (by simp [ren, rens, sigma, rens_f32, rens_f64, rens_i64, rens_ik, rens_str, rens_cp]) (lts_cons (lt_slk (fun _ => rfl)) (lts_cons rfl (lts_cons rfl lts_nil))) trivial)) (live_of ⟨⟨_, _, rfl⟩, trivial⟩) (by simp [ren, rens, sigma, rens_f32, rens_f64, rens_i64, rens_ik, rens_str, rens_cp]) rfl (s_l00Src_pick_0p0_C0_ok 65536 r1 r8 r9 r11 r12 r13 hf6) rfl (news_of trivial) (show List.Nodup [0] from by decide) (by simp [ren, rens, sigma]) (by simp [backOb, sigma, ren, rens, rens_f32, rens_f64, rens_i64, rens_ik, rens_str, rens_cp]) ?_
  refine zl (r := i64 x14) (LOp.eqr (LOp.add rfl rfl rfl) (congrArg (ik .i64) hx7)) ?_
  refine ROps.d (r := f32 r15) (fs := []) (Γ' := [⟨1, some [sl r1.length (r1.map (ik .u8)), i64 r12, ik .u64 r13]⟩]) rfl rfl rfl (TOp.callB (CallAs.func ent53 rfl rfl) (Bors.cons (Bor.pure rfl) Bors.nil) rfl rfl (s_l01From_ok x14 r15 hf8)) rfl ?_
  refine za (r := f32 r15) ?_
  refine zN ?_
  refine RunC.ret ?_
  have hq := Option.some.inj h
  subst q0
  exact bodyQ.pure (.inr rfl) rfl (Res.one rfl (RV.tmp rfl))
 ·refine RunC.cond_false rfl hc3 ?_
  refine RunC.skip ?_
  refine RunC.seq ?_
  obtain ⟨r16, r17, r18, hf9, h⟩ := obind3_some h
  refine RunC.regionW ?_
  refine zm (r := optr 0 1 0) ?_
  refine ROps.callO (A := [optr 0 1 0]) (args := [optr 0 0 0]) (Γc := [⟨0, some [sl r1.length (r1.map (ik .u8)), i64 r5, ik .u64 r6]⟩]) (Γc' := [⟨0, some [sl r1.length (r1.map (ik .u8)), i64 r17, ik .u64 r18]⟩]) (r' := f32 r16) (Γ' := [⟨1, some [sl r1.length (r1.map (ik .u8)), i64 r17, ik .u64 r18]⟩]) [(0, 1)] [] rfl (CallAs.func ent54 rfl rfl) rfl rfl (SelOk.of (show List.Nodup [0] from by decide) (SelL.cells0 rfl (by simp [ren, rens, sigma, rens_f32, rens_f64, rens_i64, rens_ik, rens_str, rens_cp]) (lts_cons (lt_slk (fun _ => rfl)) (lts_cons rfl (lts_cons rfl lts_nil))) trivial)) (live_of ⟨⟨_, _, rfl⟩, trivial⟩) (by simp [ren, rens, sigma, rens_f32, rens_f64, rens_i64, rens_ik, rens_str, rens_cp]) rfl (s_l01DrawFloat_0p0_C0_ok r1 r5 r6 r16 r17 r18 hf9) rfl (news_of trivial) (show List.Nodup [0] from by decide) (by simp [ren, rens, sigma]) (by simp [backOb, sigma, ren, rens, rens_f32, rens_f64, rens_i64, rens_ik, rens_str, rens_cp]) ?_
  refine za (r := f32 r16) ?_
  refine zN ?_
  refine RunC.ret ?_
  have hq := Option.some.inj h
  subst q0
  exact bodyQ.pure (.inr rfl) rfl (Res.one rfl (RV.tmp rfl))
noncomputable def i_BitsOf (a0 : F) : Option (Int) :=
 bsel (!feq .f32 a0 a0) (
  some 2143289344) (
  obind (a0) fun (b1 : Nat) =>
  olet (IntKind.i64.wrap (b1 : Int)) fun (x2 : Int) =>
  some x2)
theorem i_BitsOf_ok (a0 : F) (q0 : Int) (h : i_BitsOf a0 = some q0) : Ev Tryz.prog 21 [f32 a0] [] (i64 q0) [] := by
 refine Ev.start Tryz.func21 rfl rfl 0 (τ := [(0, f32 a0)]) rfl (Γ' := []) rfl (n := 19) rfl (g := 0) rfl (fun _ => rfl) ?_
 unfold i_BitsOf at h
 refine zQ ?_
 refine za (r := i64 0) ?_
 refine zN ?_
 iterate 2 (refine RunC.seq ?_)
 rcases bsel_some h with ⟨hc1, h⟩ | ⟨hc1, h⟩
 ·refine RunC.regionW ?_
  iterate 2 (refine zm (r := f32 a0) ?_)
  refine zl (r := b true) (LOp.eqb (LOp.fne rfl (OpF.tmp rfl) (OpF.tmp rfl)) hc1) ?_
  refine zN ?_
  refine RunC.cond_true rfl rfl ?_
  refine zQ ?_
  refine za (r := i64 2143289344) ?_
  refine zN ?_
  refine RunC.ret ?_
  have hq := Option.some.inj h
  subst q0
  exact bodyQ.pure (.inr rfl) rfl (Res.one rfl (RV.tmp rfl))
 ·refine RunC.regionW ?_
  iterate 2 (refine zm (r := f32 a0) ?_)
  refine zl (r := b false) (LOp.eqb (LOp.fne rfl (OpF.tmp rfl) (OpF.tmp rfl)) hc1) ?_
  refine zN ?_
  refine RunC.cond_false rfl rfl ?_
  refine RunC.skip ?_
  refine RunC.seq ?_
  obtain ⟨b1, he2, h⟩ := obind_some h
  obtain ⟨x2, hx3, h⟩ := olet_some h
  refine RunC.regionW ?_
  refine zm (r := f32 a0) ?_
  refine zl (r := ik .u32 (b1 : Int)) (LOp.fbx ext57 rfl (OpF.tmp rfl) he2) ?_
  refine zl (r := i64 x2) (LOp.eqr (LOp.i2i (src := 79) (dst := 2) ⟨_, pun79⟩ pun2 rfl rfl) (congrArg (ik .i64) hx3)) ?_
  refine za (r := i64 x2) ?_
  refine zN ?_
  refine RunC.ret ?_
  have hq := Option.some.inj h
  subst q0
  exact bodyQ.pure (.inr rfl) rfl (Res.one rfl (RV.tmp rfl))
noncomputable def i_inRange (a0 : Int) (a1 : Int) (a2 : Int) : Option (Bool) :=
 bsel (decide (a1 ≤ a0)) (
  some (decide (a0 ≤ a2))) (
  some false)
theorem i_inRange_ok (a0 : Int) (a1 : Int) (a2 : Int) (q0 : Bool) (h : i_inRange a0 a1 a2 = some q0) : Ev Tryz.prog 55 [i64 a0, i64 a1, i64 a2] [] (b q0) [] := by
 refine Ev.start Tryz.func55 rfl rfl 0 (τ := [(0, i64 a0), (1, i64 a1), (2, i64 a2)]) rfl (Γ' := []) rfl (n := 31) rfl (g := 0) rfl (fun _ => rfl) ?_
 unfold i_inRange at h
 refine zQ ?_
 refine za (r := b false) ?_
 refine zN ?_
 refine RunC.seq ?_
 rcases bsel_some h with ⟨hc1, h⟩ | ⟨hc1, h⟩
 ·refine RunC.regionW ?_
  refine zm (r := i64 a1) ?_
  refine zm (r := i64 a0) ?_
  refine zl (r := b true) (LOp.eqb (LOp.leq rfl rfl rfl) hc1) ?_
  refine zm (r := b true) ?_
  refine zm (r := i64 a0) ?_
  refine zm (r := i64 a2) ?_
  refine zl (r := b (decide (a0 ≤ a2))) (LOp.leq rfl rfl rfl) ?_
  refine zl (r := b (decide (a0 ≤ a2))) (LOp.pick_true rfl rfl rfl) ?_
  refine za (r := b (decide (a0 ≤ a2))) ?_
  refine zN ?_
  refine RunC.ret ?_
  have hq := Option.some.inj h
  subst q0
  exact bodyQ.pure (.inr rfl) rfl (Res.one rfl (RV.tmp rfl))
 ·refine RunC.regionW ?_
  refine zm (r := i64 a1) ?_
  refine zm (r := i64 a0) ?_
  refine zl (r := b false) (LOp.eqb (LOp.leq rfl rfl rfl) hc1) ?_
  refine zm (r := b false) ?_
  iterate 3 (refine ROps.s rfl rfl rfl ?_)
  refine zl (r := b false) (LOp.pick_false rfl rfl rfl) ?_
  refine za (r := b false) ?_
  refine zN ?_
  refine RunC.ret ?_
  have hq := Option.some.inj h
  subst q0
  exact bodyQ.pure (.inr rfl) rfl (Res.one rfl (RV.tmp rfl))
noncomputable def i_FromBits (a0 : Int) : Option (F × Bool) :=
 obind (i_inRange a0 0 4294967295) fun (r1 : Bool) =>
 bsel r1 (
  olet (IntKind.u32.wrap a0) fun (x2 : Int) =>
  need ((decide (0 ≤ x2) && decide (x2.toNat < 2 ^ FloatKind.f32.format.width))) <|
  some ((ffb .f32 x2), true)) (
  some (some 0, false))
theorem i_FromBits_ok (a0 : Int) (q0 : F) (q1 : Bool) (h : i_FromBits a0 = some (q0, q1)) : Ev Tryz.prog 20 [i64 a0] [] (tup [f32 q0, b q1]) [] := by
 refine Ev.start Tryz.func20 rfl rfl 0 (τ := [(0, i64 a0)]) rfl (Γ' := []) rfl (n := 21) rfl (g := 0) rfl (fun _ => rfl) ?_
 unfold i_FromBits at h
 refine zQ ?_
 refine zl (r := f32 (some 0)) (LOp.le (LOp.assign rfl rfl) (ALe.fl (by kernel_rfl) (by kernel_rfl))) ?_
 refine za (r := b false) ?_
 refine zN ?_
 iterate 2 (refine RunC.seq ?_)
 obtain ⟨r1, hf1, h⟩ := obind_some h
 rcases bsel_some h with ⟨hc2, h⟩ | ⟨hc2, h⟩
 ·refine RunC.regionW ?_
  refine zm (r := i64 a0) ?_
  refine ROps.d (r := b true) (fs := []) (Γ' := []) rfl rfl rfl (TOp.eqb (TOp.callB (CallAs.func ent55 rfl rfl) (Bors.cons (Bor.pure rfl) (Bors.cons (Bor.pure rfl) (Bors.cons (Bor.pure rfl) Bors.nil))) rfl rfl (i_inRange_ok a0 0 4294967295 r1 hf1)) hc2) rfl ?_
  refine zl (r := b false) (LOp.eqb (LOp.not rfl rfl) rfl) ?_
  refine zN ?_
  refine RunC.cond_false rfl rfl ?_
  refine RunC.skip ?_
  refine RunC.seq ?_
  obtain ⟨x2, hx3, h⟩ := olet_some h
  obtain ⟨hz4, h⟩ := need_some h
  refine RunC.regionW ?_
  refine zm (r := i64 a0) ?_
  refine zl (r := ik .u32 x2) (LOp.eqr (LOp.i2i (src := 2) (dst := 79) ⟨_, pun2⟩ pun79 rfl rfl) (congrArg (ik .u32) hx3)) ?_
  refine zl (r := f32 (ffb .f32 x2)) (LOp.ffromx ext56 rfl rfl hz4) ?_
  refine za (r := f32 (ffb .f32 x2)) ?_
  refine za (r := b true) ?_
  refine zN ?_
  refine RunC.ret ?_
  have hq := Option.some.inj h
  obtain ⟨hq0, hq⟩ := Prod.mk.inj hq
  subst q0
  subst q1
  exact bodyQ.pure (.inr rfl) rfl (Res.two rfl (RV.tmp rfl) (RV.tmp rfl))
 ·refine RunC.regionW ?_
  refine zm (r := i64 a0) ?_
  refine ROps.d (r := b false) (fs := []) (Γ' := []) rfl rfl rfl (TOp.eqb (TOp.callB (CallAs.func ent55 rfl rfl) (Bors.cons (Bor.pure rfl) (Bors.cons (Bor.pure rfl) (Bors.cons (Bor.pure rfl) Bors.nil))) rfl rfl (i_inRange_ok a0 0 4294967295 r1 hf1)) hc2) rfl ?_
  refine zl (r := b true) (LOp.eqb (LOp.not rfl rfl) rfl) ?_
  refine zN ?_
  refine RunC.cond_true rfl rfl ?_
  refine zQ ?_
  refine zl (r := f32 (some 0)) (LOp.le (LOp.assign rfl rfl) (ALe.fl (by kernel_rfl) (by kernel_rfl))) ?_
  refine za (r := b false) ?_
  refine zN ?_
  refine RunC.ret ?_
  have hq := Option.some.inj h
  obtain ⟨hq0, hq⟩ := Prod.mk.inj hq
  subst q0
  subst q1
  exact bodyQ.pure (.inr rfl) rfl (Res.two rfl (RV.tmp rfl) (RV.tmp rfl))
noncomputable def x_math_Abs (a0 : F) : Option (F) :=
 olet (fabs a0) fun (x1 : F) =>
 some x1
theorem x_math_Abs_ok (a0 : F) (q0 : F) (h : x_math_Abs a0 = some q0) : Ev Tryz.prog 69 [f64 a0] [] (f64 q0) [] := by
 refine Ev.start Tryz.func69 rfl rfl 0 (τ := [(0, f64 a0)]) rfl (Γ' := []) rfl (n := 15) rfl (g := 0) rfl (fun _ => rfl) ?_
 unfold x_math_Abs at h
 refine zQ ?_
 refine zl (r := f64 (some 0)) (LOp.le (LOp.assign rfl rfl) (ALe.fl (by kernel_rfl) (by kernel_rfl))) ?_
 refine zN ?_
 refine RunC.seq ?_
 obtain ⟨x1, hx1, h⟩ := olet_some h
 refine RunC.regionW ?_
 refine zm (r := f64 a0) ?_
 refine zl (r := bt .f64 .u64 a0) (LOp.fbits ext90 rfl (OpF.tmp rfl)) ?_
 refine zl (r := bt .f64 .u64 x1) (LOp.eqr (LOp.andNot_bt rfl rfl rfl) (congrArg (bt .f64 .u64) hx1)) ?_
 refine zl (r := f64 x1) (LOp.ffrom ext89 rfl rfl) ?_
 refine za (r := f64 x1) ?_
 refine zN ?_
 refine RunC.ret ?_
 have hq := Option.some.inj h
 subst q0
 exact bodyQ.pure (.inr rfl) rfl (Res.one rfl (RV.tmp rfl))
noncomputable def x_math_IsInf_k1 (y3 : F) : Option (Bool) :=
 some (flt .f64 (some 9218868437227405311) y3)
noncomputable def x_math_IsInf (a0 : F) (a1 : Int) : Option (Bool) :=
 bsel (decide (a1 = 0)) (
  obind (x_math_Abs a0) fun (r1 : F) =>
  x_math_IsInf_k1 r1) (
  bsel (decide (a1 < 0)) (
   olet (fneg .f64 a0) fun (x2 : F) =>
   x_math_IsInf_k1 x2) (
   x_math_IsInf_k1 a0))
theorem x_math_IsInf_ok (a0 : F) (a1 : Int) (q0 : Bool) (h : x_math_IsInf a0 a1 = some q0) : Ev Tryz.prog 107 [f64 a0, i64 a1] [] (b q0) [] := by
 refine Ev.start Tryz.func107 rfl rfl 0 (τ := [(0, f64 a0), (1, i64 a1)]) rfl (Γ' := []) rfl (n := 31) rfl (g := 0) rfl (fun _ => rfl) ?_
 unfold x_math_IsInf at h
 refine zQ ?_
 refine za (r := b false) ?_
 refine zN ?_
 refine RunC.seq ?_
 refine RunC.cutN (fun τ Γ => ∃ (y3 : F), WeakLe τ [(0, f64 y3)] ∧ DeadLe Γ [] ∧ x_math_IsInf_k1 y3 = some q0) ?_ ?_
 ·refine RunC.seq ?_
  rcases bsel_some h with ⟨hc1, h⟩ | ⟨hc1, h⟩
  ·refine RunC.regionW ?_
   refine zm (r := i64 a1) ?_
   refine zl (r := b true) (LOp.eqb (LOp.eql rfl rfl rfl) hc1) ?_
   refine zN ?_
   refine RunC.cond_true rfl rfl ?_
   obtain ⟨r1, hf2, h⟩ := obind_some h
   refine RunC.regionW ?_
   refine zm (r := f64 a0) ?_
   refine ROps.d (r := f64 r1) (fs := []) (Γ' := []) rfl rfl rfl (TOp.callB (CallAs.func ent69 rfl rfl) (Bors.cons (Bor.pure rfl) Bors.nil) rfl rfl (x_math_Abs_ok a0 r1 hf2)) rfl ?_
   refine za (r := f64 r1) ?_
   refine zN ?_
   exact ⟨r1, ⟨aR, trivial⟩, trivial, h⟩
  ·refine RunC.regionW ?_
   refine zm (r := i64 a1) ?_
   refine zl (r := b false) (LOp.eqb (LOp.eql rfl rfl rfl) hc1) ?_
   refine zN ?_
   refine RunC.cond_false rfl rfl ?_
   refine RunC.seq ?_
   rcases bsel_some h with ⟨hc3, h⟩ | ⟨hc3, h⟩
   ·refine RunC.regionW ?_
    refine zm (r := i64 a1) ?_
    refine zl (r := b true) (LOp.eqb (LOp.lss rfl rfl rfl) hc3) ?_
    refine zN ?_
    refine RunC.cond_true rfl rfl ?_
    obtain ⟨x2, hx4, h⟩ := olet_some h
    refine RunC.regionW ?_
    refine zm (r := f64 a0) ?_
    refine zl (r := f64 x2) (LOp.eqr (LOp.fneg rfl (OpF.tmp rfl)) (congrArg (f .f64) hx4)) ?_
    refine za (r := f64 x2) ?_
    refine zN ?_
    exact ⟨x2, ⟨aR, trivial⟩, trivial, h⟩
   ·refine RunC.regionW ?_
    refine zm (r := i64 a1) ?_
    refine zl (r := b false) (LOp.eqb (LOp.lss rfl rfl rfl) hc3) ?_
    refine zN ?_
    refine RunC.cond_false rfl rfl ?_
    refine RunC.skip ?_
    exact ⟨a0, ⟨aR, trivial⟩, trivial, h⟩
 ·rintro τ2 Γ2 ⟨y3, hw2, hd2, h⟩
  refine RunC.wl hw2 hd2 ?_
  unfold x_math_IsInf_k1 at h
  refine zQ ?_
  refine zm (r := f64 y3) ?_
  refine zl (r := b (flt .f64 (some 9218868437227405311) y3)) (LOp.fgt rfl (OpF.tmp rfl) (OpF.const rfl (by kernel_rfl) (by kernel_rfl))) ?_
  refine za (r := b (flt .f64 (some 9218868437227405311) y3)) ?_
  refine zN ?_
  refine RunC.ret ?_
  have hq := Option.some.inj h
  subst q0
  exact bodyQ.pure (.inr rfl) rfl (Res.one rfl (RV.tmp rfl))
noncomputable def x_math_IsNaN (a0 : F) : Option (Bool) :=
 some (!feq .f64 a0 a0)
theorem x_math_IsNaN_ok (a0 : F) (q0 : Bool) (h : x_math_IsNaN a0 = some q0) : Ev Tryz.prog 106 [f64 a0] [] (b q0) [] := by
 refine Ev.start Tryz.func106 rfl rfl 0 (τ := [(0, f64 a0)]) rfl (Γ' := []) rfl (n := 13) rfl (g := 0) rfl (fun _ => rfl) ?_
 unfold x_math_IsNaN at h
 refine zQ ?_
 refine za (r := b false) ?_
 refine zN ?_
 refine zQ ?_
 iterate 2 (refine zm (r := f64 a0) ?_)
 refine zl (r := b (!feq .f64 a0 a0)) (LOp.fne rfl (OpF.tmp rfl) (OpF.tmp rfl)) ?_
 refine za (r := b (!feq .f64 a0 a0)) ?_
 refine zN ?_
 refine RunC.ret ?_
 have hq := Option.some.inj h
 subst q0
 exact bodyQ.pure (.inr rfl) rfl (Res.one rfl (RV.tmp rfl))
noncomputable def x_math_normalize (a0 : F) : Option (F × Int) :=
 obind (x_math_Abs a0) fun (r1 : F) =>
 bsel (flt .f64 r1 (some 4503599627370496)) (
  olet (fop .mul .f64 a0 (some 4841369599423283200)) fun (x2 : F) =>
  some (x2, (-52))) (
  some (a0, 0))
theorem x_math_normalize_ok (a0 : F) (q0 : F) (q1 : Int) (h : x_math_normalize a0 = some (q0, q1)) : Ev Tryz.prog 108 [f64 a0] [] (tup [f64 q0, i64 q1]) [] := by
 refine Ev.start Tryz.func108 rfl rfl 0 (τ := [(0, f64 a0)]) rfl (Γ' := []) rfl (n := 21) rfl (g := 0) rfl (fun _ => rfl) ?_
 unfold x_math_normalize at h
 refine zQ ?_
 refine zl (r := f64 (some 0)) (LOp.le (LOp.assign rfl rfl) (ALe.fl (by kernel_rfl) (by kernel_rfl))) ?_
 refine za (r := i64 0) ?_
 refine zN ?_
 iterate 2 (refine RunC.seq ?_)
 obtain ⟨r1, hf1, h⟩ := obind_some h
 rcases bsel_some h with ⟨hc2, h⟩ | ⟨hc2, h⟩
 ·refine RunC.regionW ?_
  refine zm (r := f64 a0) ?_
  refine ROps.d (r := f64 r1) (fs := []) (Γ' := []) rfl rfl rfl (TOp.callB (CallAs.func ent69 rfl rfl) (Bors.cons (Bor.pure rfl) Bors.nil) rfl rfl (x_math_Abs_ok a0 r1 hf1)) rfl ?_
  refine zl (r := b true) (LOp.eqb (LOp.flt rfl (OpF.tmp rfl) (OpF.const rfl (by kernel_rfl) (by kernel_rfl))) hc2) ?_
  refine zN ?_
  refine RunC.cond_true rfl rfl ?_
  refine RunC.seq ?_
  obtain ⟨x2, hx3, h⟩ := olet_some h
  refine RunC.regionW ?_
  refine zm (r := f64 a0) ?_
  refine ROps.d (r := f64 x2) (fs := []) (Γ' := []) rfl rfl rfl (TOp.eqr (TOp.fop (.inr (.inr (.inl rfl))) rfl (OpF.tmp rfl) (OpF.const rfl (by kernel_rfl) (by kernel_rfl))) (congrArg (f .f64) hx3)) rfl ?_
  refine za (r := f64 x2) ?_
  refine za (r := i64 (-52)) ?_
  refine zN ?_
  refine RunC.ret ?_
  have hq := Option.some.inj h
  obtain ⟨hq0, hq⟩ := Prod.mk.inj hq
  subst q0
  subst q1
  exact bodyQ.pure (.inr rfl) rfl (Res.two rfl (RV.tmp rfl) (RV.tmp rfl))
 ·refine RunC.regionW ?_
  refine zm (r := f64 a0) ?_
  refine ROps.d (r := f64 r1) (fs := []) (Γ' := []) rfl rfl rfl (TOp.callB (CallAs.func ent69 rfl rfl) (Bors.cons (Bor.pure rfl) Bors.nil) rfl rfl (x_math_Abs_ok a0 r1 hf1)) rfl ?_
  refine zl (r := b false) (LOp.eqb (LOp.flt rfl (OpF.tmp rfl) (OpF.const rfl (by kernel_rfl) (by kernel_rfl))) hc2) ?_
  refine zN ?_
  refine RunC.cond_false rfl rfl ?_
  refine RunC.skip ?_
  refine zQ ?_
  refine zm (r := f64 a0) ?_
  refine za (r := f64 a0) ?_
  refine za (r := i64 0) ?_
  refine zN ?_
  refine RunC.ret ?_
  have hq := Option.some.inj h
  obtain ⟨hq0, hq⟩ := Prod.mk.inj hq
  subst q0
  subst q1
  exact bodyQ.pure (.inr rfl) rfl (Res.two rfl (RV.tmp rfl) (RV.tmp rfl))
noncomputable def x_math_Copysign (a0 : F) (a1 : F) : Option (F) :=
 obind (a0) fun (b1 : Nat) =>
 olet (iandn .u64 (b1 : Int) 9223372036854775808) fun (x2 : Int) =>
 obind (a1) fun (b3 : Nat) =>
 olet (iand .u64 (b3 : Int) 9223372036854775808) fun (x4 : Int) =>
 olet (ior .u64 x2 x4) fun (x5 : Int) =>
 need ((decide (0 ≤ x5) && decide (x5.toNat < 2 ^ FloatKind.f64.format.width))) <|
 some (ffb .f64 x5)
theorem x_math_Copysign_ok (a0 : F) (a1 : F) (q0 : F) (h : x_math_Copysign a0 a1 = some q0) : Ev Tryz.prog 64 [f64 a0, f64 a1] [] (f64 q0) [] := by
 refine Ev.start Tryz.func64 rfl rfl 0 (τ := [(0, f64 a0), (1, f64 a1)]) rfl (Γ' := []) rfl (n := 27) rfl (g := 0) rfl (fun _ => rfl) ?_
 unfold x_math_Copysign at h
 refine zQ ?_
 refine zl (r := f64 (some 0)) (LOp.le (LOp.assign rfl rfl) (ALe.fl (by kernel_rfl) (by kernel_rfl))) ?_
 refine zN ?_
 refine RunC.seq ?_
 obtain ⟨b1, he1, h⟩ := obind_some h
 obtain ⟨x2, hx2, h⟩ := olet_some h
 obtain ⟨b3, he3, h⟩ := obind_some h
 obtain ⟨x4, hx4, h⟩ := olet_some h
 obtain ⟨x5, hx5, h⟩ := olet_some h
 obtain ⟨hz6, h⟩ := need_some h
 refine RunC.regionW ?_
 refine zm (r := f64 a0) ?_
 refine zl (r := ik .u64 (b1 : Int)) (LOp.fbx ext90 rfl (OpF.tmp rfl) he1) ?_
 refine zl (r := ik .u64 x2) (LOp.eqr (LOp.iandn rfl rfl rfl) (congrArg (ik .u64) hx2)) ?_
 refine zm (r := f64 a1) ?_
 refine zl (r := ik .u64 (b3 : Int)) (LOp.fbx ext90 rfl (OpF.tmp rfl) he3) ?_
 refine zl (r := ik .u64 x4) (LOp.eqr (LOp.iand rfl rfl rfl) (congrArg (ik .u64) hx4)) ?_
 refine zl (r := ik .u64 x5) (LOp.eqr (LOp.ior rfl rfl rfl) (congrArg (ik .u64) hx5)) ?_
 refine zl (r := f64 (ffb .f64 x5)) (LOp.ffromx ext89 rfl rfl hz6) ?_
 refine za (r := f64 (ffb .f64 x5)) ?_
 refine zN ?_
 refine RunC.ret ?_
 have hq := Option.some.inj h
 subst q0
 exact bodyQ.pure (.inr rfl) rfl (Res.one rfl (RV.tmp rfl))
noncomputable def x_math_Inf_k1 (v1 : Int) : Option (F) :=
 need ((decide (0 ≤ v1) && decide (v1.toNat < 2 ^ FloatKind.f64.format.width))) <|
 some (ffb .f64 v1)
noncomputable def x_math_Inf (a0 : Int) : Option (F) :=
 bsel (decide (0 ≤ a0)) (
  x_math_Inf_k1 9218868437227405312) (
  x_math_Inf_k1 18442240474082181120)
theorem x_math_Inf_ok (a0 : Int) (q0 : F) (h : x_math_Inf a0 = some q0) : Ev Tryz.prog 109 [i64 a0] [] (f64 q0) [] := by
 refine Ev.start Tryz.func109 rfl rfl 0 (τ := [(0, i64 a0)]) rfl (Γ' := []) rfl (n := 17) rfl (g := 0) rfl (fun _ => rfl) ?_
 unfold x_math_Inf at h
 refine zQ ?_
 refine zl (r := f64 (some 0)) (LOp.le (LOp.assign rfl rfl) (ALe.fl (by kernel_rfl) (by kernel_rfl))) ?_
 refine zN ?_
 refine zQ ?_
 refine za (r := ik .u64 0) ?_
 refine zN ?_
 refine RunC.seq ?_
 refine RunC.cutN (fun τ Γ => ∃ (v1 : Int), WeakLe τ [(3, ik .u64 v1)] ∧ DeadLe Γ [] ∧ x_math_Inf_k1 v1 = some q0) ?_ ?_
 ·refine RunC.seq ?_
  rcases bsel_some h with ⟨hc1, h⟩ | ⟨hc1, h⟩
  ·refine RunC.regionW ?_
   refine zm (r := i64 a0) ?_
   refine zl (r := b true) (LOp.eqb (LOp.geq rfl rfl rfl) hc1) ?_
   refine zN ?_
   refine RunC.cond_true rfl rfl ?_
   refine RunC.regionW ?_
   refine za (r := ik .u64 9218868437227405312) ?_
   refine zN ?_
   exact ⟨9218868437227405312, ⟨aR, trivial⟩, trivial, h⟩
  ·refine RunC.regionW ?_
   refine zm (r := i64 a0) ?_
   refine zl (r := b false) (LOp.eqb (LOp.geq rfl rfl rfl) hc1) ?_
   refine zN ?_
   refine RunC.cond_false rfl rfl ?_
   refine RunC.regionW ?_
   refine za (r := ik .u64 18442240474082181120) ?_
   refine zN ?_
   exact ⟨18442240474082181120, ⟨aR, trivial⟩, trivial, h⟩
 ·rintro τ2 Γ2 ⟨v1, hw2, hd2, h⟩
  refine RunC.wl hw2 hd2 ?_
  unfold x_math_Inf_k1 at h
  refine RunC.seq ?_
  obtain ⟨hz2, h⟩ := need_some h
  refine RunC.regionW ?_
  refine zm (r := ik .u64 v1) ?_
  refine zl (r := f64 (ffb .f64 v1)) (LOp.ffromx ext89 rfl rfl hz2) ?_
  refine za (r := f64 (ffb .f64 v1)) ?_
  refine zN ?_
  refine RunC.ret ?_
  have hq := Option.some.inj h
  subst q0
  exact bodyQ.pure (.inr rfl) rfl (Res.one rfl (RV.tmp rfl))
noncomputable def x_math_ldexp_k1 (b6 : Nat) (v16 : Int) (y17 : F) : Option (F) :=
 olet (iandn .u64 (b6 : Int) 9218868437227405312) fun (x18 : Int) =>
 olet (IntKind.i64.wrap (v16 + 1023)) fun (x19 : Int) =>
 olet (IntKind.u64.wrap x19) fun (x20 : Int) =>
 need (decide ((0 : Int) ≤ 52)) <|
 olet (ishl .u64 x20 52) fun (x21 : Int) =>
 olet (ior .u64 x18 x21) fun (x22 : Int) =>
 need ((decide (0 ≤ x22) && decide (x22.toNat < 2 ^ FloatKind.f64.format.width))) <|
 olet (fop .mul .f64 y17 (ffb .f64 x22)) fun (x23 : F) =>
 some x23
noncomputable def x_math_ldexp (a0 : F) (a1 : Int) : Option (F) :=
 bsel (feq .f64 a0 (some 0)) (
  some a0) (
  obind (x_math_IsInf a0 0) fun (r1 : Bool) =>
  bsel r1 (
   some a0) (
   obind (x_math_IsNaN a0) fun (r2 : Bool) =>
   bsel r2 (
    some a0) (
    obind2 (x_math_normalize a0) fun (r3 : F) (r4 : Int) =>
    olet (IntKind.i64.wrap (a1 + r4)) fun (x5 : Int) =>
    obind (r3) fun (b6 : Nat) =>
    need (decide ((0 : Int) ≤ 52)) <|
    olet (ishr .u64 (b6 : Int) 52) fun (x7 : Int) =>
    olet (IntKind.i64.wrap x7) fun (x8 : Int) =>
    olet (iand .i64 x8 2047) fun (x9 : Int) =>
    olet (IntKind.i64.wrap (x9 - 1023)) fun (x10 : Int) =>
    olet (IntKind.i64.wrap (x5 + x10)) fun (x11 : Int) =>
    bsel (decide (x11 < (-1075))) (
     obind (x_math_Copysign (some 0) r3) fun (r12 : F) =>
     some r12) (
     bsel (decide (1023 < x11)) (
      bsel (flt .f64 r3 (some 0)) (
       obind (x_math_Inf (-1)) fun (r13 : F) =>
       some r13) (
       obind (x_math_Inf 1) fun (r14 : F) =>
       some r14)) (
      bsel (decide (x11 < (-1022))) (
       olet (IntKind.i64.wrap (x11 + 53)) fun (x15 : Int) =>
       x_math_ldexp_k1 b6 x15 (some 4368491638549381120)) (
       x_math_ldexp_k1 b6 x11 (some 4607182418800017408)))))))
theorem x_math_ldexp_ok (a0 : F) (a1 : Int) (q0 : F) (h : x_math_ldexp a0 a1 = some q0) : Ev Tryz.prog 92 [f64 a0, i64 a1] [] (f64 q0) [] := by
 refine Ev.start Tryz.func92 rfl rfl 0 (τ := [(0, f64 a0), (1, i64 a1)]) rfl (Γ' := []) rfl (n := 127) rfl (g := 0) rfl (fun _ => rfl) ?_
 unfold x_math_ldexp at h
 refine zQ ?_
 refine zl (r := f64 (some 0)) (LOp.le (LOp.assign rfl rfl) (ALe.fl (by kernel_rfl) (by kernel_rfl))) ?_
 refine zN ?_
 refine RunC.seq ?_
 refine RunC.block ?_
 refine RunC.seq ?_
 rcases bsel_some h with ⟨hc1, h⟩ | ⟨hc1, h⟩
 ·refine RunC.regionW ?_
  refine zm (r := f64 a0) ?_
  refine zl (r := b true) (LOp.eqb (LOp.feq rfl (OpF.tmp rfl) (OpF.const rfl (by kernel_rfl) (by kernel_rfl))) hc1) ?_
  refine za (r := b true) ?_
  refine zN ?_
  refine RunC.cond_true rfl rfl ?_
  refine zQ ?_
  refine zm (r := f64 a0) ?_
  refine za (r := f64 a0) ?_
  refine zN ?_
  refine RunC.ret ?_
  have hq := Option.some.inj h
  subst q0
  exact bodyQ.pure (.inr rfl) rfl (Res.one rfl (RV.tmp rfl))
 ·refine RunC.regionW ?_
  refine zm (r := f64 a0) ?_
  refine zl (r := b false) (LOp.eqb (LOp.feq rfl (OpF.tmp rfl) (OpF.const rfl (by kernel_rfl) (by kernel_rfl))) hc1) ?_
  refine za (r := b false) ?_
  refine zN ?_
  refine RunC.cond_false rfl rfl ?_
  refine RunC.seq ?_
  obtain ⟨r1, hf2, h⟩ := obind_some h
  rcases bsel_some h with ⟨hc3, h⟩ | ⟨hc3, h⟩
  ·refine RunC.regionW ?_
   refine zm (r := f64 a0) ?_
   refine ROps.d (r := b true) (fs := []) (Γ' := []) rfl rfl rfl (TOp.eqb (TOp.callB (CallAs.func ent107 rfl rfl) (Bors.cons (Bor.pure rfl) (Bors.cons (Bor.pure rfl) Bors.nil)) rfl rfl (x_math_IsInf_ok a0 0 r1 hf2)) hc3) rfl ?_
   refine zm (r := b true) ?_
   iterate 2 (refine ROps.s rfl rfl rfl ?_)
   refine zl (r := b true) (LOp.pick_true rfl rfl rfl) ?_
   refine za (r := b true) ?_
   refine zN ?_
   refine RunC.cond_true rfl rfl ?_
   refine zQ ?_
   refine zm (r := f64 a0) ?_
   refine za (r := f64 a0) ?_
   refine zN ?_
   refine RunC.ret ?_
   have hq := Option.some.inj h
   subst q0
   exact bodyQ.pure (.inr rfl) rfl (Res.one rfl (RV.tmp rfl))
  ·obtain ⟨r2, hf4, h⟩ := obind_some h
   rcases bsel_some h with ⟨hc5, h⟩ | ⟨hc5, h⟩
   ·refine RunC.regionW ?_
    refine zm (r := f64 a0) ?_
    refine ROps.d (r := b false) (fs := []) (Γ' := []) rfl rfl rfl (TOp.eqb (TOp.callB (CallAs.func ent107 rfl rfl) (Bors.cons (Bor.pure rfl) (Bors.cons (Bor.pure rfl) Bors.nil)) rfl rfl (x_math_IsInf_ok a0 0 r1 hf2)) hc3) rfl ?_
    refine zm (r := b false) ?_
    refine zm (r := f64 a0) ?_
    refine ROps.d (r := b true) (fs := []) (Γ' := []) rfl rfl rfl (TOp.eqb (TOp.callB (CallAs.func ent106 rfl rfl) (Bors.cons (Bor.pure rfl) Bors.nil) rfl rfl (x_math_IsNaN_ok a0 r2 hf4)) hc5) rfl ?_
    refine zl (r := b true) (LOp.pick_false rfl rfl rfl) ?_
    refine za (r := b true) ?_
    refine zN ?_
    refine RunC.cond_true rfl rfl ?_
    refine zQ ?_
    refine zm (r := f64 a0) ?_
    refine za (r := f64 a0) ?_
    refine zN ?_
    refine RunC.ret ?_
    have hq := Option.some.inj h
    subst q0
    exact bodyQ.pure (.inr rfl) rfl (Res.one rfl (RV.tmp rfl))
   ·refine RunC.regionW ?_
    refine zm (r := f64 a0) ?_
    refine ROps.d (r := b false) (fs := []) (Γ' := []) rfl rfl rfl (TOp.eqb (TOp.callB (CallAs.func ent107 rfl rfl) (Bors.cons (Bor.pure rfl) (Bors.cons (Bor.pure rfl) Bors.nil)) rfl rfl (x_math_IsInf_ok a0 0 r1 hf2)) hc3) rfl ?_
    refine zm (r := b false) ?_
    refine zm (r := f64 a0) ?_
    refine ROps.d (r := b false) (fs := []) (Γ' := []) rfl rfl rfl (TOp.eqb (TOp.callB (CallAs.func ent106 rfl rfl) (Bors.cons (Bor.pure rfl) Bors.nil) rfl rfl (x_math_IsNaN_ok a0 r2 hf4)) hc5) rfl ?_
    refine zl (r := b false) (LOp.pick_false rfl rfl rfl) ?_
    refine za (r := b false) ?_
    refine zN ?_
    refine RunC.cond_false rfl rfl ?_
    refine RunC.skip ?_
    refine RunC.seq ?_
    obtain ⟨r3, r4, hf6, h⟩ := obind2_some h
    refine RunC.regionW ?_
    refine zm (r := f64 a0) ?_
    refine ROps.d (r := tup [f64 r3, i64 r4]) (fs := []) (Γ' := []) rfl rfl rfl (TOp.callB (CallAs.func ent108 rfl rfl) (Bors.cons (Bor.pure rfl) Bors.nil) rfl rfl (x_math_normalize_ok a0 r3 r4 hf6)) rfl ?_
    refine zm (r := tup [f64 r3, i64 r4]) ?_
    refine zl (r := f64 r3) (LOp.extract rfl rfl rfl) ?_
    refine zl (r := i64 r4) (LOp.extract rfl rfl rfl) ?_
    refine za (r := f64 r3) ?_
    refine za (r := i64 r4) ?_
    refine zN ?_
    refine RunC.wl (τ' := [(0, f64 r3), (1, i64 a1), (5, i64 r4)]) (Γ' := []) ⟨aR, aR, aR, trivial⟩ trivial ?_
    refine RunC.seq ?_
    obtain ⟨x5, hx7, h⟩ := olet_some h
    refine RunC.regionW ?_
    refine zm (r := i64 a1) ?_
    refine zm (r := i64 r4) ?_
    refine zl (r := i64 x5) (LOp.eqr (LOp.add rfl rfl rfl) (congrArg (ik .i64) hx7)) ?_
    refine za (r := i64 x5) ?_
    refine zN ?_
    refine RunC.seq ?_
    obtain ⟨b6, he8, h⟩ := obind_some h
    refine RunC.regionW ?_
    refine zm (r := f64 r3) ?_
    refine zl (r := ik .u64 (b6 : Int)) (LOp.fbx ext90 rfl (OpF.tmp rfl) he8) ?_
    refine za (r := ik .u64 (b6 : Int)) ?_
    refine zN ?_
    refine RunC.seq ?_
    obtain ⟨hz9, h⟩ := need_some h
    obtain ⟨x7, hx10, h⟩ := olet_some h
    obtain ⟨x8, hx11, h⟩ := olet_some h
    obtain ⟨x9, hx12, h⟩ := olet_some h
    obtain ⟨x10, hx13, h⟩ := olet_some h
    obtain ⟨x11, hx14, h⟩ := olet_some h
    refine RunC.regionW ?_
    refine zm (r := i64 x5) ?_
    refine zm (r := ik .u64 (b6 : Int)) ?_
    refine zl (r := ik .u64 x7) (LOp.eqr (LOp.shr rfl rfl rfl (of_decide_eq_true hz9)) (congrArg (ik .u64) hx10)) ?_
    refine zl (r := i64 x8) (LOp.eqr (LOp.i2i (src := 90) (dst := 3) ⟨_, pun90⟩ pun3 rfl rfl) (congrArg (ik .i64) hx11)) ?_
    refine zl (r := i64 x9) (LOp.eqr (LOp.iand rfl rfl rfl) (congrArg (ik .i64) hx12)) ?_
    refine zl (r := i64 x10) (LOp.eqr (LOp.sub rfl rfl rfl) (congrArg (ik .i64) hx13)) ?_
    refine zl (r := i64 x11) (LOp.eqr (LOp.add rfl rfl rfl) (congrArg (ik .i64) hx14)) ?_
    refine za (r := i64 x11) ?_
    refine zN ?_
    refine RunC.wl (τ' := [(0, f64 r3), (1, i64 x11), (6, ik .u64 (b6 : Int))]) (Γ' := []) ⟨aR, aR, aR, trivial⟩ trivial ?_
    iterate 2 (refine RunC.seq ?_)
    rcases bsel_some h with ⟨hc15, h⟩ | ⟨hc15, h⟩
    ·refine RunC.regionW ?_
     refine zm (r := i64 x11) ?_
     refine zl (r := b true) (LOp.eqb (LOp.lss rfl rfl rfl) hc15) ?_
     refine zN ?_
     refine RunC.cond_true rfl rfl ?_
     refine RunC.seq ?_
     obtain ⟨r12, hf16, h⟩ := obind_some h
     refine RunC.regionW ?_
     refine zm (r := f64 r3) ?_
     refine ROps.d (r := f64 r12) (fs := []) (Γ' := []) rfl rfl rfl (TOp.callB (CallAs.func ent64 rfl rfl) (Bors.cons (Bor.le (ALe.fl (by kernel_rfl) (by kernel_rfl)) (Bor.pure rfl)) (Bors.cons (Bor.pure rfl) Bors.nil)) rfl rfl (x_math_Copysign_ok (some 0) r3 r12 hf16)) rfl ?_
     refine za (r := f64 r12) ?_
     refine zN ?_
     refine RunC.ret ?_
     have hq := Option.some.inj h
     subst q0
     exact bodyQ.pure (.inr rfl) rfl (Res.one rfl (RV.tmp rfl))
    ·refine RunC.regionW ?_
     refine zm (r := i64 x11) ?_
     refine zl (r := b false) (LOp.eqb (LOp.lss rfl rfl rfl) hc15) ?_
     refine zN ?_
     refine RunC.cond_false rfl rfl ?_
     refine RunC.skip ?_
     iterate 2 (refine RunC.seq ?_)
     rcases bsel_some h with ⟨hc17, h⟩ | ⟨hc17, h⟩
     ·refine RunC.regionW ?_
      refine zm (r := i64 x11) ?_
      refine zl (r := b true) (LOp.eqb (LOp.gtr rfl rfl rfl) hc17) ?_
      refine zN ?_
      refine RunC.cond_true rfl rfl ?_
      iterate 2 (refine RunC.seq ?_)
      rcases bsel_some h with ⟨hc18, h⟩ | ⟨hc18, h⟩
      ·refine RunC.regionW ?_
       refine zm (r := f64 r3) ?_
       refine zl (r := b true) (LOp.eqb (LOp.flt rfl (OpF.tmp rfl) (OpF.const rfl (by kernel_rfl) (by kernel_rfl))) hc18) ?_
       refine zN ?_
       refine RunC.cond_true rfl rfl ?_
       refine RunC.seq ?_
       obtain ⟨r13, hf19, h⟩ := obind_some h
       refine RunC.regionW ?_
       refine ROps.d (r := f64 r13) (fs := []) (Γ' := []) rfl rfl rfl (TOp.callB (CallAs.func ent109 rfl rfl) (Bors.cons (Bor.pure rfl) Bors.nil) rfl rfl (x_math_Inf_ok (-1) r13 hf19)) rfl ?_
       refine za (r := f64 r13) ?_
       refine zN ?_
       refine RunC.ret ?_
       have hq := Option.some.inj h
       subst q0
       exact bodyQ.pure (.inr rfl) rfl (Res.one rfl (RV.tmp rfl))
      ·refine RunC.regionW ?_
       refine zm (r := f64 r3) ?_
       refine zl (r := b false) (LOp.eqb (LOp.flt rfl (OpF.tmp rfl) (OpF.const rfl (by kernel_rfl) (by kernel_rfl))) hc18) ?_
       refine zN ?_
       refine RunC.cond_false rfl rfl ?_
       refine RunC.skip ?_
       refine RunC.seq ?_
       obtain ⟨r14, hf20, h⟩ := obind_some h
       refine RunC.regionW ?_
       refine ROps.d (r := f64 r14) (fs := []) (Γ' := []) rfl rfl rfl (TOp.callB (CallAs.func ent109 rfl rfl) (Bors.cons (Bor.pure rfl) Bors.nil) rfl rfl (x_math_Inf_ok 1 r14 hf20)) rfl ?_
       refine za (r := f64 r14) ?_
       refine zN ?_
       refine RunC.ret ?_
       have hq := Option.some.inj h
       subst q0
       exact bodyQ.pure (.inr rfl) rfl (Res.one rfl (RV.tmp rfl))
     ·refine RunC.regionW ?_
      refine zm (r := i64 x11) ?_
      refine zl (r := b false) (LOp.eqb (LOp.gtr rfl rfl rfl) hc17) ?_
      refine zN ?_
      refine RunC.cond_false rfl rfl ?_
      refine RunC.skip ?_
      refine zQ ?_
      refine zl (r := f64 (some 4607182418800017408)) (LOp.le (LOp.assign rfl rfl) (ALe.fl (by kernel_rfl) (by kernel_rfl))) ?_
      refine zN ?_
      refine RunC.seq ?_
      refine RunC.cutN (fun τ Γ => ∃ (v16 : Int) (y17 : F), WeakLe τ [(1, i64 v16), (6, ik .u64 (b6 : Int)), (7, f64 y17)] ∧ DeadLe Γ [] ∧ x_math_ldexp_k1 b6 v16 y17 = some q0) ?_ ?_
      ·refine RunC.seq ?_
       rcases bsel_some h with ⟨hc21, h⟩ | ⟨hc21, h⟩
       ·refine RunC.regionW ?_
        refine zm (r := i64 x11) ?_
        refine zl (r := b true) (LOp.eqb (LOp.lss rfl rfl rfl) hc21) ?_
        refine zN ?_
        refine RunC.cond_true rfl rfl ?_
        refine RunC.seq ?_
        obtain ⟨x15, hx22, h⟩ := olet_some h
        refine RunC.regionW ?_
        refine zm (r := i64 x11) ?_
        refine zl (r := i64 x15) (LOp.eqr (LOp.add rfl rfl rfl) (congrArg (ik .i64) hx22)) ?_
        refine za (r := i64 x15) ?_
        refine zN ?_
        refine RunC.regionW ?_
        refine zl (r := f64 (some 4368491638549381120)) (LOp.le (LOp.assign rfl rfl) (ALe.fl (by kernel_rfl) (by kernel_rfl))) ?_
        refine zN ?_
        exact ⟨x15, some 4368491638549381120, ⟨aR, aR, aR, trivial⟩, trivial, h⟩
       ·refine RunC.regionW ?_
        refine zm (r := i64 x11) ?_
        refine zl (r := b false) (LOp.eqb (LOp.lss rfl rfl rfl) hc21) ?_
        refine zN ?_
        refine RunC.cond_false rfl rfl ?_
        refine RunC.skip ?_
        exact ⟨x11, some 4607182418800017408, ⟨aR, aR, aR, trivial⟩, trivial, h⟩
      ·rintro τ2 Γ2 ⟨v16, y17, hw2, hd2, h⟩
       refine RunC.wl hw2 hd2 ?_
       unfold x_math_ldexp_k1 at h
       refine RunC.seq ?_
       obtain ⟨x18, hx23, h⟩ := olet_some h
       refine RunC.regionW ?_
       refine zm (r := ik .u64 (b6 : Int)) ?_
       refine zl (r := ik .u64 x18) (LOp.eqr (LOp.iandn rfl rfl rfl) (congrArg (ik .u64) hx23)) ?_
       refine za (r := ik .u64 x18) ?_
       refine zN ?_
       refine RunC.seq ?_
       obtain ⟨x19, hx24, h⟩ := olet_some h
       obtain ⟨x20, hx25, h⟩ := olet_some h
       obtain ⟨hz26, h⟩ := need_some h
       obtain ⟨x21, hx27, h⟩ := olet_some h
       obtain ⟨x22, hx28, h⟩ := olet_some h
       refine RunC.regionW ?_
       refine zm (r := ik .u64 x18) ?_
       refine zm (r := i64 v16) ?_
       refine zl (r := i64 x19) (LOp.eqr (LOp.add rfl rfl rfl) (congrArg (ik .i64) hx24)) ?_
       refine zl (r := ik .u64 x20) (LOp.eqr (LOp.i2i (src := 3) (dst := 90) ⟨_, pun3⟩ pun90 rfl rfl) (congrArg (ik .u64) hx25)) ?_
       refine zl (r := ik .u64 x21) (LOp.eqr (LOp.shl rfl rfl rfl (of_decide_eq_true hz26)) (congrArg (ik .u64) hx27)) ?_
       refine zl (r := ik .u64 x22) (LOp.eqr (LOp.ior rfl rfl rfl) (congrArg (ik .u64) hx28)) ?_
       refine za (r := ik .u64 x22) ?_
       refine zN ?_
       refine RunC.seq ?_
       obtain ⟨hz29, h⟩ := need_some h
       obtain ⟨x23, hx30, h⟩ := olet_some h
       refine RunC.regionW ?_
       refine zm (r := f64 y17) ?_
       refine zm (r := ik .u64 x22) ?_
       refine zl (r := f64 (ffb .f64 x22)) (LOp.ffromx ext89 rfl rfl hz29) ?_
       refine ROps.d (r := f64 x23) (fs := []) (Γ' := []) rfl rfl rfl (TOp.eqr (TOp.fop (.inr (.inr (.inl rfl))) rfl (OpF.tmp rfl) (OpF.tmp rfl)) (congrArg (f .f64) hx30)) rfl ?_
       refine za (r := f64 x23) ?_
       refine zN ?_
       refine RunC.ret ?_
       have hq := Option.some.inj h
       subst q0
       exact bodyQ.pure (.inr rfl) rfl (Res.one rfl (RV.tmp rfl))
noncomputable def x_math_Ldexp (a0 : F) (a1 : Int) : Option (F) :=
 obind (x_math_ldexp a0 a1) fun (r1 : F) =>
 some r1
theorem x_math_Ldexp_ok (a0 : F) (a1 : Int) (q0 : F) (h : x_math_Ldexp a0 a1 = some q0) : Ev Tryz.prog 70 [f64 a0, i64 a1] [] (f64 q0) [] := by
 refine Ev.start Tryz.func70 rfl rfl 0 (τ := [(0, f64 a0), (1, i64 a1)]) rfl (Γ' := []) rfl (n := 23) rfl (g := 0) rfl (fun _ => rfl) ?_
 unfold x_math_Ldexp at h
 refine zQ ?_
 refine zl (r := f64 (some 0)) (LOp.le (LOp.assign rfl rfl) (ALe.fl (by kernel_rfl) (by kernel_rfl))) ?_
 refine zN ?_
 refine RunC.seq ?_
 refine RunC.cond_false rfl rfl ?_
 refine RunC.skip ?_
 refine RunC.seq ?_
 obtain ⟨r1, hf1, h⟩ := obind_some h
 refine RunC.regionW ?_
 refine zm (r := f64 a0) ?_
 refine zm (r := i64 a1) ?_
 refine ROps.d (r := f64 r1) (fs := []) (Γ' := []) rfl rfl rfl (TOp.callB (CallAs.func ent92 rfl rfl) (Bors.cons (Bor.pure rfl) (Bors.cons (Bor.pure rfl) Bors.nil)) rfl rfl (x_math_ldexp_ok a0 a1 r1 hf1)) rfl ?_
 refine za (r := f64 r1) ?_
 refine zN ?_
 refine RunC.ret ?_
 have hq := Option.some.inj h
 subst q0
 exact bodyQ.pure (.inr rfl) rfl (Res.one rfl (RV.tmp rfl))
noncomputable def i_IsSubnormal (a0 : F) : Option (Bool) :=
 bsel (!feq .f32 a0 (some 0)) (
  olet (fwiden a0) fun (x1 : F) =>
  obind (x_math_Abs x1) fun (r2 : F) =>
  obind (x_math_Ldexp (some 4607182418800017408) (-126)) fun (r3 : F) =>
  some (flt .f64 r2 r3)) (
  some false)
theorem i_IsSubnormal_ok (a0 : F) (q0 : Bool) (h : i_IsSubnormal a0 = some q0) : Ev Tryz.prog 33 [f32 a0] [] (b q0) [] := by
 refine Ev.start Tryz.func33 rfl rfl 0 (τ := [(0, f32 a0)]) rfl (Γ' := []) rfl (n := 25) rfl (g := 0) rfl (fun _ => rfl) ?_
 unfold i_IsSubnormal at h
 refine zQ ?_
 refine za (r := b false) ?_
 refine zN ?_
 refine RunC.seq ?_
 rcases bsel_some h with ⟨hc1, h⟩ | ⟨hc1, h⟩
 ·obtain ⟨x1, hx2, h⟩ := olet_some h
  obtain ⟨r2, hf3, h⟩ := obind_some h
  obtain ⟨r3, hf4, h⟩ := obind_some h
  refine RunC.regionW ?_
  refine zm (r := f32 a0) ?_
  refine zl (r := b true) (LOp.eqb (LOp.fne rfl (OpF.tmp rfl) (OpF.const rfl (by kernel_rfl) (by kernel_rfl))) hc1) ?_
  refine zm (r := b true) ?_
  refine zm (r := f32 a0) ?_
  refine ROps.d (r := f64 x1) (fs := []) (Γ' := []) rfl rfl rfl (TOp.eqr (TOp.widen (src := 28) (dst := 46) ⟨_, pun28⟩ pun46 rfl (OpF.tmp rfl)) (congrArg (f .f64) hx2)) rfl ?_
  refine ROps.d (r := f64 r2) (fs := []) (Γ' := []) rfl rfl rfl (TOp.callB (CallAs.func ent69 rfl rfl) (Bors.cons (Bor.pure rfl) Bors.nil) rfl rfl (x_math_Abs_ok x1 r2 hf3)) rfl ?_
  refine ROps.d (r := f64 r3) (fs := []) (Γ' := []) rfl rfl rfl (TOp.callB (CallAs.func ent70 rfl rfl) (Bors.cons (Bor.le (ALe.fl (by kernel_rfl) (by kernel_rfl)) (Bor.pure rfl)) (Bors.cons (Bor.pure rfl) Bors.nil)) rfl rfl (x_math_Ldexp_ok (some 4607182418800017408) (-126) r3 hf4)) rfl ?_
  refine zl (r := b (flt .f64 r2 r3)) (LOp.flt rfl (OpF.tmp rfl) (OpF.tmp rfl)) ?_
  refine zl (r := b (flt .f64 r2 r3)) (LOp.pick_true rfl rfl rfl) ?_
  refine za (r := b (flt .f64 r2 r3)) ?_
  refine zN ?_
  refine RunC.ret ?_
  have hq := Option.some.inj h
  subst q0
  exact bodyQ.pure (.inr rfl) rfl (Res.one rfl (RV.tmp rfl))
 ·refine RunC.regionW ?_
  refine zm (r := f32 a0) ?_
  refine zl (r := b false) (LOp.eqb (LOp.fne rfl (OpF.tmp rfl) (OpF.const rfl (by kernel_rfl) (by kernel_rfl))) hc1) ?_
  refine zm (r := b false) ?_
  iterate 5 (refine ROps.s rfl rfl rfl ?_)
  refine zl (r := b false) (LOp.pick_false rfl rfl rfl) ?_
  refine za (r := b false) ?_
  refine zN ?_
  refine RunC.ret ?_
  have hq := Option.some.inj h
  subst q0
  exact bodyQ.pure (.inr rfl) rfl (Res.one rfl (RV.tmp rfl))
noncomputable def i_FlushNumber (a0 : F) : Option (F) :=
 obind (i_IsSubnormal a0) fun (r1 : Bool) =>
 bsel r1 (
  olet (fwiden a0) fun (x2 : F) =>
  obind (x_math_Copysign (some 0) x2) fun (r3 : F) =>
  obind (fnarrow r3) fun (y4 : F) =>
  some y4) (
  some a0)
theorem i_FlushNumber_ok (a0 : F) (q0 : F) (h : i_FlushNumber a0 = some q0) : Ev Tryz.prog 28 [f32 a0] [] (f32 q0) [] := by
 refine Ev.start Tryz.func28 rfl rfl 0 (τ := [(0, f32 a0)]) rfl (Γ' := []) rfl (n := 21) rfl (g := 0) rfl (fun _ => rfl) ?_
 unfold i_FlushNumber at h
 refine zQ ?_
 refine zl (r := f32 (some 0)) (LOp.le (LOp.assign rfl rfl) (ALe.fl (by kernel_rfl) (by kernel_rfl))) ?_
 refine zN ?_
 iterate 2 (refine RunC.seq ?_)
 obtain ⟨r1, hf1, h⟩ := obind_some h
 rcases bsel_some h with ⟨hc2, h⟩ | ⟨hc2, h⟩
 ·refine RunC.regionW ?_
  refine zm (r := f32 a0) ?_
  refine ROps.d (r := b true) (fs := []) (Γ' := []) rfl rfl rfl (TOp.eqb (TOp.callB (CallAs.func ent33 rfl rfl) (Bors.cons (Bor.pure rfl) Bors.nil) rfl rfl (i_IsSubnormal_ok a0 r1 hf1)) hc2) rfl ?_
  refine zN ?_
  refine RunC.cond_true rfl rfl ?_
  refine RunC.seq ?_
  obtain ⟨x2, hx3, h⟩ := olet_some h
  obtain ⟨r3, hf4, h⟩ := obind_some h
  obtain ⟨y4, hy5, h⟩ := obind_some h
  refine RunC.regionW ?_
  refine zm (r := f32 a0) ?_
  refine ROps.d (r := f64 x2) (fs := []) (Γ' := []) rfl rfl rfl (TOp.eqr (TOp.widen (src := 28) (dst := 46) ⟨_, pun28⟩ pun46 rfl (OpF.tmp rfl)) (congrArg (f .f64) hx3)) rfl ?_
  refine ROps.d (r := f64 r3) (fs := []) (Γ' := []) rfl rfl rfl (TOp.callB (CallAs.func ent64 rfl rfl) (Bors.cons (Bor.le (ALe.fl (by kernel_rfl) (by kernel_rfl)) (Bor.pure rfl)) (Bors.cons (Bor.pure rfl) Bors.nil)) rfl rfl (x_math_Copysign_ok (some 0) x2 r3 hf4)) rfl ?_
  refine ROps.d (r := f32 y4) (fs := []) (Γ' := []) rfl rfl rfl (TOp.narrow (src := 46) (dst := 28) ⟨_, pun46⟩ pun28 rfl (OpF.tmp rfl) hy5) rfl ?_
  refine za (r := f32 y4) ?_
  refine zN ?_
  refine RunC.ret ?_
  have hq := Option.some.inj h
  subst q0
  exact bodyQ.pure (.inr rfl) rfl (Res.one rfl (RV.tmp rfl))
 ·refine RunC.regionW ?_
  refine zm (r := f32 a0) ?_
  refine ROps.d (r := b false) (fs := []) (Γ' := []) rfl rfl rfl (TOp.eqb (TOp.callB (CallAs.func ent33 rfl rfl) (Bors.cons (Bor.pure rfl) Bors.nil) rfl rfl (i_IsSubnormal_ok a0 r1 hf1)) hc2) rfl ?_
  refine zN ?_
  refine RunC.cond_false rfl rfl ?_
  refine RunC.skip ?_
  refine zQ ?_
  refine zm (r := f32 a0) ?_
  refine za (r := f32 a0) ?_
  refine zN ?_
  refine RunC.ret ?_
  have hq := Option.some.inj h
  subst q0
  exact bodyQ.pure (.inr rfl) rfl (Res.one rfl (RV.tmp rfl))
noncomputable def w_b10At (a0 : List Int) (a1 : Int) (a2 : Int) : Option (Int) :=
 bsel (decide (a2 ≤ 1)) (
  some 0) (
  bsel (decide (a1 < (a0.length : Int))) (
   obind (at? a0 a1) fun (e1 : Int) =>
   olet (IntKind.i64.wrap e1) fun (x2 : Int) =>
   need (!decide (a2 = 0)) <|
   olet (x2.tmod a2) fun (x3 : Int) =>
   some x3) (
   olet (IntKind.i64.wrap (a1 * 37)) fun (x4 : Int) =>
   olet (IntKind.i64.wrap (x4 + 11)) fun (x5 : Int) =>
   need (!decide (a2 = 0)) <|
   olet (x5.tmod a2) fun (x6 : Int) =>
   some x6))
theorem w_b10At_ok (a0 : List Int) (a1 : Int) (a2 : Int) (q0 : Int) (h : w_b10At a0 a1 a2 = some q0) : Ev Tryz.prog 16 [sl a0.length (a0.map (ik .u8)), i64 a1, i64 a2] [] (i64 q0) [] := by
 refine Ev.start Tryz.func16 rfl rfl 0 (τ := [(0, sl a0.length (a0.map (ik .u8))), (1, i64 a1), (2, i64 a2)]) rfl (Γ' := []) rfl (n := 51) rfl (g := 0) rfl (fun _ => rfl) ?_
 unfold w_b10At at h
 refine zQ ?_
 refine za (r := i64 0) ?_
 refine zN ?_
 iterate 2 (refine RunC.seq ?_)
 rcases bsel_some h with ⟨hc1, h⟩ | ⟨hc1, h⟩
 ·refine RunC.regionW ?_
  refine zm (r := i64 a2) ?_
  refine zl (r := b true) (LOp.eqb (LOp.leq rfl rfl rfl) hc1) ?_
  refine zN ?_
  refine RunC.cond_true rfl rfl ?_
  refine zQ ?_
  refine za (r := i64 0) ?_
  refine zN ?_
  refine RunC.ret ?_
  have hq := Option.some.inj h
  subst q0
  exact bodyQ.pure (.inr rfl) rfl (Res.one rfl (RV.tmp rfl))
 ·refine RunC.regionW ?_
  refine zm (r := i64 a2) ?_
  refine zl (r := b false) (LOp.eqb (LOp.leq rfl rfl rfl) hc1) ?_
  refine zN ?_
  refine RunC.cond_false rfl rfl ?_
  refine RunC.skip ?_
  iterate 2 (refine RunC.seq ?_)
  rcases bsel_some h with ⟨hc2, h⟩ | ⟨hc2, h⟩
  ·refine RunC.regionW ?_
   refine zm (r := i64 a1) ?_
   refine zm (r := sl a0.length (a0.map (ik .u8))) ?_
   refine zl (r := i64 (a0.length : Int)) (LOp.len_sl und22 rfl rfl) ?_
   refine zl (r := b true) (LOp.eqb (LOp.lss rfl rfl rfl) hc2) ?_
   refine zN ?_
   refine RunC.cond_true rfl rfl ?_
   refine RunC.seq ?_
   obtain ⟨e1, he3, h⟩ := obind_some h
   obtain ⟨x2, hx4, h⟩ := olet_some h
   obtain ⟨hz5, h⟩ := need_some h
   obtain ⟨x3, hx6, h⟩ := olet_some h
   refine RunC.regionW ?_
   refine zm (r := sl a0.length (a0.map (ik .u8))) ?_
   refine zm (r := i64 a1) ?_
   refine zl (r := ptr [ik .u8 e1]) (LOp.le (LOp.ix (f := (ik .u8)) und22 siz5 rfl rfl rfl rfl he3) ALe.ptr) ?_
   refine zl (r := ik .u8 e1) (LOp.load1 agg5 rfl rfl) ?_
   refine zl (r := i64 x2) (LOp.eqr (LOp.i2i (src := 5) (dst := 2) ⟨_, pun5⟩ pun2 rfl rfl) (congrArg (ik .i64) hx4)) ?_
   refine zm (r := i64 a2) ?_
   refine zl (r := i64 x3) (LOp.eqr (LOp.rem rfl rfl rfl (nz hz5)) (congrArg (ik .i64) hx6)) ?_
   refine za (r := i64 x3) ?_
   refine zN ?_
   refine RunC.ret ?_
   have hq := Option.some.inj h
   subst q0
   exact bodyQ.pure (.inr rfl) rfl (Res.one rfl (RV.tmp rfl))
  ·refine RunC.regionW ?_
   refine zm (r := i64 a1) ?_
   refine zm (r := sl a0.length (a0.map (ik .u8))) ?_
   refine zl (r := i64 (a0.length : Int)) (LOp.len_sl und22 rfl rfl) ?_
   refine zl (r := b false) (LOp.eqb (LOp.lss rfl rfl rfl) hc2) ?_
   refine zN ?_
   refine RunC.cond_false rfl rfl ?_
   refine RunC.skip ?_
   refine RunC.seq ?_
   obtain ⟨x4, hx7, h⟩ := olet_some h
   obtain ⟨x5, hx8, h⟩ := olet_some h
   obtain ⟨hz9, h⟩ := need_some h
   obtain ⟨x6, hx10, h⟩ := olet_some h
   refine RunC.regionW ?_
   refine zm (r := i64 a1) ?_
   refine zl (r := i64 x4) (LOp.eqr (LOp.mul rfl rfl rfl) (congrArg (ik .i64) hx7)) ?_
   refine zl (r := i64 x5) (LOp.eqr (LOp.add rfl rfl rfl) (congrArg (ik .i64) hx8)) ?_
   refine zm (r := i64 a2) ?_
   refine zl (r := i64 x6) (LOp.eqr (LOp.rem rfl rfl rfl (nz hz9)) (congrArg (ik .i64) hx10)) ?_
   refine za (r := i64 x6) ?_
   refine zN ?_
   refine RunC.ret ?_
   have hq := Option.some.inj h
   subst q0
   exact bodyQ.pure (.inr rfl) rfl (Res.one rfl (RV.tmp rfl))
noncomputable def s_l01DrawFloats_0p0_C0_b1 (a1 : List Int) (L6 : List F) (v7 : Int) (v8 : Int) (v9 : Int) : Option (LR ((List F) × Int × Int × Int) ((List F) × Int × Int) (Int × Int × (List F))) :=
 bsel (decide (0 < v9)) (
  obind3 (s_l01DrawFloat_0p0_C0 a1 v7 v8) fun (r10 : F) (r11 : Int) (r12 : Int) =>
  need (apok 4 L6.length 1) <|
  olet (IntKind.i64.wrap (v9 - 1)) fun (x13 : Int) =>
  some (LR.next ((L6 ++ ([r10] : List F)), r11, r12, x13))) (
  some (LR.out (L6, v7, v8)))
noncomputable def s_l01DrawFloats_0p0_C0_s1 (a1 : List Int) : ((List F) × Int × Int × Int) → Option (LR ((List F) × Int × Int × Int) ((List F) × Int × Int) (Int × Int × (List F))) := fun s => s_l01DrawFloats_0p0_C0_b1 a1 s.1 s.2.1 s.2.2.1 s.2.2.2
noncomputable def s_l01DrawFloats_0p0_C0_k1 (L16 : List F) (v17 : Int) (v18 : Int) : Option (Int × Int × (List F)) :=
 some (v17, v18, L16)
noncomputable def s_l01DrawFloats_0p0_C0_b2 (a1 : List Int) (L21 : List F) (v22 : Int) (v23 : Int) (v24 : Int) : Option (LR ((List F) × Int × Int × Int) ((List F) × Int × Int) (Int × Int × (List F))) :=
 bsel (decide (0 < v24)) (
  obind3 (s_l01DrawPlain_0p0_C0 a1 v22 v23) fun (r25 : F) (r26 : Int) (r27 : Int) =>
  need (apok 4 L21.length 1) <|
  olet (IntKind.i64.wrap (v24 - 1)) fun (x28 : Int) =>
  some (LR.next ((L21 ++ ([r25] : List F)), r26, r27, x28))) (
  some (LR.out (L21, v22, v23)))
noncomputable def s_l01DrawFloats_0p0_C0_s2 (a1 : List Int) : ((List F) × Int × Int × Int) → Option (LR ((List F) × Int × Int × Int) ((List F) × Int × Int) (Int × Int × (List F))) := fun s => s_l01DrawFloats_0p0_C0_b2 a1 s.1 s.2.1 s.2.2.1 s.2.2.2
noncomputable def s_l01DrawFloats_0p0_C0_k2 (L31 : List F) (v32 : Int) (v33 : Int) : Option (Int × Int × (List F)) :=
 some (v32, v33, L31)
noncomputable def s_l01DrawFloats_0p0_C0 (a0 : Int) (a1 : List Int) (a2 : Int) (a3 : Int) : Option (Int × Int × (List F)) :=
 obind3 (s_l00Src_one_0p0_C0 4 a1 a2 a3) fun (r1 : Bool) (r2 : Int) (r3 : Int) =>
 bsel r1 (
  obind (loopM (s_l01DrawFloats_0p0_C0_s1 a1) (([] : List F), r2, r3, a0)) fun z => osum z (fun e => s_l01DrawFloats_0p0_C0_k1 e.1 e.2.1 e.2.2) (fun r => some r)) (
  obind (loopM (s_l01DrawFloats_0p0_C0_s2 a1) (([] : List F), r2, r3, a0)) fun z => osum z (fun e => s_l01DrawFloats_0p0_C0_k2 e.1 e.2.1 e.2.2) (fun r => some r))
theorem s_l01DrawFloats_0p0_C0_ok (a0 : Int) (a1 : List Int) (a2 : Int) (a3 : Int) (q0 : Int) (q1 : Int) (q2 : List F) (h : s_l01DrawFloats_0p0_C0 a0 a1 a2 a3 = some (q0, q1, q2)) : Ev Tryz.prog 65 [optr 0 0 0, i64 a0] [⟨0, some [sl a1.length (a1.map (ik .u8)), i64 a2, ik .u64 a3]⟩] (oref 1 0 0 q2.length) [⟨0, some [sl a1.length (a1.map (ik .u8)), i64 q0, ik .u64 q1]⟩, ⟨0, some (q2.map f32)⟩] := by
 refine Ev.start Tryz.func65 rfl rfl 2 (τ := [(0, optr 0 0 0), (1, i64 a0)]) rfl (Γ' := [⟨0, some [sl a1.length (a1.map (ik .u8)), i64 a2, ik .u64 a3]⟩, ⟨0, none⟩, ⟨0, none⟩]) rfl (n := 52) rfl (g := 1) rfl (by decide) ?_
 unfold s_l01DrawFloats_0p0_C0 at h
 refine zQ ?_
 refine za (r := nilsl) ?_
 refine zN ?_
 refine zQ ?_
 refine ROps.d (r := oref 1 1 0 0) (fs := [(1, (([] : List F).map f32))]) (Γ' := [⟨0, some [sl a1.length (a1.map (ik .u8)), i64 a2, ik .u64 a3]⟩, ⟨1, some (([] : List F).map f32)⟩, ⟨0, none⟩]) rfl rfl rfl (TOp.buildSlice_o (g := ⟨0, none⟩) (za := f32 (some 0)) (qs := []) 1 rfl und52 siz28 zer28 rfl zel28 rfl rfl trivial rfl) rfl ?_
 refine za (r := oref 1 1 0 0) ?_
 refine zN ?_
 refine RunC.seq ?_
 obtain ⟨r1, r2, r3, hf1, h⟩ := obind3_some h
 rcases bsel_some h with ⟨hc2, h⟩ | ⟨hc2, h⟩
 ·refine RunC.regionW ?_
  refine zm (r := optr 0 0 0) ?_
  refine ROps.callO (A := [optr 0 0 0, i64 4]) (args := [optr 0 0 0, i64 4]) (Γc := [⟨0, some [sl a1.length (a1.map (ik .u8)), i64 a2, ik .u64 a3]⟩]) (Γc' := [⟨0, some [sl a1.length (a1.map (ik .u8)), i64 r2, ik .u64 r3]⟩]) (r' := b r1) (Γ' := [⟨0, some [sl a1.length (a1.map (ik .u8)), i64 r2, ik .u64 r3]⟩, ⟨1, some (([] : List F).map f32)⟩, ⟨0, none⟩]) [(0, 0)] [] rfl (CallAs.func ent52 rfl rfl) rfl rfl (SelOk.of (show List.Nodup [0] from by decide) (SelL.cells0 rfl (by simp [ren, rens, sigma, rens_f32, rens_f64, rens_i64, rens_ik, rens_str, rens_cp]) (lts_cons (lt_slk (fun _ => rfl)) (lts_cons rfl (lts_cons rfl lts_nil))) trivial)) (live_of ⟨⟨_, _, rfl⟩, trivial⟩) (by simp [ren, rens, sigma, rens_f32, rens_f64, rens_i64, rens_ik, rens_str, rens_cp]) rfl (s_l00Src_one_0p0_C0_ok 4 a1 a2 a3 r1 r2 r3 hf1) rfl (news_of trivial) (show List.Nodup [0] from by decide) (by simp [ren, rens, sigma]) (by simp [backOb, sigma, ren, rens, rens_f32, rens_f64, rens_i64, rens_ik, rens_str, rens_cp]) ?_
  refine zl (r := b true) (LOp.eqb (LOp.assign rfl rfl) hc2) ?_
  refine zN ?_
  refine RunC.seq ?_
  obtain ⟨z3, hz_3, h⟩ := obind_some h
  refine RunC.cutN (fun τ Γ => ∃ (L16 : List F) (v17 : Int) (v18 : Int) (u14 : Nat) (u15 : Nat), WeakLe τ [(5, oref 1 u14 0 L16.length)] ∧ DeadLe Γ [⟨0, some [sl a1.length (a1.map (ik .u8)), i64 v17, ik .u64 v18]⟩, ⟨u14, some (L16.map f32)⟩, ⟨u15, none⟩] ∧ z3 = .inl (L16, v17, v18)) ?_ ?_
  ·refine RunC.block (RunC.loop (RunL.loopM (x := z3) (s_l01DrawFloats_0p0_C0_s1 a1) (fun (s : (List F) × Int × Int × Int) τ Γ => ∃ (u4 : Nat) (u5 : Nat), WeakLe τ [(0, optr 0 0 0), (1, i64 s.2.2.2), (5, oref 1 u4 0 s.1.length), (6, b true)] ∧ DeadLe Γ [⟨0, some [sl a1.length (a1.map (ik .u8)), i64 s.2.1, ik .u64 s.2.2.1]⟩, ⟨u4, some (s.1.map f32)⟩, ⟨u5, none⟩]) ?_ _ _ _ hz_3 ⟨1, 0, ⟨aR, aR, aR, aR, trivial⟩, ⟨⟨rfl, .inr rfl⟩, ⟨rfl, .inr rfl⟩, ⟨rfl, .inl rfl⟩, trivial⟩⟩))
   rintro ⟨L6, v7, v8, v9⟩ τ3 Γ3 y3_ ⟨u4, u5, hw3, hd3⟩ h3_ ho3 hr3
   refine RunC.wl (τ' := [(0, optr 0 0 0), (1, i64 v9), (5, oref 1 u4 0 L6.length), (6, b true)]) (Γ' := [⟨0, some [sl a1.length (a1.map (ik .u8)), i64 v7, ik .u64 v8]⟩, ⟨u4, some (L6.map f32)⟩, ⟨u5, none⟩]) hw3 hd3 ?_
   replace h3_ : s_l01DrawFloats_0p0_C0_b1 a1 L6 v7 v8 v9 = some y3_ := h3_
   unfold s_l01DrawFloats_0p0_C0_b1 at h3_
   iterate 2 (refine RunC.seq ?_)
   rcases bsel_some h3_ with ⟨hc3, h3_⟩ | ⟨hc3, h3_⟩
   ·refine RunC.regionW ?_
    refine zm (r := i64 v9) ?_
    refine zl (r := b true) (LOp.eqb (LOp.gtr rfl rfl rfl) hc3) ?_
    refine zN ?_
    refine RunC.cond_true rfl rfl ?_
    refine RunC.skip ?_
    refine RunC.seq ?_
    refine RunC.block ?_
    refine zQ ?_
    refine zm (r := b true) ?_
    refine zN ?_
    refine RunC.cond_true rfl rfl ?_
    obtain ⟨r10, r11, r12, hf4, h3_⟩ := obind3_some h3_
    obtain ⟨hm5, h3_⟩ := need_some h3_
    refine RunC.regionW ?_
    refine zm (r := oref 1 u4 0 L6.length) ?_
    refine zm (r := optr 0 0 0) ?_
    refine ROps.callO (A := [optr 0 0 0]) (args := [optr 0 0 0]) (Γc := [⟨0, some [sl a1.length (a1.map (ik .u8)), i64 v7, ik .u64 v8]⟩]) (Γc' := [⟨0, some [sl a1.length (a1.map (ik .u8)), i64 r11, ik .u64 r12]⟩]) (r' := f32 r10) (Γ' := [⟨0, some [sl a1.length (a1.map (ik .u8)), i64 r11, ik .u64 r12]⟩, ⟨u4, some (L6.map f32)⟩, ⟨u5, none⟩]) [(0, 0)] [] rfl (CallAs.func ent54 rfl rfl) rfl rfl (SelOk.of (show List.Nodup [0] from by decide) (SelL.cells0 rfl (by simp [ren, rens, sigma, rens_f32, rens_f64, rens_i64, rens_ik, rens_str, rens_cp]) (lts_cons (lt_slk (fun _ => rfl)) (lts_cons rfl (lts_cons rfl lts_nil))) trivial)) (live_of ⟨⟨_, _, rfl⟩, trivial⟩) (by simp [ren, rens, sigma, rens_f32, rens_f64, rens_i64, rens_ik, rens_str, rens_cp]) rfl (s_l01DrawFloat_0p0_C0_ok a1 v7 v8 r10 r11 r12 hf4) rfl (news_of trivial) (show List.Nodup [0] from by decide) (by simp [ren, rens, sigma]) (by simp [backOb, sigma, ren, rens, rens_f32, rens_f64, rens_i64, rens_ik, rens_str, rens_cp]) ?_
    refine ROps.d (r := oref 2 (u5 + 1) 0 1) (fs := [(2, (([r10] : List F).map f32))]) (Γ' := [⟨0, some [sl a1.length (a1.map (ik .u8)), i64 r11, ik .u64 r12]⟩, ⟨u4, some (L6.map f32)⟩, ⟨(u5 + 1), some (([r10] : List F).map f32)⟩]) rfl rfl rfl (TOp.buildSlice_o (g := ⟨u5, none⟩) (za := f32 (some 0)) (qs := [(0, [f32 r10])]) 2 rfl und52 siz28 zer28 rfl zel28 rfl rfl ⟨rfl, ⟨_, ALe.refl _, rfl⟩, trivial⟩ rfl) rfl ?_
    refine ROps.app (f := f32) (xs := L6) (ys := ([r10] : List F)) (Γ' := [⟨0, some [sl a1.length (a1.map (ik .u8)), i64 r11, ik .u64 r12]⟩, ⟨(u4 + 1), some ((L6 ++ ([r10] : List F)).map f32)⟩, ⟨(u5 + 1), some (([r10] : List F).map f32)⟩]) rfl pun52 inf28 rfl rfl rfl rfl rfl rfl rfl rfl rfl (by simp) (ReadAs.own rfl (by simp)) (ones_map (fun _ => rfl)) (ap_by hm5) (ap_mx hm5) rfl ?_
    refine za (r := oref 1 (u4 + 1) 0 (L6.length + 1)) ?_
    refine zN ?_
    refine RunC.wl (τ' := [(0, optr 0 0 0), (1, i64 v9), (5, oref 1 (u4 + 1) 0 (L6.length + 1)), (6, b true)]) (Γ' := [⟨0, some [sl a1.length (a1.map (ik .u8)), i64 r11, ik .u64 r12]⟩, ⟨(u4 + 1), some ((L6 ++ ([r10] : List F)).map f32)⟩, ⟨(u5 + 1), none⟩]) ⟨aR, aR, aR, aR, trivial⟩ ⟨⟨rfl, .inr rfl⟩, ⟨rfl, .inr rfl⟩, ⟨rfl, .inl rfl⟩, trivial⟩ ?_
    obtain ⟨x13, hx6, h3_⟩ := olet_some h3_
    refine RunC.regionW ?_
    refine zm (r := i64 v9) ?_
    refine zl (r := i64 x13) (LOp.eqr (LOp.sub rfl rfl rfl) (congrArg (ik .i64) hx6)) ?_
    refine za (r := i64 x13) ?_
    refine zN ?_
    cases Option.some.inj h3_
    exact ⟨_, rfl, (u4 + 1), (u5 + 1), ⟨aR, aR, (ALe.eq (by rw [(app_len rfl rfl)] <;> rfl)), aR, trivial⟩, ⟨⟨rfl, .inr rfl⟩, ⟨rfl, .inr rfl⟩, ⟨rfl, .inl rfl⟩, trivial⟩⟩
   ·refine RunC.regionW ?_
    refine zm (r := i64 v9) ?_
    refine zl (r := b false) (LOp.eqb (LOp.gtr rfl rfl rfl) hc3) ?_
    refine zN ?_
    refine RunC.cond_false rfl rfl ?_
    refine RunC.exit ?_
    cases Option.some.inj h3_
    have hx := ho3 _ rfl
    exact ⟨L6, v7, v8, u4, u5, ⟨aR, trivial⟩, ⟨⟨rfl, .inr rfl⟩, ⟨rfl, .inr rfl⟩, ⟨rfl, .inl rfl⟩, trivial⟩, hx⟩
  ·rintro τ4 Γ4 ⟨L16, v17, v18, u14, u15, hw4, hd4, rfl⟩
   refine RunC.wl hw4 hd4 ?_
   replace h : s_l01DrawFloats_0p0_C0_k1 L16 v17 v18 = some (q0, q1, q2) := h
   unfold s_l01DrawFloats_0p0_C0_k1 at h
   refine zQ ?_
   refine zm (r := oref 1 u14 0 L16.length) ?_
   refine za (r := oref 1 u14 0 L16.length) ?_
   refine zN ?_
   refine RunC.ret ?_
   have hq := Option.some.inj h
   obtain ⟨hq0, hq⟩ := Prod.mk.inj hq
   obtain ⟨hq1, hq⟩ := Prod.mk.inj hq
   subst q0
   subst q1
   subst q2
   exact bodyQ.mk (r' := oref 1 u14 0 L16.length) [(0, 0), (1, u14)] (.inr rfl) rfl (show List.Nodup [0, 1] from by decide) (by simp [ren, rens, sigma]) rfl (Res.one rfl (RV.tmp rfl)) (SelL.cells rfl (by first | rfl | simp [ren, rens, sigma, rens_f32, rens_f64, rens_i64, rens_ik, rens_str, rens_cp]) (lts_cons (lt_slk (fun _ => rfl)) (lts_cons rfl (lts_cons rfl lts_nil))) (SelL.arr0 (f := f32) (fun _ => rfl) rfl trivial))
 ·refine RunC.regionW ?_
  refine zm (r := optr 0 0 0) ?_
  refine ROps.callO (A := [optr 0 0 0, i64 4]) (args := [optr 0 0 0, i64 4]) (Γc := [⟨0, some [sl a1.length (a1.map (ik .u8)), i64 a2, ik .u64 a3]⟩]) (Γc' := [⟨0, some [sl a1.length (a1.map (ik .u8)), i64 r2, ik .u64 r3]⟩]) (r' := b r1) (Γ' := [⟨0, some [sl a1.length (a1.map (ik .u8)), i64 r2, ik .u64 r3]⟩, ⟨1, some (([] : List F).map f32)⟩, ⟨0, none⟩]) [(0, 0)] [] rfl (CallAs.func ent52 rfl rfl) rfl rfl (SelOk.of (show List.Nodup [0] from by decide) (SelL.cells0 rfl (by simp [ren, rens, sigma, rens_f32, rens_f64, rens_i64, rens_ik, rens_str, rens_cp]) (lts_cons (lt_slk (fun _ => rfl)) (lts_cons rfl (lts_cons rfl lts_nil))) trivial)) (live_of ⟨⟨_, _, rfl⟩, trivial⟩) (by simp [ren, rens, sigma, rens_f32, rens_f64, rens_i64, rens_ik, rens_str, rens_cp]) rfl (s_l00Src_one_0p0_C0_ok 4 a1 a2 a3 r1 r2 r3 hf1) rfl (news_of trivial) (show List.Nodup [0] from by decide) (by simp [ren, rens, sigma]) (by simp [backOb, sigma, ren, rens, rens_f32, rens_f64, rens_i64, rens_ik, rens_str, rens_cp]) ?_
  refine zl (r := b false) (LOp.eqb (LOp.assign rfl rfl) hc2) ?_
  refine zN ?_
  refine RunC.seq ?_
  obtain ⟨z5, hz_5, h⟩ := obind_some h
  refine RunC.cutN (fun τ Γ => ∃ (L31 : List F) (v32 : Int) (v33 : Int) (u29 : Nat) (u30 : Nat), WeakLe τ [(5, oref 1 u29 0 L31.length)] ∧ DeadLe Γ [⟨0, some [sl a1.length (a1.map (ik .u8)), i64 v32, ik .u64 v33]⟩, ⟨u29, some (L31.map f32)⟩, ⟨u30, none⟩] ∧ z5 = .inl (L31, v32, v33)) ?_ ?_
  ·refine RunC.block (RunC.loop (RunL.loopM (x := z5) (s_l01DrawFloats_0p0_C0_s2 a1) (fun (s : (List F) × Int × Int × Int) τ Γ => ∃ (u19 : Nat) (u20 : Nat), WeakLe τ [(0, optr 0 0 0), (1, i64 s.2.2.2), (5, oref 1 u19 0 s.1.length), (6, b false)] ∧ DeadLe Γ [⟨0, some [sl a1.length (a1.map (ik .u8)), i64 s.2.1, ik .u64 s.2.2.1]⟩, ⟨u19, some (s.1.map f32)⟩, ⟨u20, none⟩]) ?_ _ _ _ hz_5 ⟨1, 0, ⟨aR, aR, aR, aR, trivial⟩, ⟨⟨rfl, .inr rfl⟩, ⟨rfl, .inr rfl⟩, ⟨rfl, .inl rfl⟩, trivial⟩⟩))
   rintro ⟨L21, v22, v23, v24⟩ τ5 Γ5 y5_ ⟨u19, u20, hw5, hd5⟩ h5_ ho5 hr5
   refine RunC.wl (τ' := [(0, optr 0 0 0), (1, i64 v24), (5, oref 1 u19 0 L21.length), (6, b false)]) (Γ' := [⟨0, some [sl a1.length (a1.map (ik .u8)), i64 v22, ik .u64 v23]⟩, ⟨u19, some (L21.map f32)⟩, ⟨u20, none⟩]) hw5 hd5 ?_
   replace h5_ : s_l01DrawFloats_0p0_C0_b2 a1 L21 v22 v23 v24 = some y5_ := h5_
   unfold s_l01DrawFloats_0p0_C0_b2 at h5_
   iterate 2 (refine RunC.seq ?_)
   rcases bsel_some h5_ with ⟨hc7, h5_⟩ | ⟨hc7, h5_⟩
   ·refine RunC.regionW ?_
    refine zm (r := i64 v24) ?_
    refine zl (r := b true) (LOp.eqb (LOp.gtr rfl rfl rfl) hc7) ?_
    refine zN ?_
    refine RunC.cond_true rfl rfl ?_
    refine RunC.skip ?_
    refine RunC.seq ?_
    refine RunC.block ?_
    refine zQ ?_
    refine zm (r := b false) ?_
    refine zN ?_
    refine RunC.cond_false rfl rfl ?_
    obtain ⟨r25, r26, r27, hf8, h5_⟩ := obind3_some h5_
    obtain ⟨hm9, h5_⟩ := need_some h5_
    refine RunC.regionW ?_
    refine zm (r := oref 1 u19 0 L21.length) ?_
    refine zm (r := optr 0 0 0) ?_
    refine ROps.callO (A := [optr 0 0 0]) (args := [optr 0 0 0]) (Γc := [⟨0, some [sl a1.length (a1.map (ik .u8)), i64 v22, ik .u64 v23]⟩]) (Γc' := [⟨0, some [sl a1.length (a1.map (ik .u8)), i64 r26, ik .u64 r27]⟩]) (r' := f32 r25) (Γ' := [⟨0, some [sl a1.length (a1.map (ik .u8)), i64 r26, ik .u64 r27]⟩, ⟨u19, some (L21.map f32)⟩, ⟨u20, none⟩]) [(0, 0)] [] rfl (CallAs.func ent84 rfl rfl) rfl rfl (SelOk.of (show List.Nodup [0] from by decide) (SelL.cells0 rfl (by simp [ren, rens, sigma, rens_f32, rens_f64, rens_i64, rens_ik, rens_str, rens_cp]) (lts_cons (lt_slk (fun _ => rfl)) (lts_cons rfl (lts_cons rfl lts_nil))) trivial)) (live_of ⟨⟨_, _, rfl⟩, trivial⟩) (by simp [ren, rens, sigma, rens_f32, rens_f64, rens_i64, rens_ik, rens_str, rens_cp]) rfl (s_l01DrawPlain_0p0_C0_ok a1 v22 v23 r25 r26 r27 hf8) rfl (news_of trivial) (show List.Nodup [0] from by decide) (by simp [ren, rens, sigma]) (by simp [backOb, sigma, ren, rens, rens_f32, rens_f64, rens_i64, rens_ik, rens_str, rens_cp]) ?_
    refine ROps.d (r := oref 2 (u20 + 1) 0 1) (fs := [(2, (([r25] : List F).map f32))]) (Γ' := [⟨0, some [sl a1.length (a1.map (ik .u8)), i64 r26, ik .u64 r27]⟩, ⟨u19, some (L21.map f32)⟩, ⟨(u20 + 1), some (([r25] : List F).map f32)⟩]) rfl rfl rfl (TOp.buildSlice_o (g := ⟨u20, none⟩) (za := f32 (some 0)) (qs := [(0, [f32 r25])]) 2 rfl und52 siz28 zer28 rfl zel28 rfl rfl ⟨rfl, ⟨_, ALe.refl _, rfl⟩, trivial⟩ rfl) rfl ?_
    refine ROps.app (f := f32) (xs := L21) (ys := ([r25] : List F)) (Γ' := [⟨0, some [sl a1.length (a1.map (ik .u8)), i64 r26, ik .u64 r27]⟩, ⟨(u19 + 1), some ((L21 ++ ([r25] : List F)).map f32)⟩, ⟨(u20 + 1), some (([r25] : List F).map f32)⟩]) rfl pun52 inf28 rfl rfl rfl rfl rfl rfl rfl rfl rfl (by simp) (ReadAs.own rfl (by simp)) (ones_map (fun _ => rfl)) (ap_by hm9) (ap_mx hm9) rfl ?_
    refine za (r := oref 1 (u19 + 1) 0 (L21.length + 1)) ?_
    refine zN ?_
    refine RunC.wl (τ' := [(0, optr 0 0 0), (1, i64 v24), (5, oref 1 (u19 + 1) 0 (L21.length + 1)), (6, b false)]) (Γ' := [⟨0, some [sl a1.length (a1.map (ik .u8)), i64 r26, ik .u64 r27]⟩, ⟨(u19 + 1), some ((L21 ++ ([r25] : List F)).map f32)⟩, ⟨(u20 + 1), none⟩]) ⟨aR, aR, aR, aR, trivial⟩ ⟨⟨rfl, .inr rfl⟩, ⟨rfl, .inr rfl⟩, ⟨rfl, .inl rfl⟩, trivial⟩ ?_
    obtain ⟨x28, hx10, h5_⟩ := olet_some h5_
    refine RunC.regionW ?_
    refine zm (r := i64 v24) ?_
    refine zl (r := i64 x28) (LOp.eqr (LOp.sub rfl rfl rfl) (congrArg (ik .i64) hx10)) ?_
    refine za (r := i64 x28) ?_
    refine zN ?_
    cases Option.some.inj h5_
    exact ⟨_, rfl, (u19 + 1), (u20 + 1), ⟨aR, aR, (ALe.eq (by rw [(app_len rfl rfl)] <;> rfl)), aR, trivial⟩, ⟨⟨rfl, .inr rfl⟩, ⟨rfl, .inr rfl⟩, ⟨rfl, .inl rfl⟩, trivial⟩⟩
   ·refine RunC.regionW ?_
    refine zm (r := i64 v24) ?_
    refine zl (r := b false) (LOp.eqb (LOp.gtr rfl rfl rfl) hc7) ?_
    refine zN ?_
    refine RunC.cond_false rfl rfl ?_
    refine RunC.exit ?_
    cases Option.some.inj h5_
    have hx := ho5 _ rfl
    exact ⟨L21, v22, v23, u19, u20, ⟨aR, trivial⟩, ⟨⟨rfl, .inr rfl⟩, ⟨rfl, .inr rfl⟩, ⟨rfl, .inl rfl⟩, trivial⟩, hx⟩
  ·rintro τ6 Γ6 ⟨L31, v32, v33, u29, u30, hw6, hd6, rfl⟩
   refine RunC.wl hw6 hd6 ?_
   replace h : s_l01DrawFloats_0p0_C0_k2 L31 v32 v33 = some (q0, q1, q2) := h
   unfold s_l01DrawFloats_0p0_C0_k2 at h
   refine zQ ?_
   refine zm (r := oref 1 u29 0 L31.length) ?_
   refine za (r := oref 1 u29 0 L31.length) ?_
   refine zN ?_
   refine RunC.ret ?_
   have hq := Option.some.inj h
   obtain ⟨hq0, hq⟩ := Prod.mk.inj hq
   obtain ⟨hq1, hq⟩ := Prod.mk.inj hq
   subst q0
   subst q1
   subst q2
   exact bodyQ.mk (r' := oref 1 u29 0 L31.length) [(0, 0), (1, u29)] (.inr rfl) rfl (show List.Nodup [0, 1] from by decide) (by simp [ren, rens, sigma]) rfl (Res.one rfl (RV.tmp rfl)) (SelL.cells rfl (by first | rfl | simp [ren, rens, sigma, rens_f32, rens_f64, rens_i64, rens_ik, rens_str, rens_cp]) (lts_cons (lt_slk (fun _ => rfl)) (lts_cons rfl (lts_cons rfl lts_nil))) (SelL.arr0 (f := f32) (fun _ => rfl) rfl trivial))
noncomputable def s_B10Numbers (a0 : List Int) (a1 : Int) : Option ((List F)) :=
 obind3 (s_l00From a0) fun (r1 : List Int) (r2 : Int) (r3 : Int) =>
 obind3 (s_l01DrawFloats_0p0_C0 a1 r1 r2 r3) fun (r4 : Int) (r5 : Int) (r6 : List F) =>
 some r6
theorem s_B10Numbers_ok (a0 : List Int) (a1 : Int) (q0 : List F) (h : s_B10Numbers a0 a1 = some q0) : Ev Tryz.prog 29 [sl a0.length (a0.map (ik .u8)), i64 a1] [] (oref 0 0 0 q0.length) [⟨0, some (q0.map f32)⟩] := by
 refine Ev.start Tryz.func29 rfl rfl 2 (τ := [(0, sl a0.length (a0.map (ik .u8))), (1, i64 a1)]) rfl (Γ' := [⟨0, none⟩, ⟨0, none⟩]) rfl (n := 23) rfl (g := 0) rfl (fun _ => rfl) ?_
 unfold s_B10Numbers at h
 refine zQ ?_
 refine za (r := nilsl) ?_
 refine zN ?_
 refine RunC.seq ?_
 obtain ⟨r1, r2, r3, hf1, h⟩ := obind3_some h
 refine RunC.regionW ?_
 refine zm (r := sl a0.length (a0.map (ik .u8))) ?_
 refine ROps.d (r := optr 0 1 0) (fs := [(0, [sl r1.length (r1.map (ik .u8)), i64 r2, ik .u64 r3])]) (Γ' := [⟨1, some [sl r1.length (r1.map (ik .u8)), i64 r2, ik .u64 r3]⟩, ⟨0, none⟩]) rfl rfl rfl (TOp.callN (A := [sl a0.length (a0.map (ik .u8))]) (ls := [[sl r1.length (r1.map (ik .u8)), i64 r2, ik .u64 r3]]) [0] (by exact (CallAs.func ent38 rfl rfl)) (lts_cons (lt_sl (fun _ => rfl)) lts_nil) (s_l00From_ok a0 r1 r2 r3 hf1) (and_all (lts_cons (lt_sl (fun _ => rfl)) (lts_cons rfl (lts_cons rfl lts_nil))) rfl) rfl (by decide) (ns_of ⟨⟨_, rfl⟩, trivial⟩)) rfl ?_
 refine za (r := optr 0 1 0) ?_
 refine zN ?_
 refine RunC.seq ?_
 obtain ⟨r4, r5, r6, hf2, h⟩ := obind3_some h
 refine RunC.regionW ?_
 refine zm (r := optr 0 1 0) ?_
 refine zm (r := i64 a1) ?_
 refine ROps.callO (A := [optr 0 1 0, i64 a1]) (args := [optr 0 0 0, i64 a1]) (Γc := [⟨0, some [sl r1.length (r1.map (ik .u8)), i64 r2, ik .u64 r3]⟩]) (Γc' := [⟨0, some [sl r1.length (r1.map (ik .u8)), i64 r4, ik .u64 r5]⟩, ⟨0, some (r6.map f32)⟩]) (r' := oref 1 1 0 r6.length) (Γ' := [⟨1, some [sl r1.length (r1.map (ik .u8)), i64 r4, ik .u64 r5]⟩, ⟨1, some (r6.map f32)⟩]) [(0, 1)] [(1, 1)] rfl (CallAs.func ent65 rfl rfl) rfl rfl (SelOk.of (show List.Nodup [0] from by decide) (SelL.cells0 rfl (by simp [ren, rens, sigma, rens_f32, rens_f64, rens_i64, rens_ik, rens_str, rens_cp]) (lts_cons (lt_slk (fun _ => rfl)) (lts_cons rfl (lts_cons rfl lts_nil))) trivial)) (live_of ⟨⟨_, _, rfl⟩, trivial⟩) (by simp [ren, rens, sigma, rens_f32, rens_f64, rens_i64, rens_ik, rens_str, rens_cp]) rfl (s_l01DrawFloats_0p0_C0_ok a1 r1 r2 r3 r4 r5 r6 hf2) rfl (news_of ⟨⟨_, rfl, rfl⟩, trivial⟩) (show List.Nodup [0, 1] from by decide) (by simp [ren, rens, sigma]) (by simp [backOb, sigma, ren, rens, rens_f32, rens_f64, rens_i64, rens_ik, rens_str, rens_cp]) ?_
 refine za (r := oref 1 1 0 r6.length) ?_
 refine zN ?_
 refine RunC.ret ?_
 have hq := Option.some.inj h
 subst q0
 exact bodyQ.mk (r' := oref 1 1 0 r6.length) [(1, 1)] (.inr rfl) rfl (show List.Nodup [1] from by decide) rfl rfl (Res.one rfl (RV.tmp rfl)) (SelL.arr0 (f := f32) (fun _ => rfl) rfl trivial)
noncomputable def i_isShort_float32 (a0 : List F) : Option (Bool) :=
 some (decide ((a0.length : Int) ≤ 256))
theorem i_isShort_float32_ok (a0 : List F) (q0 : Bool) (h : i_isShort_float32 a0 = some q0) : Ev Tryz.prog 66 [(sFc a0)] [] (b q0) [] := by
 refine Ev.start Tryz.func66 rfl rfl 0 (τ := [(0, (sFc a0))]) rfl (Γ' := []) rfl (n := 13) rfl (g := 0) rfl (fun _ => rfl) ?_
 unfold i_isShort_float32 at h
 refine zQ ?_
 refine za (r := b false) ?_
 refine zN ?_
 refine zQ ?_
 refine zm (r := (sFc a0)) ?_
 refine zl (r := i64 (a0.length : Int)) (LOp.len_sl und52 rfl rfl) ?_
 refine zl (r := b (decide ((a0.length : Int) ≤ 256))) (LOp.leq rfl rfl rfl) ?_
 refine za (r := b (decide ((a0.length : Int) ≤ 256))) ?_
 refine zN ?_
 refine RunC.ret ?_
 have hq := Option.some.inj h
 subst q0
 exact bodyQ.pure (.inr rfl) rfl (Res.one rfl (RV.tmp rfl))
noncomputable def i_sum_b1 (a0 : List F) (y1 : F) (v2 : Int) : Option (LR (F × Int) (F) (F)) :=
 bsel (decide (v2 < (a0.length : Int))) (
  obind (at? a0 v2) fun (e3 : F) =>
  olet (fop .add .f32 y1 e3) fun (x4 : F) =>
  olet (IntKind.i64.wrap (v2 + 1)) fun (x5 : Int) =>
  some (LR.next (x4, x5))) (
  some (LR.out y1))
noncomputable def i_sum_s1 (a0 : List F) : (F × Int) → Option (LR (F × Int) (F) (F)) := fun s => i_sum_b1 a0 s.1 s.2
noncomputable def i_sum_k1 (y6 : F) : Option (F) :=
 some y6
noncomputable def i_sum (a0 : List F) : Option (F) :=
 obind (loopM (i_sum_s1 a0) (some 0, 0)) fun z => osum z (fun e => i_sum_k1 e) (fun r => some r)
theorem i_sum_ok (a0 : List F) (q0 : F) (h : i_sum a0 = some q0) : Ev Tryz.prog 67 [(sFc a0)] [] (f32 q0) [] := by
 refine Ev.start Tryz.func67 rfl rfl 0 (τ := [(0, (sFc a0))]) rfl (Γ' := []) rfl (n := 35) rfl (g := 0) rfl (fun _ => rfl) ?_
 unfold i_sum at h
 iterate 2 (refine zQ ?_; refine zl (r := f32 (some 0)) (LOp.le (LOp.assign rfl rfl) (ALe.fl (by kernel_rfl) (by kernel_rfl))) ?_; refine zN ?_)
 refine RunC.seq ?_
 refine zQ ?_
 refine zm (r := (sFc a0)) ?_
 refine zl (r := i64 (a0.length : Int)) (LOp.len_sl und52 rfl rfl) ?_
 refine zm (r := i64 0) ?_
 refine zN ?_
 obtain ⟨z2, hz_2, h⟩ := obind_some h
 refine RunC.cutN (fun τ Γ => ∃ (y6 : F), WeakLe τ [(3, f32 y6)] ∧ DeadLe Γ [] ∧ z2 = .inl y6) ?_ ?_
 ·refine RunC.block (RunC.loop (RunL.loopM (x := z2) (i_sum_s1 a0) (fun (s : F × Int) τ Γ => WeakLe τ [(3, f32 s.1), (6, (sFc a0)), (7, i64 (a0.length : Int)), (8, i64 s.2)] ∧ DeadLe Γ []) ?_ _ _ _ hz_2 ⟨⟨aR, aR, aR, aR, trivial⟩, trivial⟩))
  rintro ⟨y1, v2⟩ τ2 Γ2 y2_ ⟨hw2, hd2⟩ h2_ ho2 hr2
  refine RunC.wl (τ' := [(3, f32 y1), (6, (sFc a0)), (7, i64 (a0.length : Int)), (8, i64 v2)]) (Γ' := []) hw2 hd2 ?_
  replace h2_ : i_sum_b1 a0 y1 v2 = some y2_ := h2_
  unfold i_sum_b1 at h2_
  refine RunC.seq ?_
  rcases bsel_some h2_ with ⟨hc1, h2_⟩ | ⟨hc1, h2_⟩
  ·refine RunC.regionW ?_
   refine zl (r := b true) (LOp.eqb (LOp.lss rfl rfl rfl) hc1) ?_
   refine zN ?_
   refine RunC.seq ?_
   refine RunC.cond_true rfl rfl ?_
   refine RunC.skip ?_
   refine RunC.seq ?_
   refine RunC.block ?_
   refine RunC.seq ?_
   obtain ⟨e3, he2, h2_⟩ := obind_some h2_
   refine RunC.regionW ?_
   refine zl (r := ptr [f32 e3]) (LOp.le (LOp.ix (f := f32) und52 siz28 rfl rfl rfl rfl he2) ALe.ptr) ?_
   refine zl (r := f32 e3) (LOp.load1 agg28 rfl rfl) ?_
   refine za (r := f32 e3) ?_
   refine zN ?_
   obtain ⟨x4, hx3, h2_⟩ := olet_some h2_
   refine RunC.regionW ?_
   refine zm (r := f32 y1) ?_
   refine zm (r := f32 e3) ?_
   refine ROps.d (r := f32 x4) (fs := []) (Γ' := []) rfl rfl rfl (TOp.eqr (TOp.fop (.inl rfl) rfl (OpF.tmp rfl) (OpF.tmp rfl)) (congrArg (f .f32) hx3)) rfl ?_
   refine za (r := f32 x4) ?_
   refine zN ?_
   obtain ⟨x5, hx4, h2_⟩ := olet_some h2_
   refine RunC.regionW ?_
   refine zl (r := i64 x5) (LOp.eqr (LOp.add rfl rfl rfl) (congrArg (ik .i64) hx4)) ?_
   refine zm (r := i64 x5) ?_
   refine zN ?_
   cases Option.some.inj h2_
   exact ⟨_, rfl, ⟨aR, aR, aR, aR, trivial⟩, trivial⟩
  ·refine RunC.regionW ?_
   refine zl (r := b false) (LOp.eqb (LOp.lss rfl rfl rfl) hc1) ?_
   refine zN ?_
   refine RunC.seq ?_
   refine RunC.cond_false rfl rfl ?_
   refine RunC.exit ?_
   cases Option.some.inj h2_
   have hx := ho2 _ rfl
   exact ⟨y1, ⟨aR, trivial⟩, trivial, hx⟩
 ·rintro τ3 Γ3 ⟨y6, hw3, hd3, rfl⟩
  refine RunC.wl hw3 hd3 ?_
  replace h : i_sum_k1 y6 = some q0 := h
  unfold i_sum_k1 at h
  refine zQ ?_
  refine zm (r := f32 y6) ?_
  refine za (r := f32 y6) ?_
  refine zN ?_
  refine RunC.ret ?_
  have hq := Option.some.inj h
  subst q0
  exact bodyQ.pure (.inr rfl) rfl (Res.one rfl (RV.tmp rfl))
noncomputable def i_SumNumbers (a0 : List F) : Option (F × Bool) :=
 obind (i_isShort_float32 a0) fun (r1 : Bool) =>
 bsel r1 (
  obind (i_sum a0) fun (r2 : F) =>
  some (r2, true)) (
  some (some 0, false))
theorem i_SumNumbers_ok (a0 : List F) (q0 : F) (q1 : Bool) (h : i_SumNumbers a0 = some (q0, q1)) : Ev Tryz.prog 30 [(sFc a0)] [] (tup [f32 q0, b q1]) [] := by
 refine Ev.start Tryz.func30 rfl rfl 0 (τ := [(0, (sFc a0))]) rfl (Γ' := []) rfl (n := 19) rfl (g := 0) rfl (fun _ => rfl) ?_
 unfold i_SumNumbers at h
 refine zQ ?_
 refine zl (r := f32 (some 0)) (LOp.le (LOp.assign rfl rfl) (ALe.fl (by kernel_rfl) (by kernel_rfl))) ?_
 refine za (r := b false) ?_
 refine zN ?_
 iterate 2 (refine RunC.seq ?_)
 obtain ⟨r1, hf1, h⟩ := obind_some h
 rcases bsel_some h with ⟨hc2, h⟩ | ⟨hc2, h⟩
 ·refine RunC.regionW ?_
  refine zm (r := (sFc a0)) ?_
  refine ROps.d (r := b true) (fs := []) (Γ' := []) rfl rfl rfl (TOp.eqb (TOp.callB (CallAs.func ent66 rfl rfl) (Bors.cons (Bor.sl (fun _ => rfl)) Bors.nil) rfl rfl (i_isShort_float32_ok a0 r1 hf1)) hc2) rfl ?_
  refine zl (r := b false) (LOp.eqb (LOp.not rfl rfl) rfl) ?_
  refine zN ?_
  refine RunC.cond_false rfl rfl ?_
  refine RunC.skip ?_
  refine RunC.seq ?_
  obtain ⟨r2, hf3, h⟩ := obind_some h
  refine RunC.regionW ?_
  refine zm (r := (sFc a0)) ?_
  refine ROps.d (r := f32 r2) (fs := []) (Γ' := []) rfl rfl rfl (TOp.callB (CallAs.func ent67 rfl rfl) (Bors.cons (Bor.sl (fun _ => rfl)) Bors.nil) rfl rfl (i_sum_ok a0 r2 hf3)) rfl ?_
  refine za (r := f32 r2) ?_
  refine za (r := b true) ?_
  refine zN ?_
  refine RunC.ret ?_
  have hq := Option.some.inj h
  obtain ⟨hq0, hq⟩ := Prod.mk.inj hq
  subst q0
  subst q1
  exact bodyQ.pure (.inr rfl) rfl (Res.two rfl (RV.tmp rfl) (RV.tmp rfl))
 ·refine RunC.regionW ?_
  refine zm (r := (sFc a0)) ?_
  refine ROps.d (r := b false) (fs := []) (Γ' := []) rfl rfl rfl (TOp.eqb (TOp.callB (CallAs.func ent66 rfl rfl) (Bors.cons (Bor.sl (fun _ => rfl)) Bors.nil) rfl rfl (i_isShort_float32_ok a0 r1 hf1)) hc2) rfl ?_
  refine zl (r := b true) (LOp.eqb (LOp.not rfl rfl) rfl) ?_
  refine zN ?_
  refine RunC.cond_true rfl rfl ?_
  refine zQ ?_
  refine zl (r := f32 (some 0)) (LOp.le (LOp.assign rfl rfl) (ALe.fl (by kernel_rfl) (by kernel_rfl))) ?_
  refine za (r := b false) ?_
  refine zN ?_
  refine RunC.ret ?_
  have hq := Option.some.inj h
  obtain ⟨hq0, hq⟩ := Prod.mk.inj hq
  subst q0
  subst q1
  exact bodyQ.pure (.inr rfl) rfl (Res.two rfl (RV.tmp rfl) (RV.tmp rfl))
noncomputable def x_internal_strconv_isPowerOfTwo (a0 : Int) : Option (Bool) :=
 olet (IntKind.i64.wrap (a0 - 1)) fun (x1 : Int) =>
 olet (iand .i64 a0 x1) fun (x2 : Int) =>
 some (decide (x2 = 0))
theorem x_internal_strconv_isPowerOfTwo_ok (a0 : Int) (q0 : Bool) (h : x_internal_strconv_isPowerOfTwo a0 = some q0) : Ev Tryz.prog 135 [i64 a0] [] (b q0) [] := by
 refine Ev.start Tryz.func135 rfl rfl 0 (τ := [(0, i64 a0)]) rfl (Γ' := []) rfl (n := 17) rfl (g := 0) rfl (fun _ => rfl) ?_
 unfold x_internal_strconv_isPowerOfTwo at h
 refine zQ ?_
 refine za (r := b false) ?_
 refine zN ?_
 refine RunC.seq ?_
 obtain ⟨x1, hx1, h⟩ := olet_some h
 obtain ⟨x2, hx2, h⟩ := olet_some h
 refine RunC.regionW ?_
 iterate 2 (refine zm (r := i64 a0) ?_)
 refine zl (r := i64 x1) (LOp.eqr (LOp.sub rfl rfl rfl) (congrArg (ik .i64) hx1)) ?_
 refine zl (r := i64 x2) (LOp.eqr (LOp.iand rfl rfl rfl) (congrArg (ik .i64) hx2)) ?_
 refine zl (r := b (decide (x2 = 0))) (LOp.eql rfl rfl rfl) ?_
 refine za (r := b (decide (x2 = 0))) ?_
 refine zN ?_
 refine RunC.ret ?_
 have hq := Option.some.inj h
 subst q0
 exact bodyQ.pure (.inr rfl) rfl (Res.one rfl (RV.tmp rfl))
noncomputable def x_math_bits_TrailingZeros64 (a0 : Int) : Option (Int) :=
 bsel (decide (a0 = 0)) (
  some 64) (
  olet (IntKind.u64.wrap (0 - a0)) fun (x1 : Int) =>
  olet (iand .u64 a0 x1) fun (x2 : Int) =>
  olet (IntKind.u64.wrap (x2 * 285870213051353865)) fun (x3 : Int) =>
  need (decide ((0 : Int) ≤ 58)) <|
  olet (ishr .u64 x3 58) fun (x4 : Int) =>
  obind (at? deB64 x4) fun (e5 : Int) =>
  olet (IntKind.i64.wrap e5) fun (x6 : Int) =>
  some x6)
theorem x_math_bits_TrailingZeros64_ok (a0 : Int) (q0 : Int) (h : x_math_bits_TrailingZeros64 a0 = some q0) : Ev Tryz.prog 148 [ik .u64 a0] [] (i64 q0) [] := by
 refine Ev.start Tryz.func148 rfl rfl 0 (τ := [(0, ik .u64 a0)]) rfl (Γ' := []) rfl (n := 29) rfl (g := 0) rfl (fun _ => rfl) ?_
 unfold x_math_bits_TrailingZeros64 at h
 refine zQ ?_
 refine za (r := i64 0) ?_
 refine zN ?_
 iterate 2 (refine RunC.seq ?_)
 rcases bsel_some h with ⟨hc1, h⟩ | ⟨hc1, h⟩
 ·refine RunC.regionW ?_
  refine zm (r := ik .u64 a0) ?_
  refine zl (r := b true) (LOp.eqb (LOp.eql rfl rfl rfl) hc1) ?_
  refine zN ?_
  refine RunC.cond_true rfl rfl ?_
  refine zQ ?_
  refine za (r := i64 64) ?_
  refine zN ?_
  refine RunC.ret ?_
  have hq := Option.some.inj h
  subst q0
  exact bodyQ.pure (.inr rfl) rfl (Res.one rfl (RV.tmp rfl))
 ·refine RunC.regionW ?_
  refine zm (r := ik .u64 a0) ?_
  refine zl (r := b false) (LOp.eqb (LOp.eql rfl rfl rfl) hc1) ?_
  refine zN ?_
  refine RunC.cond_false rfl rfl ?_
  refine RunC.skip ?_
  refine RunC.seq ?_
  obtain ⟨x1, hx2, h⟩ := olet_some h
  obtain ⟨x2, hx3, h⟩ := olet_some h
  obtain ⟨x3, hx4, h⟩ := olet_some h
  obtain ⟨hz5, h⟩ := need_some h
  obtain ⟨x4, hx6, h⟩ := olet_some h
  obtain ⟨e5, he7, h⟩ := obind_some h
  obtain ⟨x6, hx8, h⟩ := olet_some h
  refine RunC.regionW ?_
  iterate 2 (refine zm (r := ik .u64 a0) ?_)
  refine zl (r := ik .u64 x1) (LOp.eqr (LOp.neg_int rfl rfl) (congrArg (ik .u64) hx2)) ?_
  refine zl (r := ik .u64 x2) (LOp.eqr (LOp.iand rfl rfl rfl) (congrArg (ik .u64) hx3)) ?_
  refine zl (r := ik .u64 x3) (LOp.eqr (LOp.mul rfl rfl rfl) (congrArg (ik .u64) hx4)) ?_
  refine zl (r := ik .u64 x4) (LOp.eqr (LOp.shr rfl rfl rfl (of_decide_eq_true hz5)) (congrArg (ik .u64) hx6)) ?_
  refine zl (r := ptr [ik .u8 e5]) (LOp.gix (zs := deB64) und169 siz5 rfl rfl (by unfold globs; simp) (by rfl) he7) ?_
  refine zl (r := ik .u8 e5) (LOp.load1 agg5 rfl rfl) ?_
  refine zl (r := i64 x6) (LOp.eqr (LOp.i2i (src := 5) (dst := 3) ⟨_, pun5⟩ pun3 rfl rfl) (congrArg (ik .i64) hx8)) ?_
  refine za (r := i64 x6) ?_
  refine zN ?_
  refine RunC.ret ?_
  have hq := Option.some.inj h
  subst q0
  exact bodyQ.pure (.inr rfl) rfl (Res.one rfl (RV.tmp rfl))
noncomputable def x_math_bits_TrailingZeros (a0 : Int) : Option (Int) :=
 obind (x_math_bits_TrailingZeros64 a0) fun (r1 : Int) =>
 some r1
theorem x_math_bits_TrailingZeros_ok (a0 : Int) (q0 : Int) (h : x_math_bits_TrailingZeros a0 = some q0) : Ev Tryz.prog 136 [ik .u64 a0] [] (i64 q0) [] := by
 refine Ev.start Tryz.func136 rfl rfl 0 (τ := [(0, ik .u64 a0)]) rfl (Γ' := []) rfl (n := 17) rfl (g := 0) rfl (fun _ => rfl) ?_
 unfold x_math_bits_TrailingZeros at h
 refine zQ ?_
 refine za (r := i64 0) ?_
 refine zN ?_
 refine RunC.seq ?_
 refine RunC.cond_false rfl rfl ?_
 refine RunC.skip ?_
 refine RunC.seq ?_
 obtain ⟨r1, hf1, h⟩ := obind_some h
 refine RunC.regionW ?_
 refine zm (r := ik .u64 a0) ?_
 refine ROps.d (r := i64 r1) (fs := []) (Γ' := []) rfl rfl rfl (TOp.callB (CallAs.func ent148 rfl rfl) (Bors.cons (Bor.pure rfl) Bors.nil) rfl rfl (x_math_bits_TrailingZeros64_ok a0 r1 hf1)) rfl ?_
 refine za (r := i64 r1) ?_
 refine zN ?_
 refine RunC.ret ?_
 have hq := Option.some.inj h
 subst q0
 exact bodyQ.pure (.inr rfl) rfl (Res.one rfl (RV.tmp rfl))
noncomputable def x_internal_strconv_formatBits_k5 (a4 : Bool) (L50 : List Int) (v52 : Int) : Option (ByteArray × (List Int)) :=
 bsel a4 (
  need (decide (0 ≤ v52) && decide (v52 < ((65 : Nat) : Int))) <|
  none) (
  need (decide (0 ≤ v52) && decide (v52 < ((65 : Nat) : Int))) <|
  some ((strOfNums (L50.drop v52.toNat)), ([] : List Int)))
noncomputable def x_internal_strconv_formatBits_k4 (a3 : Bool) (a4 : Bool) (L45 : List Int) (v47 : Int) : Option (ByteArray × (List Int)) :=
 bsel a3 (
  olet (IntKind.i64.wrap (v47 - 1)) fun (x48 : Int) =>
  obind (setAt? L45 x48 45) fun (L49 : List Int) =>
  x_internal_strconv_formatBits_k5 a4 L49 x48) (
  x_internal_strconv_formatBits_k5 a4 L45 v47)
noncomputable def x_internal_strconv_formatBits_b2 (x7 : Int) (x8 : Int) (x10 : Int) (L11 : List Int) (v13 : Int) (v14 : Int) : Option (LR ((List Int) × Int × Int) ((List Int) × Int × Int) (ByteArray × (List Int))) :=
 bsel (decide (x8 ≤ v13)) (
  olet (IntKind.i64.wrap (v14 - 1)) fun (x15 : Int) =>
  olet (iand .u64 v13 x10) fun (x16 : Int) =>
  obind (sat? lit_b1892504 x16) fun (e17 : Int) =>
  obind (setAt? L11 x15 e17) fun (L18 : List Int) =>
  need (decide ((0 : Int) ≤ x7)) <|
  olet (ishr .u64 v13 x7) fun (x19 : Int) =>
  some (LR.next (L18, x19, x15))) (
  some (LR.out (L11, v13, v14)))
noncomputable def x_internal_strconv_formatBits_s2 (x7 : Int) (x8 : Int) (x10 : Int) : ((List Int) × Int × Int) → Option (LR ((List Int) × Int × Int) ((List Int) × Int × Int) (ByteArray × (List Int))) := fun s => x_internal_strconv_formatBits_b2 x7 x8 x10 s.1 s.2.1 s.2.2
noncomputable def x_internal_strconv_formatBits_k2 (a3 : Bool) (a4 : Bool) (L20 : List Int) (v22 : Int) (v23 : Int) : Option (ByteArray × (List Int)) :=
 olet (IntKind.i64.wrap (v23 - 1)) fun (x24 : Int) =>
 obind (sat? lit_b1892504 v22) fun (e25 : Int) =>
 obind (setAt? L20 x24 e25) fun (L26 : List Int) =>
 x_internal_strconv_formatBits_k4 a3 a4 L26 x24
noncomputable def x_internal_strconv_formatBits_b3 (x27 : Int) (L28 : List Int) (v30 : Int) (v31 : Int) : Option (LR ((List Int) × Int × Int) ((List Int) × Int × Int) (ByteArray × (List Int))) :=
 bsel (decide (x27 ≤ v30)) (
  olet (IntKind.i64.wrap (v31 - 1)) fun (x32 : Int) =>
  need (!decide (x27 = 0)) <|
  olet (IntKind.u64.wrap (v30.tdiv x27)) fun (x33 : Int) =>
  olet (IntKind.u64.wrap (x33 * x27)) fun (x34 : Int) =>
  olet (IntKind.u64.wrap (v30 - x34)) fun (x35 : Int) =>
  obind (sat? lit_b1892504 x35) fun (e36 : Int) =>
  obind (setAt? L28 x32 e36) fun (L37 : List Int) =>
  some (LR.next (L37, x33, x32))) (
  some (LR.out (L28, v30, v31)))
noncomputable def x_internal_strconv_formatBits_s3 (x27 : Int) : ((List Int) × Int × Int) → Option (LR ((List Int) × Int × Int) ((List Int) × Int × Int) (ByteArray × (List Int))) := fun s => x_internal_strconv_formatBits_b3 x27 s.1 s.2.1 s.2.2
noncomputable def x_internal_strconv_formatBits_k3 (a3 : Bool) (a4 : Bool) (L38 : List Int) (v40 : Int) (v41 : Int) : Option (ByteArray × (List Int)) :=
 olet (IntKind.i64.wrap (v41 - 1)) fun (x42 : Int) =>
 obind (sat? lit_b1892504 v40) fun (e43 : Int) =>
 obind (setAt? L38 x42 e43) fun (L44 : List Int) =>
 x_internal_strconv_formatBits_k4 a3 a4 L44 x42
noncomputable def x_internal_strconv_formatBits_k1 (a2 : Int) (a3 : Bool) (a4 : Bool) (v2 : Int) : Option (ByteArray × (List Int)) :=
 obind (x_internal_strconv_isPowerOfTwo a2) fun (r4 : Bool) =>
 bsel r4 (
  olet (IntKind.u64.wrap a2) fun (x5 : Int) =>
  obind (x_math_bits_TrailingZeros x5) fun (r6 : Int) =>
  olet (IntKind.u64.wrap r6) fun (x7 : Int) =>
  olet (IntKind.u64.wrap a2) fun (x8 : Int) =>
  olet (IntKind.u64.wrap a2) fun (x9 : Int) =>
  olet (IntKind.u64.wrap (x9 - 1)) fun (x10 : Int) =>
  obind (loopM (x_internal_strconv_formatBits_s2 x7 x8 x10) ((List.replicate 65 (0 : Int)), v2, 65)) fun z => osum z (fun e => x_internal_strconv_formatBits_k2 a3 a4 e.1 e.2.1 e.2.2) (fun r => some r)) (
  olet (IntKind.u64.wrap a2) fun (x27 : Int) =>
  obind (loopM (x_internal_strconv_formatBits_s3 x27) ((List.replicate 65 (0 : Int)), v2, 65)) fun z => osum z (fun e => x_internal_strconv_formatBits_k3 a3 a4 e.1 e.2.1 e.2.2) (fun r => some r))
noncomputable def x_internal_strconv_formatBits (a0 : List Int) (a1 : Int) (a2 : Int) (a3 : Bool) (a4 : Bool) : Option (ByteArray × (List Int)) :=
 bsel (decide (a2 < 2)) (
  none) (
  bsel (decide (a2 = 10)) (
   none) (
   bsel (decide (36 < a2)) (
    none) (
    bsel a3 (
     olet (IntKind.u64.wrap (0 - a1)) fun (x1 : Int) =>
     x_internal_strconv_formatBits_k1 a2 a3 a4 x1) (
     x_internal_strconv_formatBits_k1 a2 a3 a4 a1))))
theorem x_internal_strconv_formatBits_ok (a0 : List Int) (a1 : Int) (a2 : Int) (a3 : Bool) (a4 : Bool) (q0 : ByteArray) (q1 : List Int) (h : x_internal_strconv_formatBits a0 a1 a2 a3 a4 = some (q0, q1)) : Ev Tryz.prog 114 [sl a0.length (a0.map (ik .u8)), ik .u64 a1, i64 a2, b a3, b a4] [] (tup [oref 0 0 0 q1.length, str q0]) [⟨0, some (q1.map (ik .u8))⟩] := by
 refine Ev.start Tryz.func114 rfl rfl 1 (τ := [(0, sl a0.length (a0.map (ik .u8))), (1, ik .u64 a1), (2, i64 a2), (3, b a3), (4, b a4)]) rfl (Γ' := [⟨0, none⟩]) rfl (n := 205) rfl (g := 0) rfl (fun _ => rfl) ?_
 unfold x_internal_strconv_formatBits at h
 refine zQ ?_
 refine za (r := nilsl) ?_
 refine za (r := str lit_99ba06bc) ?_
 refine zN ?_
 iterate 2 (refine RunC.seq ?_)
 rcases bsel_some h with ⟨hc1, h⟩ | ⟨hc1, h⟩
 ·refine RunC.regionW ?_
  refine zm (r := i64 a2) ?_
  refine zl (r := b true) (LOp.eqb (LOp.lss rfl rfl rfl) hc1) ?_
  iterate 2 (refine zm (r := b true) ?_; refine ROps.s rfl rfl rfl ?_; refine ROps.s rfl rfl rfl ?_; refine zl (r := b true) (LOp.pick_true rfl rfl rfl) ?_)
  refine zN ?_
  refine RunC.cond_true rfl rfl ?_
  cases h
 ·rcases bsel_some h with ⟨hc2, h⟩ | ⟨hc2, h⟩
  ·refine RunC.regionW ?_
   refine zm (r := i64 a2) ?_
   refine zl (r := b false) (LOp.eqb (LOp.lss rfl rfl rfl) hc1) ?_
   refine zm (r := b false) ?_
   refine zm (r := i64 a2) ?_
   refine zl (r := b true) (LOp.eqb (LOp.eql rfl rfl rfl) hc2) ?_
   refine zl (r := b true) (LOp.pick_false rfl rfl rfl) ?_
   refine zm (r := b true) ?_
   iterate 2 (refine ROps.s rfl rfl rfl ?_)
   refine zl (r := b true) (LOp.pick_true rfl rfl rfl) ?_
   refine zN ?_
   refine RunC.cond_true rfl rfl ?_
   cases h
  ·rcases bsel_some h with ⟨hc3, h⟩ | ⟨hc3, h⟩
   ·refine RunC.regionW ?_
    refine zm (r := i64 a2) ?_
    refine zl (r := b false) (LOp.eqb (LOp.lss rfl rfl rfl) hc1) ?_
    refine zm (r := b false) ?_
    refine zm (r := i64 a2) ?_
    refine zl (r := b false) (LOp.eqb (LOp.eql rfl rfl rfl) hc2) ?_
    refine zl (r := b false) (LOp.pick_false rfl rfl rfl) ?_
    refine zm (r := b false) ?_
    refine zm (r := i64 a2) ?_
    refine zl (r := b true) (LOp.eqb (LOp.gtr rfl rfl rfl) hc3) ?_
    refine zl (r := b true) (LOp.pick_false rfl rfl rfl) ?_
    refine zN ?_
    refine RunC.cond_true rfl rfl ?_
    cases h
   ·refine RunC.regionW ?_
    refine zm (r := i64 a2) ?_
    refine zl (r := b false) (LOp.eqb (LOp.lss rfl rfl rfl) hc1) ?_
    refine zm (r := b false) ?_
    refine zm (r := i64 a2) ?_
    refine zl (r := b false) (LOp.eqb (LOp.eql rfl rfl rfl) hc2) ?_
    refine zl (r := b false) (LOp.pick_false rfl rfl rfl) ?_
    refine zm (r := b false) ?_
    refine zm (r := i64 a2) ?_
    refine zl (r := b false) (LOp.eqb (LOp.gtr rfl rfl rfl) hc3) ?_
    refine zl (r := b false) (LOp.pick_false rfl rfl rfl) ?_
    refine zN ?_
    refine RunC.cond_false rfl rfl ?_
    refine RunC.skip ?_
    refine zQ ?_
    refine ROps.d (r := optr 0 1 0) (fs := [(0, ((List.replicate 65 (0 : Int)).map (ik .u8)))]) (Γ' := [⟨1, some ((List.replicate 65 (0 : Int)).map (ik .u8))⟩]) rfl rfl rfl (TOp.alloc_o (l := ((List.replicate 65 (0 : Int)).map (ik .u8))) (g := ⟨0, none⟩) 0 rfl zer149 zok149 rfl) rfl ?_
    refine zN ?_
    refine zQ ?_
    refine za (r := i64 65) ?_
    refine zN ?_
    refine RunC.seq ?_
    refine RunC.cutN (fun τ Γ => ∃ (v2 : Int), (List.replicate 65 (0 : Int)).length = 65 ∧ WeakLe τ [(0, sl a0.length (a0.map (ik .u8))), (1, ik .u64 v2), (2, i64 a2), (3, b a3), (4, b a4), (10, nilsl), (11, str lit_99ba06bc), (12, optr 0 1 0), (13, i64 65)] ∧ DeadLe Γ [⟨1, some ((List.replicate 65 (0 : Int)).map (ik .u8))⟩] ∧ x_internal_strconv_formatBits_k1 a2 a3 a4 v2 = some (q0, q1)) ?_ ?_
    ·refine RunC.seq ?_
     rcases bsel_some h with ⟨hc4, h⟩ | ⟨hc4, h⟩
     ·refine RunC.regionW ?_
      refine zl (r := b true) (LOp.eqb (LOp.move rfl rfl) hc4) ?_
      refine zN ?_
      refine RunC.cond_true rfl rfl ?_
      obtain ⟨x1, hx5, h⟩ := olet_some h
      refine RunC.regionW ?_
      refine zm (r := ik .u64 a1) ?_
      refine zl (r := ik .u64 x1) (LOp.eqr (LOp.neg_int rfl rfl) (congrArg (ik .u64) hx5)) ?_
      refine za (r := ik .u64 x1) ?_
      refine zN ?_
      exact ⟨x1, List.length_replicate, ⟨aR, aR, aR, aR, aR, aR, aR, aR, aR, trivial⟩, ⟨⟨rfl, .inr rfl⟩, trivial⟩, h⟩
     ·refine RunC.regionW ?_
      refine zl (r := b false) (LOp.eqb (LOp.move rfl rfl) hc4) ?_
      refine zN ?_
      refine RunC.cond_false rfl rfl ?_
      refine RunC.skip ?_
      exact ⟨a1, List.length_replicate, ⟨aR, aR, aR, aR, aR, aR, aR, aR, aR, trivial⟩, ⟨⟨rfl, .inr rfl⟩, trivial⟩, h⟩
    ·rintro τ6 Γ6 ⟨v2, hl3, hw6, hd6, h⟩
     refine RunC.wl hw6 hd6 ?_
     unfold x_internal_strconv_formatBits_k1 at h
     refine RunC.seq ?_
     refine RunC.cutN (fun τ Γ => ∃ (L45 : List Int) (v47 : Int), L45.length = 65 ∧ WeakLe τ [(0, sl a0.length (a0.map (ik .u8))), (3, b a3), (4, b a4), (10, nilsl), (11, str lit_99ba06bc), (12, optr 0 1 0), (13, i64 v47)] ∧ DeadLe Γ [⟨1, some (L45.map (ik .u8))⟩] ∧ x_internal_strconv_formatBits_k4 a3 a4 L45 v47 = some (q0, q1)) ?_ ?_
     ·refine RunC.seq ?_
      obtain ⟨r4, hf6, h⟩ := obind_some h
      rcases bsel_some h with ⟨hc7, h⟩ | ⟨hc7, h⟩
      ·refine RunC.regionW ?_
       refine zm (r := i64 a2) ?_
       refine ROps.d (r := b true) (fs := []) (Γ' := [⟨1, some ((List.replicate 65 (0 : Int)).map (ik .u8))⟩]) rfl rfl rfl (TOp.eqb (TOp.callB (CallAs.func ent135 rfl rfl) (Bors.cons (Bor.pure rfl) Bors.nil) rfl rfl (x_internal_strconv_isPowerOfTwo_ok a2 r4 hf6)) hc7) rfl ?_
       refine zN ?_
       refine RunC.cond_true rfl rfl ?_
       refine RunC.seq ?_
       obtain ⟨x5, hx8, h⟩ := olet_some h
       obtain ⟨r6, hf9, h⟩ := obind_some h
       obtain ⟨x7, hx10, h⟩ := olet_some h
       refine RunC.regionW ?_
       refine zm (r := i64 a2) ?_
       refine zl (r := ik .u64 x5) (LOp.eqr (LOp.i2i (src := 3) (dst := 106) ⟨_, pun3⟩ pun106 rfl rfl) (congrArg (ik .u64) hx8)) ?_
       refine ROps.d (r := i64 r6) (fs := []) (Γ' := [⟨1, some ((List.replicate 65 (0 : Int)).map (ik .u8))⟩]) rfl rfl rfl (TOp.callB (CallAs.func ent136 rfl rfl) (Bors.cons (Bor.pure rfl) Bors.nil) rfl rfl (x_math_bits_TrailingZeros_ok x5 r6 hf9)) rfl ?_
       refine zl (r := ik .u64 x7) (LOp.eqr (LOp.i2i (src := 3) (dst := 106) ⟨_, pun3⟩ pun106 rfl rfl) (congrArg (ik .u64) hx10)) ?_
       refine za (r := ik .u64 x7) ?_
       refine zN ?_
       refine RunC.seq ?_
       obtain ⟨x8, hx11, h⟩ := olet_some h
       refine RunC.regionW ?_
       refine zm (r := i64 a2) ?_
       refine zl (r := ik .u64 x8) (LOp.eqr (LOp.i2i (src := 3) (dst := 90) ⟨_, pun3⟩ pun90 rfl rfl) (congrArg (ik .u64) hx11)) ?_
       refine za (r := ik .u64 x8) ?_
       refine zN ?_
       refine RunC.seq ?_
       obtain ⟨x9, hx12, h⟩ := olet_some h
       obtain ⟨x10, hx13, h⟩ := olet_some h
       refine RunC.regionW ?_
       refine zm (r := i64 a2) ?_
       refine zl (r := ik .u64 x9) (LOp.eqr (LOp.i2i (src := 3) (dst := 106) ⟨_, pun3⟩ pun106 rfl rfl) (congrArg (ik .u64) hx12)) ?_
       refine zl (r := ik .u64 x10) (LOp.eqr (LOp.sub rfl rfl rfl) (congrArg (ik .u64) hx13)) ?_
       refine za (r := ik .u64 x10) ?_
       refine zN ?_
       refine RunC.seq ?_
       obtain ⟨z7, hz_7, h⟩ := obind_some h
       refine RunC.cutN (fun τ Γ => ∃ (L20 : List Int) (v22 : Int) (v23 : Int), L20.length = 65 ∧ WeakLe τ [(0, sl a0.length (a0.map (ik .u8))), (1, ik .u64 v22), (3, b a3), (4, b a4), (10, nilsl), (11, str lit_99ba06bc), (12, optr 0 1 0), (13, i64 v23)] ∧ DeadLe Γ [⟨1, some (L20.map (ik .u8))⟩] ∧ z7 = .inl (L20, v22, v23)) ?_ ?_
       ·refine RunC.block (RunC.loop (RunL.loopM (x := z7) (x_internal_strconv_formatBits_s2 x7 x8 x10) (fun (s : (List Int) × Int × Int) τ Γ => s.1.length = 65 ∧ WeakLe τ [(0, sl a0.length (a0.map (ik .u8))), (1, ik .u64 s.2.1), (3, b a3), (4, b a4), (10, nilsl), (11, str lit_99ba06bc), (12, optr 0 1 0), (13, i64 s.2.2), (14, ik .u64 x7), (15, ik .u64 x8), (16, ik .u64 x10)] ∧ DeadLe Γ [⟨1, some (s.1.map (ik .u8))⟩]) ?_ _ _ _ hz_7 ⟨hl3, ⟨aR, aR, aR, aR, aR, aR, aR, aR, aR, aR, aR, trivial⟩, ⟨⟨rfl, .inr rfl⟩, trivial⟩⟩))
        rintro ⟨L11, v13, v14⟩ τ7 Γ7 y7_ ⟨hl12, hw7, hd7⟩ h7_ ho7 hr7
        refine RunC.wl (τ' := [(0, sl a0.length (a0.map (ik .u8))), (1, ik .u64 v13), (3, b a3), (4, b a4), (10, nilsl), (11, str lit_99ba06bc), (12, optr 0 1 0), (13, i64 v14), (14, ik .u64 x7), (15, ik .u64 x8), (16, ik .u64 x10)]) (Γ' := [⟨1, some (L11.map (ik .u8))⟩]) hw7 hd7 ?_
        replace hl12 : L11.length = 65 := hl12
        replace h7_ : x_internal_strconv_formatBits_b2 x7 x8 x10 L11 v13 v14 = some y7_ := h7_
        unfold x_internal_strconv_formatBits_b2 at h7_
        iterate 2 (refine RunC.seq ?_)
        rcases bsel_some h7_ with ⟨hc14, h7_⟩ | ⟨hc14, h7_⟩
        ·refine RunC.regionW ?_
         refine zm (r := ik .u64 v13) ?_
         refine zm (r := ik .u64 x8) ?_
         refine zl (r := b true) (LOp.eqb (LOp.geq rfl rfl rfl) hc14) ?_
         refine zN ?_
         refine RunC.cond_true rfl rfl ?_
         refine RunC.skip ?_
         refine RunC.block ?_
         refine RunC.seq ?_
         obtain ⟨x15, hx15, h7_⟩ := olet_some h7_
         refine RunC.regionW ?_
         refine zm (r := i64 v14) ?_
         refine zl (r := i64 x15) (LOp.eqr (LOp.sub rfl rfl rfl) (congrArg (ik .i64) hx15)) ?_
         refine za (r := i64 x15) ?_
         refine zN ?_
         refine RunC.seq ?_
         obtain ⟨x16, hx16, h7_⟩ := olet_some h7_
         obtain ⟨e17, he17, h7_⟩ := obind_some h7_
         obtain ⟨L18, he18, h7_⟩ := obind_some h7_
         refine RunC.regionW ?_
         refine zm (r := i64 x15) ?_
         refine zm (r := ik .u64 v13) ?_
         refine zm (r := ik .u64 x10) ?_
         refine zl (r := ik .u64 x16) (LOp.eqr (LOp.iand rfl rfl rfl) (congrArg (ik .u64) hx16)) ?_
         refine zl (r := ik .u8 e17) (LOp.index_str und9 rfl rfl rfl he17) ?_
         refine ROps.d (r := optr 0 1 x15.toNat) (fs := []) (Γ' := [⟨1, some (L11.map (ik .u8))⟩]) rfl rfl rfl (TOp.ixa und149 siz5 rfl rfl rfl (set_in he18 hl12) rfl) rfl ?_
         refine ROps.st (f := (ik .u8)) (i := x15) (Γ' := [⟨1, some (L18.map (ik .u8))⟩]) rfl siz5 rfl rfl rfl aR rfl rfl rfl he18 rfl ?_
         refine zN ?_
         obtain ⟨hz19, h7_⟩ := need_some h7_
         obtain ⟨x19, hx20, h7_⟩ := olet_some h7_
         refine RunC.regionW ?_
         refine zm (r := ik .u64 v13) ?_
         refine zm (r := ik .u64 x7) ?_
         refine zl (r := ik .u64 x19) (LOp.eqr (LOp.shr rfl rfl rfl (of_decide_eq_true hz19)) (congrArg (ik .u64) hx20)) ?_
         refine za (r := ik .u64 x19) ?_
         refine zN ?_
         cases Option.some.inj h7_
         exact ⟨_, rfl, ((setAt?_len he18).trans hl12), ⟨aR, aR, aR, aR, aR, aR, aR, aR, aR, aR, aR, trivial⟩, ⟨⟨rfl, .inr rfl⟩, trivial⟩⟩
        ·refine RunC.regionW ?_
         refine zm (r := ik .u64 v13) ?_
         refine zm (r := ik .u64 x8) ?_
         refine zl (r := b false) (LOp.eqb (LOp.geq rfl rfl rfl) hc14) ?_
         refine zN ?_
         refine RunC.cond_false rfl rfl ?_
         refine RunC.exit ?_
         cases Option.some.inj h7_
         have hx := ho7 _ rfl
         exact ⟨L11, v13, v14, hl12, ⟨aR, aR, aR, aR, aR, aR, aR, aR, trivial⟩, ⟨⟨rfl, .inr rfl⟩, trivial⟩, hx⟩
       ·rintro τ8 Γ8 ⟨L20, v22, v23, hl21, hw8, hd8, rfl⟩
        refine RunC.wl hw8 hd8 ?_
        replace h : x_internal_strconv_formatBits_k2 a3 a4 L20 v22 v23 = some (q0, q1) := h
        unfold x_internal_strconv_formatBits_k2 at h
        refine RunC.seq ?_
        obtain ⟨x24, hx21, h⟩ := olet_some h
        refine RunC.regionW ?_
        refine zm (r := i64 v23) ?_
        refine zl (r := i64 x24) (LOp.eqr (LOp.sub rfl rfl rfl) (congrArg (ik .i64) hx21)) ?_
        refine za (r := i64 x24) ?_
        refine zN ?_
        obtain ⟨e25, he22, h⟩ := obind_some h
        obtain ⟨L26, he23, h⟩ := obind_some h
        refine RunC.regionW ?_
        refine zm (r := i64 x24) ?_
        refine zm (r := ik .u64 v22) ?_
        refine zl (r := ik .u8 e25) (LOp.index_str und9 rfl rfl rfl he22) ?_
        refine ROps.d (r := optr 0 1 x24.toNat) (fs := []) (Γ' := [⟨1, some (L20.map (ik .u8))⟩]) rfl rfl rfl (TOp.ixa und149 siz5 rfl rfl rfl (set_in he23 hl21) rfl) rfl ?_
        refine ROps.st (f := (ik .u8)) (i := x24) (Γ' := [⟨1, some (L26.map (ik .u8))⟩]) rfl siz5 rfl rfl rfl aR rfl rfl rfl he23 rfl ?_
        refine zN ?_
        exact ⟨L26, x24, ((setAt?_len he23).trans hl21), ⟨aR, aR, aR, aR, aR, aR, aR, trivial⟩, ⟨⟨rfl, .inr rfl⟩, trivial⟩, h⟩
      ·refine RunC.regionW ?_
       refine zm (r := i64 a2) ?_
       refine ROps.d (r := b false) (fs := []) (Γ' := [⟨1, some ((List.replicate 65 (0 : Int)).map (ik .u8))⟩]) rfl rfl rfl (TOp.eqb (TOp.callB (CallAs.func ent135 rfl rfl) (Bors.cons (Bor.pure rfl) Bors.nil) rfl rfl (x_internal_strconv_isPowerOfTwo_ok a2 r4 hf6)) hc7) rfl ?_
       refine zN ?_
       refine RunC.cond_false rfl rfl ?_
       refine RunC.seq ?_
       obtain ⟨x27, hx24, h⟩ := olet_some h
       refine RunC.regionW ?_
       refine zm (r := i64 a2) ?_
       refine zl (r := ik .u64 x27) (LOp.eqr (LOp.i2i (src := 3) (dst := 90) ⟨_, pun3⟩ pun90 rfl rfl) (congrArg (ik .u64) hx24)) ?_
       refine za (r := ik .u64 x27) ?_
       refine zN ?_
       refine RunC.seq ?_
       obtain ⟨z9, hz_9, h⟩ := obind_some h
       refine RunC.cutN (fun τ Γ => ∃ (L38 : List Int) (v40 : Int) (v41 : Int), L38.length = 65 ∧ WeakLe τ [(0, sl a0.length (a0.map (ik .u8))), (1, ik .u64 v40), (3, b a3), (4, b a4), (10, nilsl), (11, str lit_99ba06bc), (12, optr 0 1 0), (13, i64 v41)] ∧ DeadLe Γ [⟨1, some (L38.map (ik .u8))⟩] ∧ z9 = .inl (L38, v40, v41)) ?_ ?_
       ·refine RunC.block (RunC.loop (RunL.loopM (x := z9) (x_internal_strconv_formatBits_s3 x27) (fun (s : (List Int) × Int × Int) τ Γ => s.1.length = 65 ∧ WeakLe τ [(0, sl a0.length (a0.map (ik .u8))), (1, ik .u64 s.2.1), (3, b a3), (4, b a4), (10, nilsl), (11, str lit_99ba06bc), (12, optr 0 1 0), (13, i64 s.2.2), (17, ik .u64 x27)] ∧ DeadLe Γ [⟨1, some (s.1.map (ik .u8))⟩]) ?_ _ _ _ hz_9 ⟨hl3, ⟨aR, aR, aR, aR, aR, aR, aR, aR, aR, trivial⟩, ⟨⟨rfl, .inr rfl⟩, trivial⟩⟩))
        rintro ⟨L28, v30, v31⟩ τ9 Γ9 y9_ ⟨hl29, hw9, hd9⟩ h9_ ho9 hr9
        refine RunC.wl (τ' := [(0, sl a0.length (a0.map (ik .u8))), (1, ik .u64 v30), (3, b a3), (4, b a4), (10, nilsl), (11, str lit_99ba06bc), (12, optr 0 1 0), (13, i64 v31), (17, ik .u64 x27)]) (Γ' := [⟨1, some (L28.map (ik .u8))⟩]) hw9 hd9 ?_
        replace hl29 : L28.length = 65 := hl29
        replace h9_ : x_internal_strconv_formatBits_b3 x27 L28 v30 v31 = some y9_ := h9_
        unfold x_internal_strconv_formatBits_b3 at h9_
        iterate 2 (refine RunC.seq ?_)
        rcases bsel_some h9_ with ⟨hc25, h9_⟩ | ⟨hc25, h9_⟩
        ·refine RunC.regionW ?_
         refine zm (r := ik .u64 v30) ?_
         refine zm (r := ik .u64 x27) ?_
         refine zl (r := b true) (LOp.eqb (LOp.geq rfl rfl rfl) hc25) ?_
         refine zN ?_
         refine RunC.cond_true rfl rfl ?_
         refine RunC.skip ?_
         refine RunC.block ?_
         refine RunC.seq ?_
         obtain ⟨x32, hx26, h9_⟩ := olet_some h9_
         refine RunC.regionW ?_
         refine zm (r := i64 v31) ?_
         refine zl (r := i64 x32) (LOp.eqr (LOp.sub rfl rfl rfl) (congrArg (ik .i64) hx26)) ?_
         refine za (r := i64 x32) ?_
         refine zN ?_
         refine RunC.seq ?_
         obtain ⟨hz27, h9_⟩ := need_some h9_
         obtain ⟨x33, hx28, h9_⟩ := olet_some h9_
         refine RunC.regionW ?_
         refine zm (r := ik .u64 v30) ?_
         refine zm (r := ik .u64 x27) ?_
         refine zl (r := ik .u64 x33) (LOp.eqr (LOp.quo rfl rfl rfl (nz hz27)) (congrArg (ik .u64) hx28)) ?_
         refine za (r := ik .u64 x33) ?_
         refine zN ?_
         refine RunC.seq ?_
         obtain ⟨x34, hx29, h9_⟩ := olet_some h9_
         obtain ⟨x35, hx30, h9_⟩ := olet_some h9_
         obtain ⟨e36, he31, h9_⟩ := obind_some h9_
         obtain ⟨L37, he32, h9_⟩ := obind_some h9_
         refine RunC.regionW ?_
         refine zm (r := i64 x32) ?_
         refine zm (r := ik .u64 v30) ?_
         refine zm (r := ik .u64 x33) ?_
         refine zm (r := ik .u64 x27) ?_
         refine zl (r := ik .u64 x34) (LOp.eqr (LOp.mul rfl rfl rfl) (congrArg (ik .u64) hx29)) ?_
         refine zl (r := ik .u64 x35) (LOp.eqr (LOp.sub rfl rfl rfl) (congrArg (ik .u64) hx30)) ?_
         refine zl (r := ik .u8 e36) (LOp.index_str und9 rfl rfl rfl he31) ?_
         refine ROps.d (r := optr 0 1 x32.toNat) (fs := []) (Γ' := [⟨1, some (L28.map (ik .u8))⟩]) rfl rfl rfl (TOp.ixa und149 siz5 rfl rfl rfl (set_in he32 hl29) rfl) rfl ?_
         refine ROps.st (f := (ik .u8)) (i := x32) (Γ' := [⟨1, some (L37.map (ik .u8))⟩]) rfl siz5 rfl rfl rfl aR rfl rfl rfl he32 rfl ?_
         refine zN ?_
         refine RunC.wl (τ' := [(0, sl a0.length (a0.map (ik .u8))), (3, b a3), (4, b a4), (10, nilsl), (11, str lit_99ba06bc), (12, optr 0 1 0), (13, i64 x32), (17, ik .u64 x27), (18, ik .u64 x33)]) (Γ' := [⟨1, some (L37.map (ik .u8))⟩]) ⟨aR, aR, aR, aR, aR, aR, aR, aR, aR, trivial⟩ ⟨⟨rfl, .inr rfl⟩, trivial⟩ ?_
         refine RunC.regionW ?_
         refine zm (r := ik .u64 x33) ?_
         refine za (r := ik .u64 x33) ?_
         refine zN ?_
         cases Option.some.inj h9_
         exact ⟨_, rfl, ((setAt?_len he32).trans hl29), ⟨aR, aR, aR, aR, aR, aR, aR, aR, aR, trivial⟩, ⟨⟨rfl, .inr rfl⟩, trivial⟩⟩
        ·refine RunC.regionW ?_
         refine zm (r := ik .u64 v30) ?_
         refine zm (r := ik .u64 x27) ?_
         refine zl (r := b false) (LOp.eqb (LOp.geq rfl rfl rfl) hc25) ?_
         refine zN ?_
         refine RunC.cond_false rfl rfl ?_
         refine RunC.exit ?_
         cases Option.some.inj h9_
         have hx := ho9 _ rfl
         exact ⟨L28, v30, v31, hl29, ⟨aR, aR, aR, aR, aR, aR, aR, aR, trivial⟩, ⟨⟨rfl, .inr rfl⟩, trivial⟩, hx⟩
       ·rintro τ10 Γ10 ⟨L38, v40, v41, hl39, hw10, hd10, rfl⟩
        refine RunC.wl hw10 hd10 ?_
        replace h : x_internal_strconv_formatBits_k3 a3 a4 L38 v40 v41 = some (q0, q1) := h
        unfold x_internal_strconv_formatBits_k3 at h
        refine RunC.seq ?_
        obtain ⟨x42, hx33, h⟩ := olet_some h
        refine RunC.regionW ?_
        refine zm (r := i64 v41) ?_
        refine zl (r := i64 x42) (LOp.eqr (LOp.sub rfl rfl rfl) (congrArg (ik .i64) hx33)) ?_
        refine za (r := i64 x42) ?_
        refine zN ?_
        obtain ⟨e43, he34, h⟩ := obind_some h
        obtain ⟨L44, he35, h⟩ := obind_some h
        refine RunC.regionW ?_
        refine zm (r := i64 x42) ?_
        refine zm (r := ik .u64 v40) ?_
        refine zl (r := ik .u8 e43) (LOp.index_str und9 rfl rfl rfl he34) ?_
        refine ROps.d (r := optr 0 1 x42.toNat) (fs := []) (Γ' := [⟨1, some (L38.map (ik .u8))⟩]) rfl rfl rfl (TOp.ixa und149 siz5 rfl rfl rfl (set_in he35 hl39) rfl) rfl ?_
        refine ROps.st (f := (ik .u8)) (i := x42) (Γ' := [⟨1, some (L44.map (ik .u8))⟩]) rfl siz5 rfl rfl rfl aR rfl rfl rfl he35 rfl ?_
        refine zN ?_
        exact ⟨L44, x42, ((setAt?_len he35).trans hl39), ⟨aR, aR, aR, aR, aR, aR, aR, trivial⟩, ⟨⟨rfl, .inr rfl⟩, trivial⟩, h⟩
     ·rintro τ11 Γ11 ⟨L45, v47, hl46, hw11, hd11, h⟩
      refine RunC.wl hw11 hd11 ?_
      unfold x_internal_strconv_formatBits_k4 at h
      refine RunC.seq ?_
      refine RunC.cutN (fun τ Γ => ∃ (L50 : List Int) (v52 : Int), L50.length = 65 ∧ WeakLe τ [(0, sl a0.length (a0.map (ik .u8))), (4, b a4), (10, nilsl), (11, str lit_99ba06bc), (12, optr 0 1 0), (13, i64 v52)] ∧ DeadLe Γ [⟨1, some (L50.map (ik .u8))⟩] ∧ x_internal_strconv_formatBits_k5 a4 L50 v52 = some (q0, q1)) ?_ ?_
      ·refine RunC.seq ?_
       rcases bsel_some h with ⟨hc36, h⟩ | ⟨hc36, h⟩
       ·refine RunC.regionW ?_
        refine zl (r := b true) (LOp.eqb (LOp.move rfl rfl) hc36) ?_
        refine zN ?_
        refine RunC.cond_true rfl rfl ?_
        refine RunC.seq ?_
        obtain ⟨x48, hx37, h⟩ := olet_some h
        refine RunC.regionW ?_
        refine zm (r := i64 v47) ?_
        refine zl (r := i64 x48) (LOp.eqr (LOp.sub rfl rfl rfl) (congrArg (ik .i64) hx37)) ?_
        refine za (r := i64 x48) ?_
        refine zN ?_
        obtain ⟨L49, he38, h⟩ := obind_some h
        refine RunC.regionW ?_
        refine zm (r := i64 x48) ?_
        refine ROps.d (r := optr 0 1 x48.toNat) (fs := []) (Γ' := [⟨1, some (L45.map (ik .u8))⟩]) rfl rfl rfl (TOp.ixa und149 siz5 rfl rfl rfl (set_in he38 hl46) rfl) rfl ?_
        refine ROps.st (f := (ik .u8)) (i := x48) (Γ' := [⟨1, some (L49.map (ik .u8))⟩]) rfl siz5 rfl rfl rfl aR rfl rfl rfl he38 rfl ?_
        refine zN ?_
        exact ⟨L49, x48, ((setAt?_len he38).trans hl46), ⟨aR, aR, aR, aR, aR, aR, trivial⟩, ⟨⟨rfl, .inr rfl⟩, trivial⟩, h⟩
       ·refine RunC.regionW ?_
        refine zl (r := b false) (LOp.eqb (LOp.move rfl rfl) hc36) ?_
        refine zN ?_
        refine RunC.cond_false rfl rfl ?_
        refine RunC.skip ?_
        exact ⟨L45, v47, hl46, ⟨aR, aR, aR, aR, aR, aR, trivial⟩, ⟨⟨rfl, .inr rfl⟩, trivial⟩, h⟩
      ·rintro τ12 Γ12 ⟨L50, v52, hl51, hw12, hd12, h⟩
       refine RunC.wl hw12 hd12 ?_
       unfold x_internal_strconv_formatBits_k5 at h
       iterate 2 (refine RunC.seq ?_)
       rcases bsel_some h with ⟨hc39, h⟩ | ⟨hc39, h⟩
       ·refine RunC.regionW ?_
        refine zl (r := b true) (LOp.eqb (LOp.move rfl rfl) hc39) ?_
        refine zN ?_
        refine RunC.cond_true rfl rfl ?_
        refine RunC.seq ?_
        refine RunC.le (Le.settle 0 [(0, sl a0.length (a0.map (ik .u8))), (4, b a4), (10, nilsl), (11, str lit_99ba06bc), (12, ptr (L50.map (ik .u8))), (13, i64 v52), (94, b true)] rfl rfl rfl ⟨.inl rfl, .inl rfl, .inl rfl, .inl rfl, .inr (Bor.arr (f := (ik .u8)) (fun _ => rfl) rfl), .inl rfl, .inl rfl, trivial⟩) ?_
        obtain ⟨hp40, h⟩ := need_some h
        cases h
       ·refine RunC.regionW ?_
        refine zl (r := b false) (LOp.eqb (LOp.move rfl rfl) hc39) ?_
        refine zN ?_
        refine RunC.cond_false rfl rfl ?_
        refine RunC.skip ?_
        refine RunC.seq ?_
        refine RunC.le (Le.settle 0 [(0, sl a0.length (a0.map (ik .u8))), (4, b a4), (10, nilsl), (11, str lit_99ba06bc), (12, ptr (L50.map (ik .u8))), (13, i64 v52), (94, b false)] rfl rfl rfl ⟨.inl rfl, .inl rfl, .inl rfl, .inl rfl, .inr (Bor.arr (f := (ik .u8)) (fun _ => rfl) rfl), .inl rfl, .inl rfl, trivial⟩) ?_
        obtain ⟨hp41, h⟩ := need_some h
        refine RunC.regionW ?_
        refine zm (r := i64 v52) ?_
        refine zl (r := sl (L50.drop v52.toNat).length ((L50.drop v52.toNat).map (ik .u8))) (LOp.sla (f := (ik .u8)) und149 siz5 rfl rfl rfl hl51 (par_in hp41)) ?_
        refine ROps.d (r := str (strOfNums (L50.drop v52.toNat))) (fs := []) (Γ' := [⟨1, none⟩]) rfl rfl rfl (TOp.b2s (xs := (L50.drop v52.toNat)) pun22 pun5 pun9 rfl (fun _ _ => ReadAs.sl (by simp))) rfl ?_
        refine za (r := str (strOfNums (L50.drop v52.toNat))) ?_
        refine zN ?_
        refine RunC.nil_slot (Γ' := [⟨2, some (([] : List Int).map (ik .u8))⟩]) 10 0 rfl rfl rfl ?_
        refine RunC.ret ?_
        have hq := Option.some.inj h
        obtain ⟨hq0, hq⟩ := Prod.mk.inj hq
        subst q0
        subst q1
        exact bodyQ.mk (r' := tup [oref 0 2 0 (([] : List Int).length), str (strOfNums (L50.drop v52.toNat))]) [(0, 2)] (.inr rfl) rfl (show List.Nodup [0] from by decide) rfl rfl (Res.eq (Res.two rfl (RV.tmp rfl) (RV.tmp rfl)) (by rw [(show ([] : List Int).length = 0 from rfl)] <;> rfl)) (SelL.arr0 (f := (ik .u8)) (fun _ => rfl) rfl trivial)
noncomputable def x_internal_strconv_FormatInt_k2 (v3 : Int) : Option (ByteArray) :=
 none
noncomputable def x_internal_strconv_FormatInt_k1 (a0 : Int) : Option (ByteArray) :=
 olet (IntKind.u64.wrap a0) fun (x1 : Int) =>
 bsel (decide (a0 < 0)) (
  olet (IntKind.u64.wrap (0 - x1)) fun (x2 : Int) =>
  x_internal_strconv_FormatInt_k2 x2) (
  x_internal_strconv_FormatInt_k2 x1)
noncomputable def x_internal_strconv_FormatInt (a0 : Int) (a1 : Int) : Option (ByteArray) :=
 bsel (decide (a1 = 10)) (
  bsel (decide (0 ≤ a0)) (
   bsel (decide (a0 < 100)) (
    none) (
    x_internal_strconv_FormatInt_k1 a0)) (
   x_internal_strconv_FormatInt_k1 a0)) (
  olet (IntKind.u64.wrap a0) fun (x5 : Int) =>
  obind2 (x_internal_strconv_formatBits ([] : List Int) x5 a1 (decide (a0 < 0)) false) fun (r6 : ByteArray) (r7 : List Int) =>
  some r6)
theorem x_internal_strconv_FormatInt_ok (a0 : Int) (a1 : Int) (q0 : ByteArray) (h : x_internal_strconv_FormatInt a0 a1 = some q0) : Ev Tryz.prog 94 [i64 a0, i64 a1] [] (str q0) [] := by
 refine Ev.start Tryz.func94 rfl rfl 1 (τ := [(0, i64 a0), (1, i64 a1)]) rfl (Γ' := [⟨0, none⟩]) rfl (n := 109) rfl (g := 0) rfl (fun _ => rfl) ?_
 unfold x_internal_strconv_FormatInt at h
 refine zQ ?_
 refine za (r := str lit_99ba06bc) ?_
 refine zN ?_
 iterate 2 (refine RunC.seq ?_)
 rcases bsel_some h with ⟨hc1, h⟩ | ⟨hc1, h⟩
 ·refine RunC.regionW ?_
  refine zm (r := i64 a1) ?_
  refine zl (r := b true) (LOp.eqb (LOp.eql rfl rfl rfl) hc1) ?_
  refine zN ?_
  refine RunC.cond_true rfl rfl ?_
  refine RunC.seq ?_
  refine RunC.cutN (fun τ Γ =>  WeakLe τ [(0, i64 a0)] ∧ DeadLe Γ [⟨0, none⟩] ∧ x_internal_strconv_FormatInt_k1 a0 = some q0) ?_ ?_
  ·refine RunC.seq ?_
   rcases bsel_some h with ⟨hc2, h⟩ | ⟨hc2, h⟩
   ·rcases bsel_some h with ⟨hc3, h⟩ | ⟨hc3, h⟩
    ·refine RunC.regionW ?_
     refine zm (r := i64 a0) ?_
     refine zl (r := b true) (LOp.eqb (LOp.leq rfl rfl rfl) hc2) ?_
     refine zm (r := b true) ?_
     refine zm (r := i64 a0) ?_
     refine zl (r := b true) (LOp.eqb (LOp.lss rfl rfl rfl) hc3) ?_
     refine zl (r := b true) (LOp.pick_true rfl rfl rfl) ?_
     refine zN ?_
     refine RunC.cond_true rfl rfl ?_
     refine RunC.seq ?_
     cases h
    ·refine RunC.regionW ?_
     refine zm (r := i64 a0) ?_
     refine zl (r := b true) (LOp.eqb (LOp.leq rfl rfl rfl) hc2) ?_
     refine zm (r := b true) ?_
     refine zm (r := i64 a0) ?_
     refine zl (r := b false) (LOp.eqb (LOp.lss rfl rfl rfl) hc3) ?_
     refine zl (r := b false) (LOp.pick_true rfl rfl rfl) ?_
     refine zN ?_
     refine RunC.cond_false rfl rfl ?_
     refine RunC.skip ?_
     exact ⟨⟨aR, trivial⟩, ⟨⟨rfl, .inr rfl⟩, trivial⟩, h⟩
   ·refine RunC.regionW ?_
    refine zm (r := i64 a0) ?_
    refine zl (r := b false) (LOp.eqb (LOp.leq rfl rfl rfl) hc2) ?_
    refine zm (r := b false) ?_
    iterate 2 (refine ROps.s rfl rfl rfl ?_)
    refine zl (r := b false) (LOp.pick_false rfl rfl rfl) ?_
    refine zN ?_
    refine RunC.cond_false rfl rfl ?_
    refine RunC.skip ?_
    exact ⟨⟨aR, trivial⟩, ⟨⟨rfl, .inr rfl⟩, trivial⟩, h⟩
  ·rintro τ3 Γ3 ⟨hw3, hd3, h⟩
   refine RunC.wl hw3 hd3 ?_
   unfold x_internal_strconv_FormatInt_k1 at h
   refine zQ ?_
   refine ROps.d (r := optr 0 1 0) (fs := [(0, ((List.replicate 24 (0 : Int)).map (ik .u8)))]) (Γ' := [⟨1, some ((List.replicate 24 (0 : Int)).map (ik .u8))⟩]) rfl rfl rfl (TOp.alloc_o (l := ((List.replicate 24 (0 : Int)).map (ik .u8))) (g := ⟨0, none⟩) 0 rfl zer126 zok126 rfl) rfl ?_
   refine zN ?_
   refine RunC.seq ?_
   obtain ⟨x1, hx4, h⟩ := olet_some h
   refine RunC.regionW ?_
   refine zm (r := i64 a0) ?_
   refine zl (r := ik .u64 x1) (LOp.eqr (LOp.i2i (src := 2) (dst := 90) ⟨_, pun2⟩ pun90 rfl rfl) (congrArg (ik .u64) hx4)) ?_
   refine za (r := ik .u64 x1) ?_
   refine zN ?_
   refine RunC.seq ?_
   refine RunC.cutN (fun τ Γ => ∃ (v3 : Int), (List.replicate 24 (0 : Int)).length = 24 ∧ WeakLe τ [(0, i64 a0), (5, optr 0 1 0), (6, ik .u64 v3)] ∧ DeadLe Γ [⟨1, some ((List.replicate 24 (0 : Int)).map (ik .u8))⟩] ∧ x_internal_strconv_FormatInt_k2 v3 = some q0) ?_ ?_
   ·refine RunC.seq ?_
    rcases bsel_some h with ⟨hc5, h⟩ | ⟨hc5, h⟩
    ·refine RunC.regionW ?_
     refine zm (r := i64 a0) ?_
     refine zl (r := b true) (LOp.eqb (LOp.lss rfl rfl rfl) hc5) ?_
     refine zN ?_
     refine RunC.cond_true rfl rfl ?_
     obtain ⟨x2, hx6, h⟩ := olet_some h
     refine RunC.regionW ?_
     refine zm (r := ik .u64 x1) ?_
     refine zl (r := ik .u64 x2) (LOp.eqr (LOp.neg_int rfl rfl) (congrArg (ik .u64) hx6)) ?_
     refine za (r := ik .u64 x2) ?_
     refine zN ?_
     exact ⟨x2, List.length_replicate, ⟨aR, aR, aR, trivial⟩, ⟨⟨rfl, .inr rfl⟩, trivial⟩, h⟩
    ·refine RunC.regionW ?_
     refine zm (r := i64 a0) ?_
     refine zl (r := b false) (LOp.eqb (LOp.lss rfl rfl rfl) hc5) ?_
     refine zN ?_
     refine RunC.cond_false rfl rfl ?_
     refine RunC.skip ?_
     exact ⟨x1, List.length_replicate, ⟨aR, aR, aR, trivial⟩, ⟨⟨rfl, .inr rfl⟩, trivial⟩, h⟩
   ·rintro τ4 Γ4 ⟨v3, hl4, hw4, hd4, h⟩
    refine RunC.wl hw4 hd4 ?_
    unfold x_internal_strconv_FormatInt_k2 at h
    refine RunC.seq ?_
    cases h
 ·refine RunC.regionW ?_
  refine zm (r := i64 a1) ?_
  refine zl (r := b false) (LOp.eqb (LOp.eql rfl rfl rfl) hc1) ?_
  refine zN ?_
  refine RunC.cond_false rfl rfl ?_
  refine RunC.skip ?_
  refine RunC.seq ?_
  obtain ⟨x5, hx7, h⟩ := olet_some h
  obtain ⟨r6, r7, hf8, h⟩ := obind2_some h
  refine RunC.regionW ?_
  refine zm (r := i64 a0) ?_
  refine zl (r := ik .u64 x5) (LOp.eqr (LOp.i2i (src := 2) (dst := 90) ⟨_, pun2⟩ pun90 rfl rfl) (congrArg (ik .u64) hx7)) ?_
  refine zm (r := i64 a1) ?_
  refine zm (r := i64 a0) ?_
  refine zl (r := b (decide (a0 < 0))) (LOp.lss rfl rfl rfl) ?_
  refine ROps.d (r := tup [oref 0 1 0 r7.length, str r6]) (fs := [(0, (r7.map (ik .u8)))]) (Γ' := [⟨1, some (r7.map (ik .u8))⟩]) rfl rfl rfl (TOp.callBN (ls := [(r7.map (ik .u8))]) [0] (CallAs.func ent114 rfl rfl) (Bors.cons Bor.nilsl (Bors.cons (Bor.pure rfl) (Bors.cons (Bor.pure rfl) (Bors.cons (Bor.pure rfl) (Bors.cons (Bor.pure rfl) Bors.nil))))) rfl (x_internal_strconv_formatBits_ok ([] : List Int) x5 a1 (decide (a0 < 0)) false r6 r7 hf8) (and_all (lts0_map (f := (ik .u8)) (fun _ => rfl) _) rfl) (and_all (noss_map (f := (ik .u8)) (fun _ => rfl) _) rfl) rfl (by decide) (ns_of ⟨⟨_, rfl⟩, trivial⟩)) rfl ?_
  refine zm (r := tup [oref 0 1 0 r7.length, str r6]) ?_
  refine zl (r := oref 0 1 0 r7.length) (LOp.extract rfl rfl rfl) ?_
  refine zl (r := str r6) (LOp.extract rfl rfl rfl) ?_
  refine za (r := oref 0 1 0 r7.length) ?_
  refine za (r := str r6) ?_
  refine zN ?_
  refine RunC.wl (τ' := [(9, str r6)]) (Γ' := [⟨1, none⟩]) ⟨aR, trivial⟩ ⟨⟨rfl, .inl rfl⟩, trivial⟩ ?_
  refine zQ ?_
  refine zm (r := str r6) ?_
  refine za (r := str r6) ?_
  refine zN ?_
  refine RunC.ret ?_
  have hq := Option.some.inj h
  subst q0
  exact bodyQ.pure (.inr rfl) rfl (Res.one rfl (RV.tmp rfl))
noncomputable def x_strconv_FormatInt_16 (a0 : Int) (a1 : Int) : Option (ByteArray) :=
 obind (x_internal_strconv_FormatInt a0 a1) fun (r1 : ByteArray) =>
 some r1
theorem x_strconv_FormatInt_16_ok (a0 : Int) (a1 : Int) (q0 : ByteArray) (h : x_strconv_FormatInt_16 a0 a1 = some q0) : Ev Tryz.prog 79 [i64 a0, i64 a1] [] (str q0) [] := by
 refine Ev.start Tryz.func79 rfl rfl 0 (τ := [(0, i64 a0), (1, i64 a1)]) rfl (Γ' := []) rfl (n := 17) rfl (g := 0) rfl (fun _ => rfl) ?_
 unfold x_strconv_FormatInt_16 at h
 refine zQ ?_
 refine za (r := str lit_99ba06bc) ?_
 refine zN ?_
 refine RunC.seq ?_
 obtain ⟨r1, hf1, h⟩ := obind_some h
 refine RunC.regionW ?_
 refine zm (r := i64 a0) ?_
 refine zm (r := i64 a1) ?_
 refine ROps.d (r := str r1) (fs := []) (Γ' := []) rfl rfl rfl (TOp.callB (CallAs.func ent94 rfl rfl) (Bors.cons (Bor.pure rfl) (Bors.cons (Bor.pure rfl) Bors.nil)) rfl rfl (x_internal_strconv_FormatInt_ok a0 a1 r1 hf1)) rfl ?_
 refine za (r := str r1) ?_
 refine zN ?_
 refine RunC.ret ?_
 have hq := Option.some.inj h
 subst q0
 exact bodyQ.pure (.inr rfl) rfl (Res.one rfl (RV.tmp rfl))
noncomputable def x_strings_Repeat (a0 : ByteArray) (a1 : Int) : Option ByteArray :=
 need (decide (0 ≤ a1)) <|
 need (decide (a1 ≤ 9223372036854775807)) <|
 need (decide (a0.size * a1.toNat ≤ 140737488355328)) <|
 some ⟨(Go.Lib.repeatL a0.data.toList a1.toNat).toArray⟩
def rep_ren : Go.Shelf.Ren :=
{
 f := fun x =>
  match x with
  | 105 => 80
  | 212 => 95
  | 99 => 96
  | 165 => 97
  | 166 => 98
  | 170 => 99
  | 169 => 100
  | 263 => 115
  | 264 => 116
  | 206 => 117
  | 240 => 118
  | 241 => 119
  | 276 => 137
  | 277 => 138
  | n => n,
 t := fun x =>
  match x with
  | 9 => 9
  | 3 => 3
  | 4 => 4
  | 20 => 20
  | 0 => 0
  | 46 => 106
  | 109 => 107
  | 5 => 5
  | 72 => 112
  | 76 => 114
  | 51 => 79
  | 146 => 131
  | 53 => 90
  | 148 => 133
  | 70 => 110
  | 37 => 22
  | 75 => 99
  | 127 => 135
  | 164 => 152
  | 80 => 117
  | n => n,
 g := fun x =>
  have n := x;
  n }
theorem rep_lays : Go.Proofs.Lays.n105 Tryz.prog rep_ren :=
 {
  f99 := (Eq.trans Tryz.func96 (congrArg some (by kernel_rfl))),
  f105 := (Eq.trans Tryz.func80 (congrArg some (by kernel_rfl))),
  f165 := (Eq.trans Tryz.func97 (congrArg some (by kernel_rfl))),
  f166 := (Eq.trans Tryz.func98 (congrArg some (by kernel_rfl))),
  f169 := (Eq.trans Tryz.func100 (congrArg some (by kernel_rfl))),
  f170 := (Eq.trans Tryz.func99 (congrArg some (by kernel_rfl))),
  f206 := (Eq.trans Tryz.func117 (congrArg some (by kernel_rfl))),
  f212 := (Eq.trans Tryz.func95 (congrArg some (by kernel_rfl))),
  f240 := (Eq.trans Tryz.func118 (congrArg some (by kernel_rfl))),
  f241 := (Eq.trans Tryz.func119 (congrArg some (by kernel_rfl))),
  f263 := (Eq.trans Tryz.func115 (congrArg some (by kernel_rfl))),
  f264 := (Eq.trans Tryz.func116 (congrArg some (by kernel_rfl))),
  f276 := (Eq.trans Tryz.func137 (congrArg some (by kernel_rfl))),
  f277 := (Eq.trans Tryz.func138 (congrArg some (by kernel_rfl))),
  t0 := Tryz.underlying0,
  a0 := Tryz.isAgg0,
  z0 := Tryz.sizeOf0,
  v0 := Tryz.zeroValue0,
  t3 := Tryz.underlying3,
  a3 := Tryz.isAgg3,
  z3 := Tryz.sizeOf3,
  v3 := Tryz.zeroValue3,
  t4 := Tryz.underlying4,
  a4 := Tryz.isAgg4,
  z4 := Tryz.sizeOf4,
  v4 := Tryz.zeroValue4,
  t5 := Tryz.underlying5,
  a5 := Tryz.isAgg5,
  z5 := Tryz.sizeOf5,
  v5 := Tryz.zeroValue5,
  t9 := Tryz.underlying9,
  a9 := Tryz.isAgg9,
  z9 := Tryz.sizeOf9,
  v9 := Tryz.zeroValue9,
  t20 := Tryz.underlying20,
  a20 := Tryz.isAgg20,
  z20 := Tryz.sizeOf20,
  v20 := Tryz.zeroValue20,
  t37 := Tryz.underlying22,
  a37 := Tryz.isAgg22,
  z37 := Tryz.sizeOf22,
  v37 := Tryz.zeroValue22,
  t46 := Tryz.underlying106,
  a46 := Tryz.isAgg106,
  z46 := Tryz.sizeOf106,
  v46 := Tryz.zeroValue106,
  t51 := Tryz.underlying79,
  a51 := Tryz.isAgg79,
  z51 := Tryz.sizeOf79,
  v51 := Tryz.zeroValue79,
  t53 := Tryz.underlying90,
  a53 := Tryz.isAgg90,
  z53 := Tryz.sizeOf90,
  v53 := Tryz.zeroValue90,
  t70 := Tryz.underlying110,
  a70 := Tryz.isAgg110,
  z70 := Tryz.sizeOf110,
  v70 := Tryz.zeroValue110,
  t72 := Tryz.underlying112,
  a72 := Tryz.isAgg112,
  z72 := Tryz.sizeOf112,
  v72 := Tryz.zeroValue112,
  t75 := Tryz.underlying99,
  a75 := Tryz.isAgg99,
  z75 := Tryz.sizeOf99,
  v75 := Tryz.zeroValue99,
  t76 := Tryz.underlying114,
  a76 := Tryz.isAgg114,
  z76 := Tryz.sizeOf114,
  v76 := Tryz.zeroValue114,
  t109 := Tryz.underlying107,
  a109 := Tryz.isAgg107,
  z109 := Tryz.sizeOf107,
  v109 := Tryz.zeroValue107,
  t127 := Tryz.underlying135,
  a127 := Tryz.isAgg135,
  z127 := Tryz.sizeOf135,
  v127 := Tryz.zeroValue135,
  t146 := Tryz.underlying131,
  a146 := Tryz.isAgg131,
  z146 := Tryz.sizeOf131,
  v146 := Tryz.zeroValue131,
  t148 := Tryz.underlying133,
  a148 := Tryz.isAgg133,
  z148 := Tryz.sizeOf133,
  v148 := Tryz.zeroValue133,
  t164 := Tryz.underlying152,
  a164 := Tryz.isAgg152,
  z164 := Tryz.sizeOf152,
  v164 := Tryz.zeroValue152,
  mixed := (by kernel_rfl) }
theorem rep_extra : Go.Proofs.Builder.Extra Tryz.prog rep_ren where
 sizeBuilder := by kernel_rfl
 liesBuilder := by kernel_rfl
 t5 := Tryz.underlying5
 a5 := Tryz.isAgg5
 z5 := Tryz.sizeOf5
 v5 := Tryz.zeroValue5
 infoByte := by kernel_rfl
 cellsByte := by kernel_rfl
 sizeByte := by kernel_rfl
 neB5 := by decide
theorem x_strings_Repeat_ok (a0 : ByteArray) (a1 : Int) (q0 : ByteArray) (h : x_strings_Repeat a0 a1 = some q0) : Ev Tryz.prog 80 [str a0, i64 a1] [] (str q0) [] := by
 unfold x_strings_Repeat at h
 obtain ⟨h1, k1⟩ := need_some h
 obtain ⟨h2, k2⟩ := need_some k1
 obtain ⟨h3, k3⟩ := need_some k2
 have h1 := of_decide_eq_true h1
 have h2 := of_decide_eq_true h2
 have h3 := of_decide_eq_true h3
 have hq := Option.some.inj k3
 subst hq
 refine Ev.ofGrow fun S w vs hs ha => ?_
 obtain ⟨vl⟩ := vs
 match vl, ha with
 | [v0, v1], ha =>
  simp only [VL, V] at ha
  obtain ⟨rfl, rfl, _⟩ := ha
  have e : (Value.int .i64 a1) = .int .i64 (a1.toNat : Int) := by rw [Int.toNat_of_nonneg h1]
  rw [e]
  refine (Go.Proofs.Any.strings_Repeat rep_lays rep_extra a0 a1.toNat w (by omega) h3).mono ?_
  rintro e w' ⟨rfl, hB⟩
  exact ⟨_, rfl, by simp only [V], hB.size, fun k hk => hB.block k hk, hB.os, hB.tape, hB.output⟩
 | [], ha => simp only [VL] at ha
 | [_], ha => simp only [VL] at ha; exact ha.2.elim
 | _ :: _ :: _ :: _, ha => simp only [VL] at ha; exact ha.2.2.elim
noncomputable def i_digitsOf (a0 : F) : Option (ByteArray) :=
 obind (i_BitsOf a0) fun (r1 : Int) =>
 obind (x_strconv_FormatInt_16 r1 16) fun (r2 : ByteArray) =>
 olet (IntKind.i64.wrap (8 - (r2.size : Int))) fun (x3 : Int) =>
 obind (x_strings_Repeat lit_53dfb3bc x3) fun (r4 : ByteArray) =>
 obind (cats? r4 r2) fun (t5 : ByteArray) =>
 some t5
theorem i_digitsOf_ok (a0 : F) (q0 : ByteArray) (h : i_digitsOf a0 = some q0) : Ev Tryz.prog 48 [f32 a0] [] (str q0) [] := by
 refine Ev.start Tryz.func48 rfl rfl 0 (τ := [(0, f32 a0)]) rfl (Γ' := []) rfl (n := 27) rfl (g := 0) rfl (fun _ => rfl) ?_
 unfold i_digitsOf at h
 refine zQ ?_
 refine za (r := str lit_99ba06bc) ?_
 refine zN ?_
 refine RunC.seq ?_
 obtain ⟨r1, hf1, h⟩ := obind_some h
 obtain ⟨r2, hf2, h⟩ := obind_some h
 refine RunC.regionW ?_
 refine zm (r := f32 a0) ?_
 refine ROps.d (r := i64 r1) (fs := []) (Γ' := []) rfl rfl rfl (TOp.callB (CallAs.func ent21 rfl rfl) (Bors.cons (Bor.pure rfl) Bors.nil) rfl rfl (i_BitsOf_ok a0 r1 hf1)) rfl ?_
 refine ROps.d (r := str r2) (fs := []) (Γ' := []) rfl rfl rfl (TOp.callB (CallAs.func ent79 rfl rfl) (Bors.cons (Bor.pure rfl) (Bors.cons (Bor.pure rfl) Bors.nil)) rfl rfl (x_strconv_FormatInt_16_ok r1 16 r2 hf2)) rfl ?_
 refine za (r := str r2) ?_
 refine zN ?_
 refine RunC.seq ?_
 obtain ⟨x3, hx3, h⟩ := olet_some h
 obtain ⟨r4, hf4, h⟩ := obind_some h
 obtain ⟨t5, hs5, h⟩ := obind_some h
 refine RunC.regionW ?_
 refine zm (r := str r2) ?_
 refine zl (r := i64 (r2.size : Int)) (LOp.len_str und9 rfl rfl) ?_
 refine zl (r := i64 x3) (LOp.eqr (LOp.sub rfl rfl rfl) (congrArg (ik .i64) hx3)) ?_
 refine ROps.d (r := str r4) (fs := []) (Γ' := []) rfl rfl rfl (TOp.callB (CallAs.func ent80 rfl rfl) (Bors.cons (Bor.pure rfl) (Bors.cons (Bor.pure rfl) Bors.nil)) rfl rfl (x_strings_Repeat_ok lit_53dfb3bc x3 r4 hf4)) rfl ?_
 refine zm (r := str r2) ?_
 refine zl (r := str t5) (LOp.cats rfl rfl rfl hs5) ?_
 refine za (r := str t5) ?_
 refine zN ?_
 refine RunC.ret ?_
 have hq := Option.some.inj h
 subst q0
 exact bodyQ.pure (.inr rfl) rfl (Res.one rfl (RV.tmp rfl))
noncomputable def x_strings_Join (a0 : List ByteArray) (a1 : ByteArray) : Option ByteArray :=
 need (decide (0 < a0.length)) <|
 need (decide (a0.length ≤ 140737488355328)) <|
 need (decide ((Go.Lib.join (a0.map (·.data.toList)) a1.data.toList).length ≤ 140737488355328)) <|
 some ⟨(Go.Lib.join (a0.map (·.data.toList)) a1.data.toList).toArray⟩
def join_ren : Go.Shelf.Ren :=
{
 f := fun x =>
  match x with
  | 156 => 81
  | 165 => 97
  | 166 => 98
  | 169 => 100
  | 240 => 118
  | 241 => 119
  | 276 => 137
  | 277 => 138
  | n => n,
 t := fun x =>
  match x with
  | 31 => 69
  | 9 => 9
  | 3 => 3
  | 4 => 4
  | 0 => 0
  | 20 => 20
  | 72 => 112
  | 76 => 114
  | 70 => 110
  | 37 => 22
  | 75 => 99
  | 127 => 135
  | 164 => 152
  | 5 => 5
  | 80 => 117
  | n => n,
 g := fun x =>
  have n := x;
  n }
theorem join_lays : Go.Proofs.Lays.n156 Tryz.prog join_ren :=
 {
  f156 := (Eq.trans Tryz.func81 (congrArg some (by kernel_rfl))),
  f165 := (Eq.trans Tryz.func97 (congrArg some (by kernel_rfl))),
  f166 := (Eq.trans Tryz.func98 (congrArg some (by kernel_rfl))),
  f169 := (Eq.trans Tryz.func100 (congrArg some (by kernel_rfl))),
  f240 := (Eq.trans Tryz.func118 (congrArg some (by kernel_rfl))),
  f241 := (Eq.trans Tryz.func119 (congrArg some (by kernel_rfl))),
  f276 := (Eq.trans Tryz.func137 (congrArg some (by kernel_rfl))),
  f277 := (Eq.trans Tryz.func138 (congrArg some (by kernel_rfl))),
  t0 := Tryz.underlying0,
  a0 := Tryz.isAgg0,
  z0 := Tryz.sizeOf0,
  v0 := Tryz.zeroValue0,
  t3 := Tryz.underlying3,
  a3 := Tryz.isAgg3,
  z3 := Tryz.sizeOf3,
  v3 := Tryz.zeroValue3,
  t4 := Tryz.underlying4,
  a4 := Tryz.isAgg4,
  z4 := Tryz.sizeOf4,
  v4 := Tryz.zeroValue4,
  t9 := Tryz.underlying9,
  a9 := Tryz.isAgg9,
  z9 := Tryz.sizeOf9,
  v9 := Tryz.zeroValue9,
  t20 := Tryz.underlying20,
  a20 := Tryz.isAgg20,
  z20 := Tryz.sizeOf20,
  v20 := Tryz.zeroValue20,
  t31 := Tryz.underlying69,
  a31 := Tryz.isAgg69,
  z31 := Tryz.sizeOf69,
  v31 := Tryz.zeroValue69,
  t37 := Tryz.underlying22,
  a37 := Tryz.isAgg22,
  z37 := Tryz.sizeOf22,
  v37 := Tryz.zeroValue22,
  t70 := Tryz.underlying110,
  a70 := Tryz.isAgg110,
  z70 := Tryz.sizeOf110,
  v70 := Tryz.zeroValue110,
  t72 := Tryz.underlying112,
  a72 := Tryz.isAgg112,
  z72 := Tryz.sizeOf112,
  v72 := Tryz.zeroValue112,
  t75 := Tryz.underlying99,
  a75 := Tryz.isAgg99,
  z75 := Tryz.sizeOf99,
  v75 := Tryz.zeroValue99,
  t76 := Tryz.underlying114,
  a76 := Tryz.isAgg114,
  z76 := Tryz.sizeOf114,
  v76 := Tryz.zeroValue114,
  t127 := Tryz.underlying135,
  a127 := Tryz.isAgg135,
  z127 := Tryz.sizeOf135,
  v127 := Tryz.zeroValue135,
  t164 := Tryz.underlying152,
  a164 := Tryz.isAgg152,
  z164 := Tryz.sizeOf152,
  v164 := Tryz.zeroValue152,
  mixed := (by kernel_rfl) }
theorem join_extra : Go.Proofs.Builder.Extra Tryz.prog join_ren where
 sizeBuilder := by kernel_rfl
 liesBuilder := by kernel_rfl
 t5 := Tryz.underlying5
 a5 := Tryz.isAgg5
 z5 := Tryz.sizeOf5
 v5 := Tryz.zeroValue5
 infoByte := by kernel_rfl
 cellsByte := by kernel_rfl
 sizeByte := by kernel_rfl
 neB5 := by decide
theorem x_strings_Join_ok (a0 : List ByteArray) (a1 : ByteArray) (q0 : ByteArray) (h : x_strings_Join a0 a1 = some q0) : Ev Tryz.prog 81 [sl a0.length (a0.map str), str a1] [] (str q0) [] := by
 unfold x_strings_Join at h
 obtain ⟨h1, h⟩ := need_some h
 obtain ⟨h2, h⟩ := need_some h
 obtain ⟨h3, h⟩ := need_some h
 have h1 := of_decide_eq_true h1
 have h2 := of_decide_eq_true h2
 have h3 := of_decide_eq_true h3
 have hq := Option.some.inj h
 subst hq
 refine Ev.ofGrow fun S w vs hs ha => ?_
 obtain ⟨vl⟩ := vs
 match vl, ha with
 | [v0, v1], ha =>
  simp only [VL] at ha
  obtain ⟨ha0, ha1, _⟩ := ha
  simp only [V] at ha0 ha1
  subst ha1
  obtain ⟨a, cap, rfl, hcap, hl⟩ := ha0
  rcases hl with hl | ⟨b, off, cs, rfl, hb, hv⟩
  ·have : a0 = [] := by simpa using hl
   subst this; simp at h1
  ·obtain ⟨T, m, hT⟩ := hs b cs hb
   have hcell : ∀ (j : Nat) x, a0[j]? = some x → w.cell? ⟨b, off + j, none⟩ = some (.string x) := fun j x hj => by
    obtain ⟨v, e1, e2⟩ := hv.get (i := j) (a := str x) (by rw [List.getElem?_map, hj]; rfl)
    simp only [V] at e2
    subst e2
    rw [List.getElem?_drop] at e1
    simp only [World.cell?, hT]
    simpa using e1
   refine (Go.Proofs.Any.strings_Join join_lays join_extra b off cap a0 a1 w hcell (Array.getElem?_eq_some_iff.1 hT).1 h2 hcap h3).mono ?_
   rintro e w' ⟨rfl, hB⟩
   exact ⟨_, rfl, by simp only [V], hB.size, fun k hk => hB.block k hk, hB.os, hB.tape, hB.output⟩
 | [], ha => simp only [VL] at ha
 | [_], ha => simp only [VL] at ha; exact ha.2.elim
 | _ :: _ :: _ :: _, ha => simp only [VL] at ha; exact ha.2.2.elim
noncomputable def i_joined (a0 : List ByteArray) : Option (ByteArray) :=
 bsel (decide ((a0.length : Int) = 0)) (
  some lit_5ac87db9) (
  obind (x_strings_Join a0 lit_be717853) fun (r1 : ByteArray) =>
  some r1)
theorem i_joined_ok (a0 : List ByteArray) (q0 : ByteArray) (h : i_joined a0 = some q0) : Ev Tryz.prog 49 [sl a0.length (a0.map str)] [] (str q0) [] := by
 refine Ev.start Tryz.func49 rfl rfl 0 (τ := [(0, sl a0.length (a0.map str))]) rfl (Γ' := []) rfl (n := 17) rfl (g := 0) rfl (fun _ => rfl) ?_
 unfold i_joined at h
 refine zQ ?_
 refine za (r := str lit_99ba06bc) ?_
 refine zN ?_
 iterate 2 (refine RunC.seq ?_)
 rcases bsel_some h with ⟨hc1, h⟩ | ⟨hc1, h⟩
 ·refine RunC.regionW ?_
  refine zm (r := sl a0.length (a0.map str)) ?_
  refine zl (r := i64 (a0.length : Int)) (LOp.len_sl und69 rfl rfl) ?_
  refine zl (r := b true) (LOp.eqb (LOp.eql rfl rfl rfl) hc1) ?_
  refine zN ?_
  refine RunC.cond_true rfl rfl ?_
  refine zQ ?_
  refine za (r := str lit_5ac87db9) ?_
  refine zN ?_
  refine RunC.ret ?_
  have hq := Option.some.inj h
  subst q0
  exact bodyQ.pure (.inr rfl) rfl (Res.one rfl (RV.tmp rfl))
 ·refine RunC.regionW ?_
  refine zm (r := sl a0.length (a0.map str)) ?_
  refine zl (r := i64 (a0.length : Int)) (LOp.len_sl und69 rfl rfl) ?_
  refine zl (r := b false) (LOp.eqb (LOp.eql rfl rfl rfl) hc1) ?_
  refine zN ?_
  refine RunC.cond_false rfl rfl ?_
  refine RunC.skip ?_
  refine RunC.seq ?_
  obtain ⟨r1, hf2, h⟩ := obind_some h
  refine RunC.regionW ?_
  refine zm (r := sl a0.length (a0.map str)) ?_
  refine ROps.d (r := str r1) (fs := []) (Γ' := []) rfl rfl rfl (TOp.callB (CallAs.func ent81 rfl rfl) (Bors.cons (Bor.sl (fun _ => rfl)) (Bors.cons (Bor.pure rfl) Bors.nil)) rfl rfl (x_strings_Join_ok a0 lit_be717853 r1 hf2)) rfl ?_
  refine za (r := str r1) ?_
  refine zN ?_
  refine RunC.ret ?_
  have hq := Option.some.inj h
  subst q0
  exact bodyQ.pure (.inr rfl) rfl (Res.one rfl (RV.tmp rfl))
noncomputable def i_numbersText_b1 (a0 : List F) (L3 : List ByteArray) (v4 : Int) : Option (LR ((List ByteArray) × Int) ((List ByteArray)) (ByteArray)) :=
 bsel (decide (v4 < (a0.length : Int))) (
  obind (at? a0 v4) fun (e5 : F) =>
  obind (i_digitsOf e5) fun (r6 : ByteArray) =>
  need (apok 16 L3.length 1) <|
  olet (IntKind.i64.wrap (v4 + 1)) fun (x7 : Int) =>
  some (LR.next ((L3 ++ ([r6] : List ByteArray)), x7))) (
  some (LR.out L3))
noncomputable def i_numbersText_s1 (a0 : List F) : ((List ByteArray) × Int) → Option (LR ((List ByteArray) × Int) ((List ByteArray)) (ByteArray)) := fun s => i_numbersText_b1 a0 s.1 s.2
noncomputable def i_numbersText_k1 (L10 : List ByteArray) : Option (ByteArray) :=
 obind (i_joined L10) fun (r11 : ByteArray) =>
 some r11
noncomputable def i_numbersText (a0 : List F) : Option (ByteArray) :=
 obind (loopM (i_numbersText_s1 a0) (([] : List ByteArray), 0)) fun z => osum z (fun e => i_numbersText_k1 e) (fun r => some r)
theorem i_numbersText_ok (a0 : List F) (q0 : ByteArray) (h : i_numbersText a0 = some q0) : Ev Tryz.prog 68 [(sFc a0)] [] (str q0) [] := by
 refine Ev.start Tryz.func68 rfl rfl 2 (τ := [(0, (sFc a0))]) rfl (Γ' := [⟨0, none⟩, ⟨0, none⟩]) rfl (n := 43) rfl (g := 0) rfl (fun _ => rfl) ?_
 unfold i_numbersText at h
 refine zQ ?_
 refine za (r := str lit_99ba06bc) ?_
 refine zN ?_
 refine zQ ?_
 refine ROps.d (r := oref 0 1 0 0) (fs := [(0, (([] : List ByteArray).map str))]) (Γ' := [⟨1, some (([] : List ByteArray).map str)⟩, ⟨0, none⟩]) rfl rfl rfl (TOp.buildSlice_o (g := ⟨0, none⟩) (za := str lit_99ba06bc) (qs := []) 0 rfl und69 siz9 zer9 rfl zel9 rfl rfl trivial rfl) rfl ?_
 refine za (r := oref 0 1 0 0) ?_
 refine zN ?_
 refine RunC.seq ?_
 refine zQ ?_
 refine zm (r := (sFc a0)) ?_
 refine zl (r := i64 (a0.length : Int)) (LOp.len_sl und52 rfl rfl) ?_
 refine zm (r := i64 0) ?_
 refine zN ?_
 obtain ⟨z2, hz_2, h⟩ := obind_some h
 refine RunC.cutN (fun τ Γ => ∃ (L10 : List ByteArray) (u8 : Nat) (u9 : Nat), WeakLe τ [(3, oref 0 u8 0 L10.length)] ∧ DeadLe Γ [⟨u8, some (L10.map str)⟩, ⟨u9, none⟩] ∧ z2 = .inl L10) ?_ ?_
 ·refine RunC.block (RunC.loop (RunL.loopM (x := z2) (i_numbersText_s1 a0) (fun (s : (List ByteArray) × Int) τ Γ => ∃ (u1 : Nat) (u2 : Nat), WeakLe τ [(3, oref 0 u1 0 s.1.length), (7, (sFc a0)), (8, i64 (a0.length : Int)), (9, i64 s.2)] ∧ DeadLe Γ [⟨u1, some (s.1.map str)⟩, ⟨u2, none⟩]) ?_ _ _ _ hz_2 ⟨1, 0, ⟨aR, aR, aR, aR, trivial⟩, ⟨⟨rfl, .inr rfl⟩, ⟨rfl, .inl rfl⟩, trivial⟩⟩))
  rintro ⟨L3, v4⟩ τ2 Γ2 y2_ ⟨u1, u2, hw2, hd2⟩ h2_ ho2 hr2
  refine RunC.wl (τ' := [(3, oref 0 u1 0 L3.length), (7, (sFc a0)), (8, i64 (a0.length : Int)), (9, i64 v4)]) (Γ' := [⟨u1, some (L3.map str)⟩, ⟨u2, none⟩]) hw2 hd2 ?_
  replace h2_ : i_numbersText_b1 a0 L3 v4 = some y2_ := h2_
  unfold i_numbersText_b1 at h2_
  refine RunC.seq ?_
  rcases bsel_some h2_ with ⟨hc1, h2_⟩ | ⟨hc1, h2_⟩
  ·refine RunC.regionW ?_
   refine zl (r := b true) (LOp.eqb (LOp.lss rfl rfl rfl) hc1) ?_
   refine zN ?_
   refine RunC.seq ?_
   refine RunC.cond_true rfl rfl ?_
   refine RunC.skip ?_
   refine RunC.seq ?_
   refine RunC.block ?_
   refine RunC.seq ?_
   obtain ⟨e5, he2, h2_⟩ := obind_some h2_
   refine RunC.regionW ?_
   refine zl (r := ptr [f32 e5]) (LOp.le (LOp.ix (f := f32) und52 siz28 rfl rfl rfl rfl he2) ALe.ptr) ?_
   refine zl (r := f32 e5) (LOp.load1 agg28 rfl rfl) ?_
   refine za (r := f32 e5) ?_
   refine zN ?_
   obtain ⟨r6, hf3, h2_⟩ := obind_some h2_
   obtain ⟨hm4, h2_⟩ := need_some h2_
   refine RunC.regionW ?_
   refine zm (r := oref 0 u1 0 L3.length) ?_
   refine zm (r := f32 e5) ?_
   refine ROps.d (r := str r6) (fs := []) (Γ' := [⟨u1, some (L3.map str)⟩, ⟨u2, none⟩]) rfl rfl rfl (TOp.callB (CallAs.func ent48 rfl rfl) (Bors.cons (Bor.pure rfl) Bors.nil) rfl rfl (i_digitsOf_ok e5 r6 hf3)) rfl ?_
   refine ROps.d (r := oref 1 (u2 + 1) 0 1) (fs := [(1, (([r6] : List ByteArray).map str))]) (Γ' := [⟨u1, some (L3.map str)⟩, ⟨(u2 + 1), some (([r6] : List ByteArray).map str)⟩]) rfl rfl rfl (TOp.buildSlice_o (g := ⟨u2, none⟩) (za := str lit_99ba06bc) (qs := [(0, [str r6])]) 1 rfl und69 siz9 zer9 rfl zel9 rfl rfl ⟨rfl, ⟨_, ALe.refl _, rfl⟩, trivial⟩ rfl) rfl ?_
   refine ROps.app (f := str) (xs := L3) (ys := ([r6] : List ByteArray)) (Γ' := [⟨(u1 + 1), some ((L3 ++ ([r6] : List ByteArray)).map str)⟩, ⟨(u2 + 1), some (([r6] : List ByteArray).map str)⟩]) rfl pun69 inf9 rfl rfl rfl rfl rfl rfl rfl rfl rfl (by simp) (ReadAs.own rfl (by simp)) (ones_map (fun _ => rfl)) (ap_by hm4) (ap_mx hm4) rfl ?_
   refine za (r := oref 0 (u1 + 1) 0 (L3.length + 1)) ?_
   refine zN ?_
   refine RunC.wl (τ' := [(3, oref 0 (u1 + 1) 0 (L3.length + 1)), (7, (sFc a0)), (8, i64 (a0.length : Int)), (9, i64 v4)]) (Γ' := [⟨(u1 + 1), some ((L3 ++ ([r6] : List ByteArray)).map str)⟩, ⟨(u2 + 1), none⟩]) ⟨aR, aR, aR, aR, trivial⟩ ⟨⟨rfl, .inr rfl⟩, ⟨rfl, .inl rfl⟩, trivial⟩ ?_
   obtain ⟨x7, hx5, h2_⟩ := olet_some h2_
   refine RunC.regionW ?_
   refine zl (r := i64 x7) (LOp.eqr (LOp.add rfl rfl rfl) (congrArg (ik .i64) hx5)) ?_
   refine zm (r := i64 x7) ?_
   refine zN ?_
   cases Option.some.inj h2_
   exact ⟨_, rfl, (u1 + 1), (u2 + 1), ⟨(ALe.eq (by rw [(app_len rfl rfl)] <;> rfl)), aR, aR, aR, trivial⟩, ⟨⟨rfl, .inr rfl⟩, ⟨rfl, .inl rfl⟩, trivial⟩⟩
  ·refine RunC.regionW ?_
   refine zl (r := b false) (LOp.eqb (LOp.lss rfl rfl rfl) hc1) ?_
   refine zN ?_
   refine RunC.seq ?_
   refine RunC.cond_false rfl rfl ?_
   refine RunC.exit ?_
   cases Option.some.inj h2_
   have hx := ho2 _ rfl
   exact ⟨L3, u1, u2, ⟨aR, trivial⟩, ⟨⟨rfl, .inr rfl⟩, ⟨rfl, .inl rfl⟩, trivial⟩, hx⟩
 ·rintro τ3 Γ3 ⟨L10, u8, u9, hw3, hd3, rfl⟩
  refine RunC.wl hw3 hd3 ?_
  replace h : i_numbersText_k1 L10 = some q0 := h
  unfold i_numbersText_k1 at h
  refine RunC.seq ?_
  obtain ⟨r11, hf6, h⟩ := obind_some h
  refine RunC.regionW ?_
  refine zm (r := oref 0 u8 0 L10.length) ?_
  refine ROps.d (r := str r11) (fs := []) (Γ' := [⟨u8, some (L10.map str)⟩, ⟨u9, none⟩]) rfl rfl rfl (TOp.callB (CallAs.func ent49 rfl rfl) (Bors.cons (Bor.own (f := str) (fun _ => rfl) rfl rfl) Bors.nil) rfl rfl (i_joined_ok L10 r11 hf6)) rfl ?_
  refine za (r := str r11) ?_
  refine zN ?_
  refine RunC.ret ?_
  have hq := Option.some.inj h
  subst q0
  exact bodyQ.pure (.inr rfl) rfl (Res.one rfl (RV.tmp rfl))
noncomputable def i_NumbersText (a0 : List F) : Option (ByteArray × Bool) :=
 obind (i_isShort_float32 a0) fun (r1 : Bool) =>
 bsel r1 (
  obind (i_numbersText a0) fun (r2 : ByteArray) =>
  some (r2, true)) (
  some (lit_99ba06bc, false))
theorem i_NumbersText_ok (a0 : List F) (q0 : ByteArray) (q1 : Bool) (h : i_NumbersText a0 = some (q0, q1)) : Ev Tryz.prog 31 [(sFc a0)] [] (tup [str q0, b q1]) [] := by
 refine Ev.start Tryz.func31 rfl rfl 0 (τ := [(0, (sFc a0))]) rfl (Γ' := []) rfl (n := 19) rfl (g := 0) rfl (fun _ => rfl) ?_
 unfold i_NumbersText at h
 refine zQ ?_
 refine za (r := str lit_99ba06bc) ?_
 refine za (r := b false) ?_
 refine zN ?_
 iterate 2 (refine RunC.seq ?_)
 obtain ⟨r1, hf1, h⟩ := obind_some h
 rcases bsel_some h with ⟨hc2, h⟩ | ⟨hc2, h⟩
 ·refine RunC.regionW ?_
  refine zm (r := (sFc a0)) ?_
  refine ROps.d (r := b true) (fs := []) (Γ' := []) rfl rfl rfl (TOp.eqb (TOp.callB (CallAs.func ent66 rfl rfl) (Bors.cons (Bor.sl (fun _ => rfl)) Bors.nil) rfl rfl (i_isShort_float32_ok a0 r1 hf1)) hc2) rfl ?_
  refine zl (r := b false) (LOp.eqb (LOp.not rfl rfl) rfl) ?_
  refine zN ?_
  refine RunC.cond_false rfl rfl ?_
  refine RunC.skip ?_
  refine RunC.seq ?_
  obtain ⟨r2, hf3, h⟩ := obind_some h
  refine RunC.regionW ?_
  refine zm (r := (sFc a0)) ?_
  refine ROps.d (r := str r2) (fs := []) (Γ' := []) rfl rfl rfl (TOp.callB (CallAs.func ent68 rfl rfl) (Bors.cons (Bor.sl (fun _ => rfl)) Bors.nil) rfl rfl (i_numbersText_ok a0 r2 hf3)) rfl ?_
  refine za (r := str r2) ?_
  refine za (r := b true) ?_
  refine zN ?_
  refine RunC.ret ?_
  have hq := Option.some.inj h
  obtain ⟨hq0, hq⟩ := Prod.mk.inj hq
  subst q0
  subst q1
  exact bodyQ.pure (.inr rfl) rfl (Res.two rfl (RV.tmp rfl) (RV.tmp rfl))
 ·refine RunC.regionW ?_
  refine zm (r := (sFc a0)) ?_
  refine ROps.d (r := b false) (fs := []) (Γ' := []) rfl rfl rfl (TOp.eqb (TOp.callB (CallAs.func ent66 rfl rfl) (Bors.cons (Bor.sl (fun _ => rfl)) Bors.nil) rfl rfl (i_isShort_float32_ok a0 r1 hf1)) hc2) rfl ?_
  refine zl (r := b true) (LOp.eqb (LOp.not rfl rfl) rfl) ?_
  refine zN ?_
  refine RunC.cond_true rfl rfl ?_
  refine zQ ?_
  refine za (r := str lit_99ba06bc) ?_
  refine za (r := b false) ?_
  refine zN ?_
  refine RunC.ret ?_
  have hq := Option.some.inj h
  obtain ⟨hq0, hq⟩ := Prod.mk.inj hq
  subst q0
  subst q1
  exact bodyQ.pure (.inr rfl) rfl (Res.two rfl (RV.tmp rfl) (RV.tmp rfl))
noncomputable def x_internal_stringslite_IndexByte (a0 : ByteArray) (a1 : Int) : Option (Int) :=
 some (idxB a0 a1)
theorem x_internal_stringslite_IndexByte_ok (a0 : ByteArray) (a1 : Int) (q0 : Int) (h : x_internal_stringslite_IndexByte a0 a1 = some q0) : Ev Tryz.prog 140 [str a0, ik .u8 a1] [] (i64 q0) [] := by
 refine Ev.start Tryz.func140 rfl rfl 0 (τ := [(0, str a0), (1, ik .u8 a1)]) rfl (Γ' := []) rfl (n := 17) rfl (g := 0) rfl (fun _ => rfl) ?_
 unfold x_internal_stringslite_IndexByte at h
 refine zQ ?_
 refine za (r := i64 0) ?_
 refine zN ?_
 refine zQ ?_
 refine zm (r := str a0) ?_
 refine zm (r := ik .u8 a1) ?_
 refine zl (r := i64 (idxB a0 a1)) (LOp.idxB ext149 rfl rfl rfl) ?_
 refine za (r := i64 (idxB a0 a1)) ?_
 refine zN ?_
 refine RunC.ret ?_
 have hq := Option.some.inj h
 subst q0
 exact bodyQ.pure (.inr rfl) rfl (Res.one rfl (RV.tmp rfl))
noncomputable def x_internal_stringslite_Index (a0 : ByteArray) (a1 : ByteArray) : Option (Int) :=
 bsel (decide ((a1.size : Int) = 0)) (
  some 0) (
  bsel (eqs a1 a0) (
   some 0) (
   bsel (decide ((a1.size : Int) = 1)) (
    obind (sat? a1 0) fun (e1 : Int) =>
    obind (x_internal_stringslite_IndexByte a0 e1) fun (r2 : Int) =>
    some r2) (
    bsel (decide ((a0.size : Int) ≤ (a1.size : Int))) (
     some (-1)) (
     none))))
theorem x_internal_stringslite_Index_ok (a0 : ByteArray) (a1 : ByteArray) (q0 : Int) (h : x_internal_stringslite_Index a0 a1 = some q0) : Ev Tryz.prog 123 [str a0, str a1] [] (i64 q0) [] := by
 refine Ev.start Tryz.func123 rfl rfl 0 (τ := [(0, str a0), (1, str a1)]) rfl (Γ' := []) rfl (n := 287) rfl (g := 0) rfl (fun _ => rfl) ?_
 unfold x_internal_stringslite_Index at h
 refine zQ ?_
 refine za (r := i64 0) ?_
 refine zN ?_
 refine zQ ?_
 refine zm (r := str a1) ?_
 refine zl (r := i64 (a1.size : Int)) (LOp.len_str und9 rfl rfl) ?_
 refine za (r := i64 (a1.size : Int)) ?_
 refine zN ?_
 refine RunC.seq ?_
 refine RunC.block ?_
 refine RunC.seq ?_
 rcases bsel_some h with ⟨hc1, h⟩ | ⟨hc1, h⟩
 ·refine RunC.regionW ?_
  refine zm (r := i64 (a1.size : Int)) ?_
  refine zl (r := b true) (LOp.eqb (LOp.eql rfl rfl rfl) hc1) ?_
  refine zm (r := b true) ?_
  iterate 3 (refine ROps.s rfl rfl rfl ?_)
  refine zl (r := b true) (LOp.pick_true rfl rfl rfl) ?_
  refine za (r := b true) ?_
  refine zN ?_
  refine RunC.cond_true rfl rfl ?_
  refine zQ ?_
  refine za (r := i64 0) ?_
  refine zN ?_
  refine RunC.ret ?_
  have hq := Option.some.inj h
  subst q0
  exact bodyQ.pure (.inr rfl) rfl (Res.one rfl (RV.tmp rfl))
 ·rcases bsel_some h with ⟨hc2, h⟩ | ⟨hc2, h⟩
  ·refine RunC.regionW ?_
   refine zm (r := i64 (a1.size : Int)) ?_
   refine zl (r := b false) (LOp.eqb (LOp.eql rfl rfl rfl) hc1) ?_
   refine zm (r := b false) ?_
   refine zm (r := str a1) ?_
   refine zm (r := str a0) ?_
   refine zl (r := b true) (LOp.eqb (LOp.eqs rfl rfl rfl) hc2) ?_
   refine zl (r := b true) (LOp.pick_false rfl rfl rfl) ?_
   refine za (r := b true) ?_
   refine zN ?_
   refine RunC.cond_true rfl rfl ?_
   refine zQ ?_
   refine za (r := i64 0) ?_
   refine zN ?_
   refine RunC.ret ?_
   have hq := Option.some.inj h
   subst q0
   exact bodyQ.pure (.inr rfl) rfl (Res.one rfl (RV.tmp rfl))
  ·refine RunC.regionW ?_
   refine zm (r := i64 (a1.size : Int)) ?_
   refine zl (r := b false) (LOp.eqb (LOp.eql rfl rfl rfl) hc1) ?_
   refine zm (r := b false) ?_
   refine zm (r := str a1) ?_
   refine zm (r := str a0) ?_
   refine zl (r := b false) (LOp.eqb (LOp.eqs rfl rfl rfl) hc2) ?_
   refine zl (r := b false) (LOp.pick_false rfl rfl rfl) ?_
   refine za (r := b false) ?_
   refine zN ?_
   refine RunC.cond_false rfl rfl ?_
   refine RunC.seq ?_
   rcases bsel_some h with ⟨hc3, h⟩ | ⟨hc3, h⟩
   ·refine RunC.regionW ?_
    refine zm (r := i64 (a1.size : Int)) ?_
    refine zl (r := b true) (LOp.eqb (LOp.eql rfl rfl rfl) hc3) ?_
    refine za (r := b true) ?_
    refine zN ?_
    refine RunC.cond_true rfl rfl ?_
    refine RunC.seq ?_
    obtain ⟨e1, he4, h⟩ := obind_some h
    obtain ⟨r2, hf5, h⟩ := obind_some h
    refine RunC.regionW ?_
    refine zm (r := str a0) ?_
    refine zm (r := str a1) ?_
    refine zl (r := ik .u8 e1) (LOp.index_str und9 rfl rfl rfl he4) ?_
    refine ROps.d (r := i64 r2) (fs := []) (Γ' := []) rfl rfl rfl (TOp.callB (CallAs.func ent140 rfl rfl) (Bors.cons (Bor.pure rfl) (Bors.cons (Bor.pure rfl) Bors.nil)) rfl rfl (x_internal_stringslite_IndexByte_ok a0 e1 r2 hf5)) rfl ?_
    refine za (r := i64 r2) ?_
    refine zN ?_
    refine RunC.ret ?_
    have hq := Option.some.inj h
    subst q0
    exact bodyQ.pure (.inr rfl) rfl (Res.one rfl (RV.tmp rfl))
   ·refine RunC.regionW ?_
    refine zm (r := i64 (a1.size : Int)) ?_
    refine zl (r := b false) (LOp.eqb (LOp.eql rfl rfl rfl) hc3) ?_
    refine za (r := b false) ?_
    refine zN ?_
    refine RunC.cond_false rfl rfl ?_
    refine RunC.seq ?_
    rcases bsel_some h with ⟨hc6, h⟩ | ⟨hc6, h⟩
    ·refine RunC.regionW ?_
     refine zm (r := i64 (a1.size : Int)) ?_
     refine zm (r := str a0) ?_
     refine zl (r := i64 (a0.size : Int)) (LOp.len_str und9 rfl rfl) ?_
     refine zl (r := b true) (LOp.eqb (LOp.geq rfl rfl rfl) hc6) ?_
     refine za (r := b true) ?_
     refine zN ?_
     refine RunC.cond_true rfl rfl ?_
     refine zQ ?_
     refine za (r := i64 (-1)) ?_
     refine zN ?_
     refine RunC.ret ?_
     have hq := Option.some.inj h
     subst q0
     exact bodyQ.pure (.inr rfl) rfl (Res.one rfl (RV.tmp rfl))
    ·refine RunC.regionW ?_
     refine zm (r := i64 (a1.size : Int)) ?_
     refine zm (r := str a0) ?_
     refine zl (r := i64 (a0.size : Int)) (LOp.len_str und9 rfl rfl) ?_
     refine zl (r := b false) (LOp.eqb (LOp.geq rfl rfl rfl) hc6) ?_
     refine za (r := b false) ?_
     refine zN ?_
     refine RunC.cond_false rfl rfl ?_
     refine RunC.seq ?_
     cases h
noncomputable def x_strings_Index (a0 : ByteArray) (a1 : ByteArray) : Option (Int) :=
 obind (x_internal_stringslite_Index a0 a1) fun (r1 : Int) =>
 some r1
theorem x_strings_Index_ok (a0 : ByteArray) (a1 : ByteArray) (q0 : Int) (h : x_strings_Index a0 a1 = some q0) : Ev Tryz.prog 103 [str a0, str a1] [] (i64 q0) [] := by
 refine Ev.start Tryz.func103 rfl rfl 0 (τ := [(0, str a0), (1, str a1)]) rfl (Γ' := []) rfl (n := 17) rfl (g := 0) rfl (fun _ => rfl) ?_
 unfold x_strings_Index at h
 refine zQ ?_
 refine za (r := i64 0) ?_
 refine zN ?_
 refine RunC.seq ?_
 obtain ⟨r1, hf1, h⟩ := obind_some h
 refine RunC.regionW ?_
 refine zm (r := str a0) ?_
 refine zm (r := str a1) ?_
 refine ROps.d (r := i64 r1) (fs := []) (Γ' := []) rfl rfl rfl (TOp.callB (CallAs.func ent123 rfl rfl) (Bors.cons (Bor.pure rfl) (Bors.cons (Bor.pure rfl) Bors.nil)) rfl rfl (x_internal_stringslite_Index_ok a0 a1 r1 hf1)) rfl ?_
 refine za (r := i64 r1) ?_
 refine zN ?_
 refine RunC.ret ?_
 have hq := Option.some.inj h
 subst q0
 exact bodyQ.pure (.inr rfl) rfl (Res.one rfl (RV.tmp rfl))
noncomputable def x_strings_Count_b1 (a1 : ByteArray) (s2 : ByteArray) (v3 : Int) : Option (LR (ByteArray × Int) (Unit) (Int)) :=
 obind (x_strings_Index s2 a1) fun (r4 : Int) =>
 bsel (decide (r4 = (-1))) (
  some (LR.ret v3)) (
  olet (IntKind.i64.wrap (v3 + 1)) fun (x5 : Int) =>
  olet (IntKind.i64.wrap (r4 + (a1.size : Int))) fun (x6 : Int) =>
  obind (subs? s2 x6 (s2.size : Int)) fun (t7 : ByteArray) =>
  some (LR.next (t7, x5)))
noncomputable def x_strings_Count_s1 (a1 : ByteArray) : (ByteArray × Int) → Option (LR (ByteArray × Int) (Unit) (Int)) := fun s => x_strings_Count_b1 a1 s.1 s.2
noncomputable def x_strings_Count (a0 : ByteArray) (a1 : ByteArray) : Option (Int) :=
 bsel (decide ((a1.size : Int) = 0)) (
  none) (
  bsel (decide ((a1.size : Int) = 1)) (
   obind (sat? a1 0) fun (e1 : Int) =>
   some (cntB a0 e1)) (
   obind (loopM (x_strings_Count_s1 a1) (a0, 0)) fun z => osum z (fun _ => none) (fun r => some r)))
theorem x_strings_Count_ok (a0 : ByteArray) (a1 : ByteArray) (q0 : Int) (h : x_strings_Count a0 a1 = some q0) : Ev Tryz.prog 102 [str a0, str a1] [] (i64 q0) [] := by
 refine Ev.start Tryz.func102 rfl rfl 0 (τ := [(0, str a0), (1, str a1)]) rfl (Γ' := []) rfl (n := 69) rfl (g := 0) rfl (fun _ => rfl) ?_
 unfold x_strings_Count at h
 refine zQ ?_
 refine za (r := i64 0) ?_
 refine zN ?_
 iterate 2 (refine RunC.seq ?_)
 rcases bsel_some h with ⟨hc1, h⟩ | ⟨hc1, h⟩
 ·refine RunC.regionW ?_
  refine zm (r := str a1) ?_
  refine zl (r := i64 (a1.size : Int)) (LOp.len_str und9 rfl rfl) ?_
  refine zl (r := b true) (LOp.eqb (LOp.eql rfl rfl rfl) hc1) ?_
  refine zN ?_
  refine RunC.cond_true rfl rfl ?_
  refine RunC.seq ?_
  cases h
 ·refine RunC.regionW ?_
  refine zm (r := str a1) ?_
  refine zl (r := i64 (a1.size : Int)) (LOp.len_str und9 rfl rfl) ?_
  refine zl (r := b false) (LOp.eqb (LOp.eql rfl rfl rfl) hc1) ?_
  refine zN ?_
  refine RunC.cond_false rfl rfl ?_
  refine RunC.skip ?_
  iterate 2 (refine RunC.seq ?_)
  rcases bsel_some h with ⟨hc2, h⟩ | ⟨hc2, h⟩
  ·refine RunC.regionW ?_
   refine zm (r := str a1) ?_
   refine zl (r := i64 (a1.size : Int)) (LOp.len_str und9 rfl rfl) ?_
   refine zl (r := b true) (LOp.eqb (LOp.eql rfl rfl rfl) hc2) ?_
   refine zN ?_
   refine RunC.cond_true rfl rfl ?_
   refine RunC.seq ?_
   obtain ⟨e1, he3, h⟩ := obind_some h
   refine RunC.regionW ?_
   refine zm (r := str a0) ?_
   refine zm (r := str a1) ?_
   refine zl (r := ik .u8 e1) (LOp.index_str und9 rfl rfl rfl he3) ?_
   refine zl (r := i64 (cntB a0 e1)) (LOp.cntB ext122 rfl rfl rfl) ?_
   refine za (r := i64 (cntB a0 e1)) ?_
   refine zN ?_
   refine RunC.ret ?_
   have hq := Option.some.inj h
   subst q0
   exact bodyQ.pure (.inr rfl) rfl (Res.one rfl (RV.tmp rfl))
  ·refine RunC.regionW ?_
   refine zm (r := str a1) ?_
   refine zl (r := i64 (a1.size : Int)) (LOp.len_str und9 rfl rfl) ?_
   refine zl (r := b false) (LOp.eqb (LOp.eql rfl rfl rfl) hc2) ?_
   refine zN ?_
   refine RunC.cond_false rfl rfl ?_
   refine RunC.skip ?_
   refine zQ ?_
   refine za (r := i64 0) ?_
   refine zN ?_
   obtain ⟨z2, hz_2, h⟩ := obind_some h
   refine RunC.block (RunC.loop (RunL.loopM (x := z2) (x_strings_Count_s1 a1) (fun (s : ByteArray × Int) τ Γ => WeakLe τ [(0, str s.1), (1, str a1), (5, i64 s.2)] ∧ DeadLe Γ []) ?_ _ _ _ hz_2 ⟨⟨aR, aR, aR, trivial⟩, trivial⟩))
   rintro ⟨s2, v3⟩ τ2 Γ2 y2_ ⟨hw2, hd2⟩ h2_ ho2 hr2
   refine RunC.wl (τ' := [(0, str s2), (1, str a1), (5, i64 v3)]) (Γ' := []) hw2 hd2 ?_
   replace h2_ : x_strings_Count_b1 a1 s2 v3 = some y2_ := h2_
   unfold x_strings_Count_b1 at h2_
   refine RunC.block ?_
   refine RunC.seq ?_
   obtain ⟨r4, hf4, h2_⟩ := obind_some h2_
   refine RunC.regionW ?_
   refine zm (r := str s2) ?_
   refine zm (r := str a1) ?_
   refine ROps.d (r := i64 r4) (fs := []) (Γ' := []) rfl rfl rfl (TOp.callB (CallAs.func ent103 rfl rfl) (Bors.cons (Bor.pure rfl) (Bors.cons (Bor.pure rfl) Bors.nil)) rfl rfl (x_strings_Index_ok s2 a1 r4 hf4)) rfl ?_
   refine za (r := i64 r4) ?_
   refine zN ?_
   iterate 2 (refine RunC.seq ?_)
   rcases bsel_some h2_ with ⟨hc5, h2_⟩ | ⟨hc5, h2_⟩
   ·refine RunC.regionW ?_
    refine zm (r := i64 r4) ?_
    refine zl (r := b true) (LOp.eqb (LOp.eql rfl rfl rfl) hc5) ?_
    refine zN ?_
    refine RunC.cond_true rfl rfl ?_
    refine zQ ?_
    refine zm (r := i64 v3) ?_
    refine za (r := i64 v3) ?_
    refine zN ?_
    refine RunC.ret ?_
    cases Option.some.inj h2_
    have hx3_ := hr2 _ rfl
    subst hx3_
    have hq := Option.some.inj h
    subst q0
    exact bodyQ.pure (.inr rfl) rfl (Res.one rfl (RV.tmp rfl))
   ·refine RunC.regionW ?_
    refine zm (r := i64 r4) ?_
    refine zl (r := b false) (LOp.eqb (LOp.eql rfl rfl rfl) hc5) ?_
    refine zN ?_
    refine RunC.cond_false rfl rfl ?_
    refine RunC.skip ?_
    refine RunC.seq ?_
    obtain ⟨x5, hx6, h2_⟩ := olet_some h2_
    refine RunC.regionW ?_
    refine zm (r := i64 v3) ?_
    refine zl (r := i64 x5) (LOp.eqr (LOp.add rfl rfl rfl) (congrArg (ik .i64) hx6)) ?_
    refine za (r := i64 x5) ?_
    refine zN ?_
    obtain ⟨x6, hx7, h2_⟩ := olet_some h2_
    obtain ⟨t7, hs8, h2_⟩ := obind_some h2_
    refine RunC.regionW ?_
    refine zm (r := str s2) ?_
    refine zm (r := i64 r4) ?_
    refine zm (r := str a1) ?_
    refine zl (r := i64 (a1.size : Int)) (LOp.len_str und9 rfl rfl) ?_
    refine zl (r := i64 x6) (LOp.eqr (LOp.add rfl rfl rfl) (congrArg (ik .i64) hx7)) ?_
    refine zl (r := str t7) (LOp.subs_lo und9 rfl rfl rfl hs8) ?_
    refine za (r := str t7) ?_
    refine zN ?_
    cases Option.some.inj h2_
    exact ⟨_, rfl, ⟨aR, aR, aR, trivial⟩, trivial⟩
noncomputable def x_strings_genSplit_b2 (a1 : ByteArray) (a2 : Int) (x5 : Int) (L6 : List ByteArray) (s8 : ByteArray) (v9 : Int) : Option (LR ((List ByteArray) × ByteArray × Int) ((List ByteArray) × ByteArray × Int) ((List ByteArray))) :=
 bsel (decide (v9 < x5)) (
  obind (x_strings_Index s8 a1) fun (r10 : Int) =>
  bsel (decide (r10 < 0)) (
   some (LR.out (L6, s8, v9))) (
   olet (IntKind.i64.wrap (r10 + a2)) fun (x11 : Int) =>
   obind (subs? s8 0 x11) fun (t12 : ByteArray) =>
   obind (setAt? L6 v9 t12) fun (L13 : List ByteArray) =>
   olet (IntKind.i64.wrap (r10 + (a1.size : Int))) fun (x14 : Int) =>
   obind (subs? s8 x14 (s8.size : Int)) fun (t15 : ByteArray) =>
   olet (IntKind.i64.wrap (v9 + 1)) fun (x16 : Int) =>
   some (LR.next (L13, t15, x16)))) (
  some (LR.out (L6, s8, v9)))
noncomputable def x_strings_genSplit_s2 (a1 : ByteArray) (a2 : Int) (x5 : Int) : ((List ByteArray) × ByteArray × Int) → Option (LR ((List ByteArray) × ByteArray × Int) ((List ByteArray) × ByteArray × Int) ((List ByteArray))) := fun s => x_strings_genSplit_b2 a1 a2 x5 s.1 s.2.1 s.2.2
noncomputable def x_strings_genSplit_k2 (L17 : List ByteArray) (s19 : ByteArray) (v20 : Int) : Option ((List ByteArray)) :=
 obind (setAt? L17 v20 s19) fun (L21 : List ByteArray) =>
 olet (IntKind.i64.wrap (v20 + 1)) fun (x22 : Int) =>
 obind (sub? L21 0 x22) fun (L23 : List ByteArray) =>
 some L23
noncomputable def x_strings_genSplit_k1 (a0 : ByteArray) (a1 : ByteArray) (a2 : Int) (v3 : Int) : Option ((List ByteArray)) :=
 olet (IntKind.i64.wrap ((a0.size : Int) + 1)) fun (x4 : Int) =>
 need (mkok 16 (imin v3 x4)) <|
 olet (IntKind.i64.wrap ((imin v3 x4) - 1)) fun (x5 : Int) =>
 obind (loopM (x_strings_genSplit_s2 a1 a2 x5) ((List.replicate (imin v3 x4).toNat lit_99ba06bc), a0, 0)) fun z => osum z (fun e => x_strings_genSplit_k2 e.1 e.2.1 e.2.2) (fun r => some r)
noncomputable def x_strings_genSplit (a0 : ByteArray) (a1 : ByteArray) (a2 : Int) (a3 : Int) : Option ((List ByteArray)) :=
 bsel (decide (a3 = 0)) (
  some ([] : List ByteArray)) (
  bsel (eqs a1 lit_99ba06bc) (
   none) (
   bsel (decide (a3 < 0)) (
    obind (x_strings_Count a0 a1) fun (r1 : Int) =>
    olet (IntKind.i64.wrap (r1 + 1)) fun (x2 : Int) =>
    x_strings_genSplit_k1 a0 a1 a2 x2) (
    x_strings_genSplit_k1 a0 a1 a2 a3)))
theorem x_strings_genSplit_ok (a0 : ByteArray) (a1 : ByteArray) (a2 : Int) (a3 : Int) (q0 : List ByteArray) (h : x_strings_genSplit a0 a1 a2 a3 = some q0) : Ev Tryz.prog 82 [str a0, str a1, i64 a2, i64 a3] [] (oref 0 0 0 q0.length) [⟨0, some (q0.map str)⟩] := by
 refine Ev.start Tryz.func82 rfl rfl 1 (τ := [(0, str a0), (1, str a1), (2, i64 a2), (3, i64 a3)]) rfl (Γ' := [⟨0, none⟩]) rfl (n := 133) rfl (g := 0) rfl (fun _ => rfl) ?_
 unfold x_strings_genSplit at h
 refine zQ ?_
 refine za (r := nilsl) ?_
 refine zN ?_
 iterate 2 (refine RunC.seq ?_)
 rcases bsel_some h with ⟨hc1, h⟩ | ⟨hc1, h⟩
 ·refine RunC.regionW ?_
  refine zm (r := i64 a3) ?_
  refine zl (r := b true) (LOp.eqb (LOp.eql rfl rfl rfl) hc1) ?_
  refine zN ?_
  refine RunC.cond_true rfl rfl ?_
  refine zQ ?_
  refine za (r := nilsl) ?_
  refine zN ?_
  refine RunC.nil_slot (Γ' := [⟨1, some (([] : List ByteArray).map str)⟩]) 8 0 rfl rfl rfl ?_
  refine RunC.ret ?_
  have hq := Option.some.inj h
  subst q0
  exact bodyQ.mk (r' := oref 0 1 0 (([] : List ByteArray).length)) [(0, 1)] (.inr rfl) rfl (show List.Nodup [0] from by decide) rfl rfl (Res.eq (Res.one rfl (RV.tmp rfl)) (by rw [(show ([] : List ByteArray).length = 0 from rfl)] <;> rfl)) (SelL.arr0 (f := str) (fun _ => rfl) rfl trivial)
 ·refine RunC.regionW ?_
  refine zm (r := i64 a3) ?_
  refine zl (r := b false) (LOp.eqb (LOp.eql rfl rfl rfl) hc1) ?_
  refine zN ?_
  refine RunC.cond_false rfl rfl ?_
  refine RunC.skip ?_
  iterate 2 (refine RunC.seq ?_)
  rcases bsel_some h with ⟨hc2, h⟩ | ⟨hc2, h⟩
  ·refine RunC.regionW ?_
   refine zm (r := str a1) ?_
   refine zl (r := b true) (LOp.eqb (LOp.eqs rfl rfl rfl) hc2) ?_
   refine zN ?_
   refine RunC.cond_true rfl rfl ?_
   refine RunC.seq ?_
   cases h
  ·refine RunC.regionW ?_
   refine zm (r := str a1) ?_
   refine zl (r := b false) (LOp.eqb (LOp.eqs rfl rfl rfl) hc2) ?_
   refine zN ?_
   refine RunC.cond_false rfl rfl ?_
   refine RunC.skip ?_
   refine RunC.seq ?_
   refine RunC.cutN (fun τ Γ => ∃ (v3 : Int), WeakLe τ [(0, str a0), (1, str a1), (2, i64 a2), (3, i64 v3)] ∧ DeadLe Γ [⟨0, none⟩] ∧ x_strings_genSplit_k1 a0 a1 a2 v3 = some q0) ?_ ?_
   ·refine RunC.seq ?_
    rcases bsel_some h with ⟨hc3, h⟩ | ⟨hc3, h⟩
    ·refine RunC.regionW ?_
     refine zm (r := i64 a3) ?_
     refine zl (r := b true) (LOp.eqb (LOp.lss rfl rfl rfl) hc3) ?_
     refine zN ?_
     refine RunC.cond_true rfl rfl ?_
     obtain ⟨r1, hf4, h⟩ := obind_some h
     obtain ⟨x2, hx5, h⟩ := olet_some h
     refine RunC.regionW ?_
     refine zm (r := str a0) ?_
     refine zm (r := str a1) ?_
     refine ROps.d (r := i64 r1) (fs := []) (Γ' := [⟨0, none⟩]) rfl rfl rfl (TOp.callB (CallAs.func ent102 rfl rfl) (Bors.cons (Bor.pure rfl) (Bors.cons (Bor.pure rfl) Bors.nil)) rfl rfl (x_strings_Count_ok a0 a1 r1 hf4)) rfl ?_
     refine zl (r := i64 x2) (LOp.eqr (LOp.add rfl rfl rfl) (congrArg (ik .i64) hx5)) ?_
     refine za (r := i64 x2) ?_
     refine zN ?_
     exact ⟨x2, ⟨aR, aR, aR, aR, trivial⟩, ⟨⟨rfl, .inr rfl⟩, trivial⟩, h⟩
    ·refine RunC.regionW ?_
     refine zm (r := i64 a3) ?_
     refine zl (r := b false) (LOp.eqb (LOp.lss rfl rfl rfl) hc3) ?_
     refine zN ?_
     refine RunC.cond_false rfl rfl ?_
     refine RunC.skip ?_
     exact ⟨a3, ⟨aR, aR, aR, aR, trivial⟩, ⟨⟨rfl, .inr rfl⟩, trivial⟩, h⟩
   ·rintro τ3 Γ3 ⟨v3, hw3, hd3, h⟩
    refine RunC.wl hw3 hd3 ?_
    unfold x_strings_genSplit_k1 at h
    refine RunC.seq ?_
    obtain ⟨x4, hx6, h⟩ := olet_some h
    refine RunC.regionW ?_
    refine zm (r := i64 v3) ?_
    refine zm (r := str a0) ?_
    refine zl (r := i64 (a0.size : Int)) (LOp.len_str und9 rfl rfl) ?_
    refine zl (r := i64 x4) (LOp.eqr (LOp.add rfl rfl rfl) (congrArg (ik .i64) hx6)) ?_
    refine zl (r := i64 (imin v3 x4)) (LOp.min2 rfl rfl rfl) ?_
    refine za (r := i64 (imin v3 x4)) ?_
    refine zN ?_
    refine RunC.seq ?_
    obtain ⟨hm7, h⟩ := need_some h
    refine RunC.regionW ?_
    refine zm (r := i64 (imin v3 x4)) ?_
    refine ROps.d (r := oref 0 1 0 ((imin v3 x4).toNat)) (fs := [(0, ((List.replicate (imin v3 x4).toNat lit_99ba06bc).map str))]) (Γ' := [⟨1, some ((List.replicate (imin v3 x4).toNat lit_99ba06bc).map str)⟩]) rfl rfl rfl (TOp.mkS (g := ⟨0, none⟩) (t := 69) (e := 9) (by_ := 16) (f := str) (zv := lit_99ba06bc) 0 rfl und69 tin9 rfl siz9 zer9 rfl zel9 rfl rfl rfl hm7) rfl ?_
    refine za (r := oref 0 1 0 ((imin v3 x4).toNat)) ?_
    refine zN ?_
    refine RunC.seq ?_
    obtain ⟨x5, hx8, h⟩ := olet_some h
    refine RunC.regionW ?_
    refine zm (r := i64 (imin v3 x4)) ?_
    refine zl (r := i64 x5) (LOp.eqr (LOp.sub rfl rfl rfl) (congrArg (ik .i64) hx8)) ?_
    refine za (r := i64 x5) ?_
    refine zN ?_
    refine zQ ?_
    refine za (r := i64 0) ?_
    refine zN ?_
    refine RunC.seq ?_
    obtain ⟨z4, hz_4, h⟩ := obind_some h
    refine RunC.cutN (fun τ Γ => ∃ (L17 : List ByteArray) (s19 : ByteArray) (v20 : Int), L17.length = (imin v3 x4).toNat ∧ WeakLe τ [(0, str s19), (9, oref 0 1 0 ((imin v3 x4).toNat)), (10, i64 v20)] ∧ DeadLe Γ [⟨1, some (L17.map str)⟩] ∧ z4 = .inl (L17, s19, v20)) ?_ ?_
    ·refine RunC.block (RunC.loop (RunL.loopM (x := z4) (x_strings_genSplit_s2 a1 a2 x5) (fun (s : (List ByteArray) × ByteArray × Int) τ Γ => s.1.length = (imin v3 x4).toNat ∧ WeakLe τ [(0, str s.2.1), (1, str a1), (2, i64 a2), (3, i64 x5), (9, oref 0 1 0 ((imin v3 x4).toNat)), (10, i64 s.2.2)] ∧ DeadLe Γ [⟨1, some (s.1.map str)⟩]) ?_ _ _ _ hz_4 ⟨List.length_replicate, ⟨aR, aR, aR, aR, aR, aR, trivial⟩, ⟨⟨rfl, .inr rfl⟩, trivial⟩⟩))
     rintro ⟨L6, s8, v9⟩ τ4 Γ4 y4_ ⟨hl7, hw4, hd4⟩ h4_ ho4 hr4
     refine RunC.wl (τ' := [(0, str s8), (1, str a1), (2, i64 a2), (3, i64 x5), (9, oref 0 1 0 ((imin v3 x4).toNat)), (10, i64 v9)]) (Γ' := [⟨1, some (L6.map str)⟩]) hw4 hd4 ?_
     replace hl7 : L6.length = (imin v3 x4).toNat := hl7
     replace h4_ : x_strings_genSplit_b2 a1 a2 x5 L6 s8 v9 = some y4_ := h4_
     unfold x_strings_genSplit_b2 at h4_
     iterate 2 (refine RunC.seq ?_)
     rcases bsel_some h4_ with ⟨hc9, h4_⟩ | ⟨hc9, h4_⟩
     ·refine RunC.regionW ?_
      refine zm (r := i64 v9) ?_
      refine zm (r := i64 x5) ?_
      refine zl (r := b true) (LOp.eqb (LOp.lss rfl rfl rfl) hc9) ?_
      refine zN ?_
      refine RunC.cond_true rfl rfl ?_
      refine RunC.skip ?_
      refine RunC.block ?_
      refine RunC.seq ?_
      obtain ⟨r10, hf10, h4_⟩ := obind_some h4_
      refine RunC.regionW ?_
      refine zm (r := str s8) ?_
      refine zm (r := str a1) ?_
      refine ROps.d (r := i64 r10) (fs := []) (Γ' := [⟨1, some (L6.map str)⟩]) rfl rfl rfl (TOp.callB (CallAs.func ent103 rfl rfl) (Bors.cons (Bor.pure rfl) (Bors.cons (Bor.pure rfl) Bors.nil)) rfl rfl (x_strings_Index_ok s8 a1 r10 hf10)) rfl ?_
      refine za (r := i64 r10) ?_
      refine zN ?_
      iterate 2 (refine RunC.seq ?_)
      rcases bsel_some h4_ with ⟨hc11, h4_⟩ | ⟨hc11, h4_⟩
      ·refine RunC.regionW ?_
       refine zm (r := i64 r10) ?_
       refine zl (r := b true) (LOp.eqb (LOp.lss rfl rfl rfl) hc11) ?_
       refine zN ?_
       refine RunC.cond_true rfl rfl ?_
       refine RunC.exit ?_
       cases Option.some.inj h4_
       have hx := ho4 _ rfl
       exact ⟨L6, s8, v9, hl7, ⟨aR, aR, aR, trivial⟩, ⟨⟨rfl, .inr rfl⟩, trivial⟩, hx⟩
      ·refine RunC.regionW ?_
       refine zm (r := i64 r10) ?_
       refine zl (r := b false) (LOp.eqb (LOp.lss rfl rfl rfl) hc11) ?_
       refine zN ?_
       refine RunC.cond_false rfl rfl ?_
       refine RunC.skip ?_
       refine RunC.seq ?_
       obtain ⟨x11, hx12, h4_⟩ := olet_some h4_
       obtain ⟨t12, hs13, h4_⟩ := obind_some h4_
       obtain ⟨L13, he14, h4_⟩ := obind_some h4_
       refine RunC.regionW ?_
       refine zm (r := oref 0 1 0 ((imin v3 x4).toNat)) ?_
       refine zm (r := i64 v9) ?_
       refine zm (r := str s8) ?_
       refine zm (r := i64 r10) ?_
       refine zm (r := i64 a2) ?_
       refine zl (r := i64 x11) (LOp.eqr (LOp.add rfl rfl rfl) (congrArg (ik .i64) hx12)) ?_
       refine zl (r := str t12) (LOp.subs_hi und9 rfl rfl rfl hs13) ?_
       refine ROps.d (r := optr 0 1 v9.toNat) (fs := []) (Γ' := [⟨1, some (L6.map str)⟩]) rfl rfl rfl (TOp.ixo und69 siz9 rfl rfl rfl (set_in he14 hl7) rfl) rfl ?_
       refine ROps.st (f := str) (i := v9) (Γ' := [⟨1, some (L13.map str)⟩]) rfl siz9 rfl rfl rfl aR rfl rfl rfl he14 rfl ?_
       refine zN ?_
       refine RunC.wl (τ' := [(0, str s8), (1, str a1), (2, i64 a2), (3, i64 x5), (9, oref 0 1 0 ((imin v3 x4).toNat)), (10, i64 v9), (11, i64 r10)]) (Γ' := [⟨1, some (L13.map str)⟩]) ⟨aR, aR, aR, aR, aR, aR, aR, trivial⟩ ⟨⟨rfl, .inr rfl⟩, trivial⟩ ?_
       refine RunC.seq ?_
       obtain ⟨x14, hx15, h4_⟩ := olet_some h4_
       obtain ⟨t15, hs16, h4_⟩ := obind_some h4_
       refine RunC.regionW ?_
       refine zm (r := str s8) ?_
       refine zm (r := i64 r10) ?_
       refine zm (r := str a1) ?_
       refine zl (r := i64 (a1.size : Int)) (LOp.len_str und9 rfl rfl) ?_
       refine zl (r := i64 x14) (LOp.eqr (LOp.add rfl rfl rfl) (congrArg (ik .i64) hx15)) ?_
       refine zl (r := str t15) (LOp.subs_lo und9 rfl rfl rfl hs16) ?_
       refine za (r := str t15) ?_
       refine zN ?_
       obtain ⟨x16, hx17, h4_⟩ := olet_some h4_
       refine RunC.regionW ?_
       refine zm (r := i64 v9) ?_
       refine zl (r := i64 x16) (LOp.eqr (LOp.add rfl rfl rfl) (congrArg (ik .i64) hx17)) ?_
       refine za (r := i64 x16) ?_
       refine zN ?_
       cases Option.some.inj h4_
       exact ⟨_, rfl, ((setAt?_len he14).trans hl7), ⟨aR, aR, aR, aR, aR, aR, trivial⟩, ⟨⟨rfl, .inr rfl⟩, trivial⟩⟩
     ·refine RunC.regionW ?_
      refine zm (r := i64 v9) ?_
      refine zm (r := i64 x5) ?_
      refine zl (r := b false) (LOp.eqb (LOp.lss rfl rfl rfl) hc9) ?_
      refine zN ?_
      refine RunC.cond_false rfl rfl ?_
      refine RunC.exit ?_
      cases Option.some.inj h4_
      have hx := ho4 _ rfl
      exact ⟨L6, s8, v9, hl7, ⟨aR, aR, aR, trivial⟩, ⟨⟨rfl, .inr rfl⟩, trivial⟩, hx⟩
    ·rintro τ5 Γ5 ⟨L17, s19, v20, hl18, hw5, hd5, rfl⟩
     refine RunC.wl hw5 hd5 ?_
     replace h : x_strings_genSplit_k2 L17 s19 v20 = some q0 := h
     unfold x_strings_genSplit_k2 at h
     refine RunC.seq ?_
     obtain ⟨L21, he18, h⟩ := obind_some h
     refine RunC.regionW ?_
     refine zm (r := oref 0 1 0 ((imin v3 x4).toNat)) ?_
     refine zm (r := i64 v20) ?_
     refine zm (r := str s19) ?_
     refine ROps.d (r := optr 0 1 v20.toNat) (fs := []) (Γ' := [⟨1, some (L17.map str)⟩]) rfl rfl rfl (TOp.ixo und69 siz9 rfl rfl rfl (set_in he18 hl18) rfl) rfl ?_
     refine ROps.st (f := str) (i := v20) (Γ' := [⟨1, some (L21.map str)⟩]) rfl siz9 rfl rfl rfl aR rfl rfl rfl he18 rfl ?_
     refine zN ?_
     refine RunC.seq ?_
     obtain ⟨x22, hx19, h⟩ := olet_some h
     obtain ⟨L23, hs20, h⟩ := obind_some h
     refine RunC.regionW ?_
     refine zm (r := oref 0 1 0 ((imin v3 x4).toNat)) ?_
     refine zm (r := i64 v20) ?_
     refine zl (r := i64 x22) (LOp.eqr (LOp.add rfl rfl rfl) (congrArg (ik .i64) hx19)) ?_
     refine ROps.slice_hi_o (f := str) (Γ' := [⟨1, some (L23.map str)⟩]) rfl und69 siz9 rfl rfl rfl rfl rfl ((setAt?_len he18).trans hl18) hs20 rfl rfl ?_
     refine za (r := oref 0 1 0 L23.length) ?_
     refine zN ?_
     refine RunC.ret ?_
     have hq := Option.some.inj h
     subst q0
     exact bodyQ.mk (r' := oref 0 1 0 L23.length) [(0, 1)] (.inr rfl) rfl (show List.Nodup [0] from by decide) rfl rfl (Res.one rfl (RV.tmp rfl)) (SelL.arr0 (f := str) (fun _ => rfl) rfl trivial)
noncomputable def x_strings_Split (a0 : ByteArray) (a1 : ByteArray) : Option ((List ByteArray)) :=
 obind (x_strings_genSplit a0 a1 0 (-1)) fun (r1 : List ByteArray) =>
 some r1
theorem x_strings_Split_ok (a0 : ByteArray) (a1 : ByteArray) (q0 : List ByteArray) (h : x_strings_Split a0 a1 = some q0) : Ev Tryz.prog 50 [str a0, str a1] [] (oref 0 0 0 q0.length) [⟨0, some (q0.map str)⟩] := by
 refine Ev.start Tryz.func50 rfl rfl 1 (τ := [(0, str a0), (1, str a1)]) rfl (Γ' := [⟨0, none⟩]) rfl (n := 17) rfl (g := 0) rfl (fun _ => rfl) ?_
 unfold x_strings_Split at h
 refine zQ ?_
 refine za (r := nilsl) ?_
 refine zN ?_
 refine RunC.seq ?_
 obtain ⟨r1, hf1, h⟩ := obind_some h
 refine RunC.regionW ?_
 refine zm (r := str a0) ?_
 refine zm (r := str a1) ?_
 refine ROps.d (r := oref 0 1 0 r1.length) (fs := [(0, (r1.map str))]) (Γ' := [⟨1, some (r1.map str)⟩]) rfl rfl rfl (TOp.callBN (ls := [(r1.map str)]) [0] (CallAs.func ent82 rfl rfl) (Bors.cons (Bor.pure rfl) (Bors.cons (Bor.pure rfl) (Bors.cons (Bor.pure rfl) (Bors.cons (Bor.pure rfl) Bors.nil)))) rfl (x_strings_genSplit_ok a0 a1 0 (-1) r1 hf1) (and_all (lts0_map (f := str) (fun _ => rfl) _) rfl) (and_all (noss_map (f := str) (fun _ => rfl) _) rfl) rfl (by decide) (ns_of ⟨⟨_, rfl⟩, trivial⟩)) rfl ?_
 refine za (r := oref 0 1 0 r1.length) ?_
 refine zN ?_
 refine RunC.ret ?_
 have hq := Option.some.inj h
 subst q0
 exact bodyQ.mk (r' := oref 0 1 0 r1.length) [(0, 1)] (.inr rfl) rfl (show List.Nodup [0] from by decide) rfl rfl (Res.one rfl (RV.tmp rfl)) (SelL.arr0 (f := str) (fun _ => rfl) rfl trivial)
noncomputable def x_internal_strconv_lower (a0 : Int) : Option (Int) :=
 olet (ior .u8 a0 32) fun (x1 : Int) =>
 some x1
theorem x_internal_strconv_lower_ok (a0 : Int) (q0 : Int) (h : x_internal_strconv_lower a0 = some q0) : Ev Tryz.prog 124 [ik .u8 a0] [] (ik .u8 q0) [] := by
 refine Ev.start Tryz.func124 rfl rfl 0 (τ := [(0, ik .u8 a0)]) rfl (Γ' := []) rfl (n := 11) rfl (g := 0) rfl (fun _ => rfl) ?_
 unfold x_internal_strconv_lower at h
 refine zQ ?_
 refine za (r := ik .u8 0) ?_
 refine zN ?_
 refine RunC.seq ?_
 obtain ⟨x1, hx1, h⟩ := olet_some h
 refine RunC.regionW ?_
 refine zm (r := ik .u8 a0) ?_
 refine zl (r := ik .u8 x1) (LOp.eqr (LOp.ior rfl rfl rfl) (congrArg (ik .u8) hx1)) ?_
 refine za (r := ik .u8 x1) ?_
 refine zN ?_
 refine RunC.ret ?_
 have hq := Option.some.inj h
 subst q0
 exact bodyQ.pure (.inr rfl) rfl (Res.one rfl (RV.tmp rfl))
end Go.Proofs.YtcjbfpoaidjpaaaGreatDoor
