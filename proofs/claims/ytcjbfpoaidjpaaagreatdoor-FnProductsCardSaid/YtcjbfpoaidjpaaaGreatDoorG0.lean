/- Generated. -/
import Derived.Test.YtcjbfpoaidjpaaaGreatDoorTys
namespace Go.Proofs.YtcjbfpoaidjpaaaGreatDoor
open Go Go.AM Go.AM.AV
set_option maxRecDepth 20000
set_option maxHeartbeats 4000000
set_option linter.unusedVariables false
set_option linter.unusedSimpArgs false
noncomputable def w_b10Long (a0 : List Int) (a1 : List Int) : Option (Bool) :=
 bsel (decide (1048576 < (a0.length : Int))) (
  some true) (
  some (decide (1048576 < (a1.length : Int))))
theorem w_b10Long_ok (a0 : List Int) (a1 : List Int) (q0 : Bool) (h : w_b10Long a0 a1 = some q0) : Ev Tryz.prog 5 [sl a0.length (a0.map (ik .u8)), sl a1.length (a1.map (ik .u8))] [] (b q0) [] := by
 refine Ev.start Tryz.func5 rfl rfl 0 (τ := [(0, sl a0.length (a0.map (ik .u8))), (1, sl a1.length (a1.map (ik .u8)))]) rfl (Γ' := []) rfl (n := 27) rfl (g := 0) rfl (fun _ => rfl) ?_
 unfold w_b10Long at h
 refine zQ ?_
 refine za (r := b false) ?_
 refine zN ?_
 refine RunC.seq ?_
 rcases bsel_some h with ⟨hc1, h⟩ | ⟨hc1, h⟩
 ·refine RunC.regionW ?_
  refine zm (r := sl a0.length (a0.map (ik .u8))) ?_
  refine zl (r := i64 (a0.length : Int)) (LOp.len_sl und22 rfl rfl) ?_
  refine zl (r := b true) (LOp.eqb (LOp.gtr rfl rfl rfl) hc1) ?_
  refine zm (r := b true) ?_
  iterate 3 (refine ROps.s rfl rfl rfl ?_)
  refine zl (r := b true) (LOp.pick_true rfl rfl rfl) ?_
  refine za (r := b true) ?_
  refine zN ?_
  refine RunC.ret ?_
  have hq := Option.some.inj h
  subst q0
  exact bodyQ.pure (.inr rfl) rfl (Res.one rfl (RV.tmp rfl))
 ·refine RunC.regionW ?_
  refine zm (r := sl a0.length (a0.map (ik .u8))) ?_
  refine zl (r := i64 (a0.length : Int)) (LOp.len_sl und22 rfl rfl) ?_
  refine zl (r := b false) (LOp.eqb (LOp.gtr rfl rfl rfl) hc1) ?_
  refine zm (r := b false) ?_
  refine zm (r := sl a1.length (a1.map (ik .u8))) ?_
  refine zl (r := i64 (a1.length : Int)) (LOp.len_sl und22 rfl rfl) ?_
  refine zl (r := b (decide (1048576 < (a1.length : Int)))) (LOp.gtr rfl rfl rfl) ?_
  refine zl (r := b (decide (1048576 < (a1.length : Int)))) (LOp.pick_false rfl rfl rfl) ?_
  refine za (r := b (decide (1048576 < (a1.length : Int)))) ?_
  refine zN ?_
  refine RunC.ret ?_
  have hq := Option.some.inj h
  subst q0
  exact bodyQ.pure (.inr rfl) rfl (Res.one rfl (RV.tmp rfl))
noncomputable def s_l00From (a0 : List Int) : Option ((List Int) × Int × Int) :=
 some (a0, 0, 0)
theorem s_l00From_ok (a0 : List Int) (q0 : List Int) (q1 : Int) (q2 : Int) (h : s_l00From a0 = some (q0, q1, q2)) : Ev Tryz.prog 38 [sl a0.length (a0.map (ik .u8))] [] (optr 0 0 0) [⟨0, some [sl q0.length (q0.map (ik .u8)), i64 q1, ik .u64 q2]⟩] := by
 refine Ev.start Tryz.func38 rfl rfl 1 (τ := [(0, sl a0.length (a0.map (ik .u8)))]) rfl (Γ' := [⟨0, none⟩]) rfl (n := 13) rfl (g := 0) rfl (fun _ => rfl) ?_
 unfold s_l00From at h
 refine zQ ?_
 refine za (r := x (.pointer none)) ?_
 refine zN ?_
 refine zQ ?_
 refine zm (r := sl a0.length (a0.map (ik .u8))) ?_
 refine zl (r := agg [sl a0.length (a0.map (ik .u8)), i64 0, ik .u64 0]) (LOp.build (qs := [(0, [sl a0.length (a0.map (ik .u8))])]) zer92 zok92 und92 plc92 rfl ⟨rfl, ⟨_, ALe.refl _, rfl⟩, trivial⟩ rfl) ?_
 refine ROps.d (r := optr 0 1 0) (fs := [(0, [sl a0.length (a0.map (ik .u8)), i64 0, ik .u64 0])]) (Γ' := [⟨1, some [sl a0.length (a0.map (ik .u8)), i64 0, ik .u64 0]⟩]) rfl rfl rfl (TOp.box_o (g := ⟨0, none⟩) 0 rfl rfl rfl rfl) rfl ?_
 refine za (r := optr 0 1 0) ?_
 refine zN ?_
 refine RunC.ret ?_
 have hq := Option.some.inj h
 obtain ⟨hq0, hq⟩ := Prod.mk.inj hq
 obtain ⟨hq1, hq⟩ := Prod.mk.inj hq
 subst q0
 subst q1
 subst q2
 exact bodyQ.mk (r' := optr 0 1 0) [(0, 1)] (.inr rfl) rfl (show List.Nodup [0] from by decide) rfl rfl (Res.one rfl (RV.tmp rfl)) (SelL.cells0 rfl (by first | rfl | simp [ren, rens, sigma, rens_f32, rens_f64, rens_i64, rens_ik, rens_str, rens_cp]) (lts_cons (lt_slk (fun _ => rfl)) (lts_cons rfl (lts_cons rfl lts_nil))) trivial)
noncomputable def s_l00Src_next_0p0_C0_k1 (a0 : List Int) (a1 : Int) (a2 : Int) (v3 : Int) : Option (Int × Int × Int) :=
 olet (IntKind.i64.wrap (a1 + 1)) fun (x4 : Int) =>
 olet (IntKind.u64.wrap (a2 * 6364136223846793005)) fun (x5 : Int) =>
 olet (IntKind.u64.wrap v3) fun (x6 : Int) =>
 olet (IntKind.u64.wrap (x5 + x6)) fun (x7 : Int) =>
 olet (IntKind.u64.wrap (x7 + 1442695040888963407)) fun (x8 : Int) =>
 bsel (decide (x4 ≤ (a0.length : Int))) (
  some (v3, x4, x8)) (
  need (decide ((0 : Int) ≤ 40)) <|
  olet (ishr .u64 x8 40) fun (x9 : Int) =>
  olet (iand .u64 x9 255) fun (x10 : Int) =>
  olet (IntKind.i64.wrap x10) fun (x11 : Int) =>
  some (x11, x4, x8))
noncomputable def s_l00Src_next_0p0_C0 (a0 : List Int) (a1 : Int) (a2 : Int) : Option (Int × Int × Int) :=
 bsel (decide (a1 < (a0.length : Int))) (
  obind (at? a0 a1) fun (e1 : Int) =>
  olet (IntKind.i64.wrap e1) fun (x2 : Int) =>
  s_l00Src_next_0p0_C0_k1 a0 a1 a2 x2) (
  s_l00Src_next_0p0_C0_k1 a0 a1 a2 0)
theorem s_l00Src_next_0p0_C0_ok (a0 : List Int) (a1 : Int) (a2 : Int) (q0 : Int) (q1 : Int) (q2 : Int) (h : s_l00Src_next_0p0_C0 a0 a1 a2 = some (q0, q1, q2)) : Ev Tryz.prog 75 [optr 0 0 0] [⟨0, some [sl a0.length (a0.map (ik .u8)), i64 a1, ik .u64 a2]⟩] (i64 q0) [⟨0, some [sl a0.length (a0.map (ik .u8)), i64 q1, ik .u64 q2]⟩] := by
 refine Ev.start Tryz.func75 rfl rfl 0 (τ := [(0, optr 0 0 0)]) rfl (Γ' := [⟨0, some [sl a0.length (a0.map (ik .u8)), i64 a1, ik .u64 a2]⟩]) rfl (n := 124) rfl (g := 1) rfl (by decide) ?_
 unfold s_l00Src_next_0p0_C0 at h
 iterate 2 (refine zQ ?_; refine za (r := i64 0) ?_; refine zN ?_)
 refine RunC.seq ?_
 refine RunC.cutN (fun τ Γ => ∃ (v3 : Int), WeakLe τ [(0, optr 0 0 0), (3, i64 v3)] ∧ DeadLe Γ [⟨0, some [sl a0.length (a0.map (ik .u8)), i64 a1, ik .u64 a2]⟩] ∧ s_l00Src_next_0p0_C0_k1 a0 a1 a2 v3 = some (q0, q1, q2)) ?_ ?_
 ·refine RunC.seq ?_
  rcases bsel_some h with ⟨hc1, h⟩ | ⟨hc1, h⟩
  ·refine RunC.region_draw (Γ' := [⟨0, some [sl a0.length (a0.map (ik .u8)), i64 a1, ik .u64 a2]⟩]) 10 mixed 
    (TR.l (r := optr 0 0 0) rfl rfl (LOp.move rfl rfl) <|
    (TR.l (r := optr 0 0 0) rfl rfl (LOp.nilCheck_optr rfl rfl) <|
    (TR.l (r := optr 0 0 1) rfl rfl (LOp.fao und92 rfl siz3 rfl rfl rfl) <|
    (TR.d (r := i64 a1) (fs := []) rfl rfl (TOp.load1_o rfl rfl agg3 rfl rfl) <|
    (TR.l (r := optr 0 0 0) rfl rfl (LOp.move rfl rfl) <|
    (TR.l (r := optr 0 0 0) rfl rfl (LOp.nilCheck_optr rfl rfl) <|
    (TR.l (r := optr 0 0 0) rfl rfl (LOp.fao und92 rfl siz22 rfl rfl rfl) <|
    (TR.d (r := sl a0.length (a0.map (ik .u8))) (fs := []) rfl rfl (TOp.load1_o rfl rfl agg22 rfl rfl) <|
    (TR.l (r := i64 (a0.length : Int)) rfl rfl (LOp.len_sl und22 rfl rfl) <|
    (TR.l (r := b true) rfl rfl (LOp.eqb (LOp.lss rfl rfl rfl) hc1) <|
    TR.nil)))))))))) rfl (by kernel_rfl) rfl fills_nil rfl ?_
   iterate 10 refine ROps.dropS ?_
   refine ROps.drop0 ?_
   refine zN ?_
   refine RunC.cond_true rfl rfl ?_
   obtain ⟨e1, he2, h⟩ := obind_some h
   obtain ⟨x2, hx3, h⟩ := olet_some h
   refine RunC.region_draw (Γ' := [⟨0, some [sl a0.length (a0.map (ik .u8)), i64 a1, ik .u64 a2]⟩]) 12 mixed 
    (TR.l (r := optr 0 0 0) rfl rfl (LOp.move rfl rfl) <|
    (TR.l (r := optr 0 0 0) rfl rfl (LOp.nilCheck_optr rfl rfl) <|
    (TR.l (r := optr 0 0 0) rfl rfl (LOp.fao und92 rfl siz22 rfl rfl rfl) <|
    (TR.d (r := sl a0.length (a0.map (ik .u8))) (fs := []) rfl rfl (TOp.load1_o rfl rfl agg22 rfl rfl) <|
    (TR.l (r := optr 0 0 0) rfl rfl (LOp.move rfl rfl) <|
    (TR.l (r := optr 0 0 0) rfl rfl (LOp.nilCheck_optr rfl rfl) <|
    (TR.l (r := optr 0 0 1) rfl rfl (LOp.fao und92 rfl siz3 rfl rfl rfl) <|
    (TR.d (r := i64 a1) (fs := []) rfl rfl (TOp.load1_o rfl rfl agg3 rfl rfl) <|
    (TR.l (r := ptr [ik .u8 e1]) rfl rfl (LOp.le (LOp.ix (f := (ik .u8)) und22 siz5 rfl rfl rfl rfl he2) ALe.ptr) <|
    (TR.l (r := ik .u8 e1) rfl rfl (LOp.load1 agg5 rfl rfl) <|
    (TR.l (r := i64 x2) rfl rfl (LOp.eqr (LOp.i2i (src := 5) (dst := 3) ⟨_, pun5⟩ pun3 rfl rfl) (congrArg (ik .i64) hx3)) <|
    (TR.l (r := i64 x2) rfl rfl (LOp.assign rfl rfl) <|
    TR.nil)))))))))))) rfl (by kernel_rfl) rfl fills_nil rfl ?_
   iterate 12 refine ROps.dropS ?_
   refine ROps.drop0 ?_
   refine zN ?_
   exact ⟨x2, ⟨aR, aR, trivial⟩, ⟨⟨rfl, .inr rfl⟩, trivial⟩, h⟩
  ·refine RunC.region_draw (Γ' := [⟨0, some [sl a0.length (a0.map (ik .u8)), i64 a1, ik .u64 a2]⟩]) 10 mixed 
    (TR.l (r := optr 0 0 0) rfl rfl (LOp.move rfl rfl) <|
    (TR.l (r := optr 0 0 0) rfl rfl (LOp.nilCheck_optr rfl rfl) <|
    (TR.l (r := optr 0 0 1) rfl rfl (LOp.fao und92 rfl siz3 rfl rfl rfl) <|
    (TR.d (r := i64 a1) (fs := []) rfl rfl (TOp.load1_o rfl rfl agg3 rfl rfl) <|
    (TR.l (r := optr 0 0 0) rfl rfl (LOp.move rfl rfl) <|
    (TR.l (r := optr 0 0 0) rfl rfl (LOp.nilCheck_optr rfl rfl) <|
    (TR.l (r := optr 0 0 0) rfl rfl (LOp.fao und92 rfl siz22 rfl rfl rfl) <|
    (TR.d (r := sl a0.length (a0.map (ik .u8))) (fs := []) rfl rfl (TOp.load1_o rfl rfl agg22 rfl rfl) <|
    (TR.l (r := i64 (a0.length : Int)) rfl rfl (LOp.len_sl und22 rfl rfl) <|
    (TR.l (r := b false) rfl rfl (LOp.eqb (LOp.lss rfl rfl rfl) hc1) <|
    TR.nil)))))))))) rfl (by kernel_rfl) rfl fills_nil rfl ?_
   iterate 10 refine ROps.dropS ?_
   refine ROps.drop0 ?_
   refine zN ?_
   refine RunC.cond_false rfl rfl ?_
   refine RunC.skip ?_
   exact ⟨0, ⟨aR, aR, trivial⟩, ⟨⟨rfl, .inr rfl⟩, trivial⟩, h⟩
 ·rintro τ2 Γ2 ⟨v3, hw2, hd2, h⟩
  refine RunC.wl hw2 hd2 ?_
  unfold s_l00Src_next_0p0_C0_k1 at h
  refine RunC.seq ?_
  obtain ⟨x4, hx4, h⟩ := olet_some h
  refine RunC.regionW ?_
  refine zm (r := optr 0 0 0) ?_
  refine zl (r := optr 0 0 0) (LOp.nilCheck_optr rfl rfl) ?_
  refine zl (r := optr 0 0 1) (LOp.fao und92 rfl siz3 rfl rfl rfl) ?_
  refine ROps.d (r := i64 a1) (fs := []) (Γ' := [⟨0, some [sl a0.length (a0.map (ik .u8)), i64 a1, ik .u64 a2]⟩]) rfl rfl rfl (TOp.load1_o rfl rfl agg3 rfl rfl) rfl ?_
  refine zl (r := i64 x4) (LOp.eqr (LOp.add rfl rfl rfl) (congrArg (ik .i64) hx4)) ?_
  refine zl (r := optr 0 0 0) (LOp.nilCheck_optr rfl rfl) ?_
  refine zl (r := optr 0 0 1) (LOp.fao und92 rfl siz3 rfl rfl rfl) ?_
  refine ROps.store_le (r := i64 x4) (l' := [sl a0.length (a0.map (ik .u8)), i64 x4, ik .u64 a2]) (Γ' := [⟨0, some [sl a0.length (a0.map (ik .u8)), i64 x4, ik .u64 a2]⟩]) rfl siz3 rfl rfl rfl aR rfl rfl rfl rfl (Nat.le_of_ble_eq_true rfl) rfl rfl ?_
  refine zN ?_
  refine RunC.seq ?_
  obtain ⟨x5, hx5, h⟩ := olet_some h
  obtain ⟨x6, hx6, h⟩ := olet_some h
  obtain ⟨x7, hx7, h⟩ := olet_some h
  obtain ⟨x8, hx8, h⟩ := olet_some h
  refine RunC.regionW ?_
  iterate 2 (refine zm (r := optr 0 0 0) ?_)
  refine zl (r := optr 0 0 0) (LOp.nilCheck_optr rfl rfl) ?_
  refine zl (r := optr 0 0 2) (LOp.fao und92 rfl siz90 rfl rfl rfl) ?_
  refine ROps.d (r := ik .u64 a2) (fs := []) (Γ' := [⟨0, some [sl a0.length (a0.map (ik .u8)), i64 x4, ik .u64 a2]⟩]) rfl rfl rfl (TOp.load1_o rfl rfl agg90 rfl rfl) rfl ?_
  refine zl (r := ik .u64 x5) (LOp.eqr (LOp.mul rfl rfl rfl) (congrArg (ik .u64) hx5)) ?_
  refine zm (r := i64 v3) ?_
  refine zl (r := ik .u64 x6) (LOp.eqr (LOp.i2i (src := 3) (dst := 90) ⟨_, pun3⟩ pun90 rfl rfl) (congrArg (ik .u64) hx6)) ?_
  refine zl (r := ik .u64 x7) (LOp.eqr (LOp.add rfl rfl rfl) (congrArg (ik .u64) hx7)) ?_
  refine zl (r := ik .u64 x8) (LOp.eqr (LOp.add rfl rfl rfl) (congrArg (ik .u64) hx8)) ?_
  refine zl (r := optr 0 0 0) (LOp.nilCheck_optr rfl rfl) ?_
  refine zl (r := optr 0 0 2) (LOp.fao und92 rfl siz90 rfl rfl rfl) ?_
  refine ROps.store_le (r := ik .u64 x8) (l' := [sl a0.length (a0.map (ik .u8)), i64 x4, ik .u64 x8]) (Γ' := [⟨0, some [sl a0.length (a0.map (ik .u8)), i64 x4, ik .u64 x8]⟩]) rfl siz90 rfl rfl rfl aR rfl rfl rfl rfl (Nat.le_of_ble_eq_true rfl) rfl rfl ?_
  refine zN ?_
  refine RunC.wl (τ' := [(0, optr 0 0 0), (3, i64 v3)]) (Γ' := [⟨0, some [sl a0.length (a0.map (ik .u8)), i64 x4, ik .u64 x8]⟩]) ⟨aR, aR, trivial⟩ ⟨⟨rfl, .inr rfl⟩, trivial⟩ ?_
  iterate 2 (refine RunC.seq ?_)
  rcases bsel_some h with ⟨hc9, h⟩ | ⟨hc9, h⟩
  ·refine RunC.region_draw (Γ' := [⟨0, some [sl a0.length (a0.map (ik .u8)), i64 x4, ik .u64 x8]⟩]) 10 mixed 
    (TR.l (r := optr 0 0 0) rfl rfl (LOp.move rfl rfl) <|
    (TR.l (r := optr 0 0 0) rfl rfl (LOp.nilCheck_optr rfl rfl) <|
    (TR.l (r := optr 0 0 1) rfl rfl (LOp.fao und92 rfl siz3 rfl rfl rfl) <|
    (TR.d (r := i64 x4) (fs := []) rfl rfl (TOp.load1_o rfl rfl agg3 rfl rfl) <|
    (TR.l (r := optr 0 0 0) rfl rfl (LOp.move rfl rfl) <|
    (TR.l (r := optr 0 0 0) rfl rfl (LOp.nilCheck_optr rfl rfl) <|
    (TR.l (r := optr 0 0 0) rfl rfl (LOp.fao und92 rfl siz22 rfl rfl rfl) <|
    (TR.d (r := sl a0.length (a0.map (ik .u8))) (fs := []) rfl rfl (TOp.load1_o rfl rfl agg22 rfl rfl) <|
    (TR.l (r := i64 (a0.length : Int)) rfl rfl (LOp.len_sl und22 rfl rfl) <|
    (TR.l (r := b true) rfl rfl (LOp.eqb (LOp.leq rfl rfl rfl) hc9) <|
    TR.nil)))))))))) rfl (by kernel_rfl) rfl fills_nil rfl ?_
   iterate 10 refine ROps.dropS ?_
   refine ROps.drop0 ?_
   refine zN ?_
   refine RunC.cond_true rfl rfl ?_
   refine zQ ?_
   refine zm (r := i64 v3) ?_
   refine za (r := i64 v3) ?_
   refine zN ?_
   refine RunC.ret ?_
   have hq := Option.some.inj h
   obtain ⟨hq0, hq⟩ := Prod.mk.inj hq
   obtain ⟨hq1, hq⟩ := Prod.mk.inj hq
   subst q0
   subst q1
   subst q2
   exact bodyQ.mk (r' := i64 v3) [(0, 0)] (.inr rfl) rfl (show List.Nodup [0] from by decide) rfl rfl (Res.one rfl (RV.tmp rfl)) (SelL.cells rfl (by first | rfl | simp [ren, rens, sigma, rens_f32, rens_f64, rens_i64, rens_ik, rens_str, rens_cp]) (lts_cons (lt_slk (fun _ => rfl)) (lts_cons rfl (lts_cons rfl lts_nil))) trivial)
  ·refine RunC.region_draw (Γ' := [⟨0, some [sl a0.length (a0.map (ik .u8)), i64 x4, ik .u64 x8]⟩]) 10 mixed 
    (TR.l (r := optr 0 0 0) rfl rfl (LOp.move rfl rfl) <|
    (TR.l (r := optr 0 0 0) rfl rfl (LOp.nilCheck_optr rfl rfl) <|
    (TR.l (r := optr 0 0 1) rfl rfl (LOp.fao und92 rfl siz3 rfl rfl rfl) <|
    (TR.d (r := i64 x4) (fs := []) rfl rfl (TOp.load1_o rfl rfl agg3 rfl rfl) <|
    (TR.l (r := optr 0 0 0) rfl rfl (LOp.move rfl rfl) <|
    (TR.l (r := optr 0 0 0) rfl rfl (LOp.nilCheck_optr rfl rfl) <|
    (TR.l (r := optr 0 0 0) rfl rfl (LOp.fao und92 rfl siz22 rfl rfl rfl) <|
    (TR.d (r := sl a0.length (a0.map (ik .u8))) (fs := []) rfl rfl (TOp.load1_o rfl rfl agg22 rfl rfl) <|
    (TR.l (r := i64 (a0.length : Int)) rfl rfl (LOp.len_sl und22 rfl rfl) <|
    (TR.l (r := b false) rfl rfl (LOp.eqb (LOp.leq rfl rfl rfl) hc9) <|
    TR.nil)))))))))) rfl (by kernel_rfl) rfl fills_nil rfl ?_
   iterate 10 refine ROps.dropS ?_
   refine ROps.drop0 ?_
   refine zN ?_
   refine RunC.cond_false rfl rfl ?_
   refine RunC.skip ?_
   refine RunC.seq ?_
   obtain ⟨hz10, h⟩ := need_some h
   obtain ⟨x9, hx11, h⟩ := olet_some h
   obtain ⟨x10, hx12, h⟩ := olet_some h
   obtain ⟨x11, hx13, h⟩ := olet_some h
   refine RunC.regionW ?_
   refine zm (r := optr 0 0 0) ?_
   refine zl (r := optr 0 0 0) (LOp.nilCheck_optr rfl rfl) ?_
   refine zl (r := optr 0 0 2) (LOp.fao und92 rfl siz90 rfl rfl rfl) ?_
   refine ROps.d (r := ik .u64 x8) (fs := []) (Γ' := [⟨0, some [sl a0.length (a0.map (ik .u8)), i64 x4, ik .u64 x8]⟩]) rfl rfl rfl (TOp.load1_o rfl rfl agg90 rfl rfl) rfl ?_
   refine zl (r := ik .u64 x9) (LOp.eqr (LOp.shr rfl rfl rfl (of_decide_eq_true hz10)) (congrArg (ik .u64) hx11)) ?_
   refine zl (r := ik .u64 x10) (LOp.eqr (LOp.iand rfl rfl rfl) (congrArg (ik .u64) hx12)) ?_
   refine zl (r := i64 x11) (LOp.eqr (LOp.i2i (src := 90) (dst := 2) ⟨_, pun90⟩ pun2 rfl rfl) (congrArg (ik .i64) hx13)) ?_
   refine za (r := i64 x11) ?_
   refine zN ?_
   refine RunC.ret ?_
   have hq := Option.some.inj h
   obtain ⟨hq0, hq⟩ := Prod.mk.inj hq
   obtain ⟨hq1, hq⟩ := Prod.mk.inj hq
   subst q0
   subst q1
   subst q2
   exact bodyQ.mk (r' := i64 x11) [(0, 0)] (.inr rfl) rfl (show List.Nodup [0] from by decide) rfl rfl (Res.one rfl (RV.tmp rfl)) (SelL.cells rfl (by first | rfl | simp [ren, rens, sigma, rens_f32, rens_f64, rens_i64, rens_ik, rens_str, rens_cp]) (lts_cons (lt_slk (fun _ => rfl)) (lts_cons rfl (lts_cons rfl lts_nil))) trivial)
noncomputable def s_l00Src_pick_0p0_C0_k1 (a0 : Int) (v9 : Int) (v10 : Int) (v11 : Int) : Option (Int × Int × Int) :=
 need (!decide (a0 = 0)) <|
 olet (v11.tmod a0) fun (x12 : Int) =>
 some (x12, v9, v10)
noncomputable def s_l00Src_pick_0p0_C0 (a0 : Int) (a1 : List Int) (a2 : Int) (a3 : Int) : Option (Int × Int × Int) :=
 bsel (decide (a0 ≤ 1)) (
  some (0, a2, a3)) (
  obind3 (s_l00Src_next_0p0_C0 a1 a2 a3) fun (r1 : Int) (r2 : Int) (r3 : Int) =>
  bsel (decide (200 < a0)) (
   olet (IntKind.i64.wrap (r1 * 256)) fun (x4 : Int) =>
   obind3 (s_l00Src_next_0p0_C0 a1 r2 r3) fun (r5 : Int) (r6 : Int) (r7 : Int) =>
   olet (IntKind.i64.wrap (x4 + r5)) fun (x8 : Int) =>
   s_l00Src_pick_0p0_C0_k1 a0 r6 r7 x8) (
   s_l00Src_pick_0p0_C0_k1 a0 r2 r3 r1))
theorem s_l00Src_pick_0p0_C0_ok (a0 : Int) (a1 : List Int) (a2 : Int) (a3 : Int) (q0 : Int) (q1 : Int) (q2 : Int) (h : s_l00Src_pick_0p0_C0 a0 a1 a2 a3 = some (q0, q1, q2)) : Ev Tryz.prog 39 [optr 0 0 0, i64 a0] [⟨0, some [sl a1.length (a1.map (ik .u8)), i64 a2, ik .u64 a3]⟩] (i64 q0) [⟨0, some [sl a1.length (a1.map (ik .u8)), i64 q1, ik .u64 q2]⟩] := by
 refine Ev.start Tryz.func39 rfl rfl 0 (τ := [(0, optr 0 0 0), (1, i64 a0)]) rfl (Γ' := [⟨0, some [sl a1.length (a1.map (ik .u8)), i64 a2, ik .u64 a3]⟩]) rfl (n := 40) rfl (g := 1) rfl (by decide) ?_
 unfold s_l00Src_pick_0p0_C0 at h
 refine zQ ?_
 refine za (r := i64 0) ?_
 refine zN ?_
 iterate 2 (refine RunC.seq ?_)
 rcases bsel_some h with ⟨hc1, h⟩ | ⟨hc1, h⟩
 ·refine RunC.regionW ?_
  refine zm (r := i64 a0) ?_
  refine zl (r := b true) (LOp.eqb (LOp.leq rfl rfl rfl) hc1) ?_
  refine zN ?_
  refine RunC.cond_true rfl rfl ?_
  refine zQ ?_
  refine za (r := i64 0) ?_
  refine zN ?_
  refine RunC.ret ?_
  have hq := Option.some.inj h
  obtain ⟨hq0, hq⟩ := Prod.mk.inj hq
  obtain ⟨hq1, hq⟩ := Prod.mk.inj hq
  subst q0
  subst q1
  subst q2
  exact bodyQ.mk (r' := i64 0) [(0, 0)] (.inr rfl) rfl (show List.Nodup [0] from by decide) rfl rfl (Res.one rfl (RV.tmp rfl)) (SelL.cells rfl (by first | rfl | simp [ren, rens, sigma, rens_f32, rens_f64, rens_i64, rens_ik, rens_str, rens_cp]) (lts_cons (lt_slk (fun _ => rfl)) (lts_cons rfl (lts_cons rfl lts_nil))) trivial)
 ·refine RunC.regionW ?_
  refine zm (r := i64 a0) ?_
  refine zl (r := b false) (LOp.eqb (LOp.leq rfl rfl rfl) hc1) ?_
  refine zN ?_
  refine RunC.cond_false rfl rfl ?_
  refine RunC.skip ?_
  refine RunC.seq ?_
  obtain ⟨r1, r2, r3, hf2, h⟩ := obind3_some h
  refine RunC.regionW ?_
  refine zm (r := optr 0 0 0) ?_
  refine ROps.callO (A := [optr 0 0 0]) (args := [optr 0 0 0]) (Γc := [⟨0, some [sl a1.length (a1.map (ik .u8)), i64 a2, ik .u64 a3]⟩]) (Γc' := [⟨0, some [sl a1.length (a1.map (ik .u8)), i64 r2, ik .u64 r3]⟩]) (r' := i64 r1) (Γ' := [⟨0, some [sl a1.length (a1.map (ik .u8)), i64 r2, ik .u64 r3]⟩]) [(0, 0)] [] rfl (CallAs.func ent75 rfl rfl) rfl rfl (SelOk.of (show List.Nodup [0] from by decide) (SelL.cells0 rfl (by simp [ren, rens, sigma, rens_f32, rens_f64, rens_i64, rens_ik, rens_str, rens_cp]) (lts_cons (lt_slk (fun _ => rfl)) (lts_cons rfl (lts_cons rfl lts_nil))) trivial)) (live_of ⟨⟨_, _, rfl⟩, trivial⟩) (by simp [ren, rens, sigma, rens_f32, rens_f64, rens_i64, rens_ik, rens_str, rens_cp]) rfl (s_l00Src_next_0p0_C0_ok a1 a2 a3 r1 r2 r3 hf2) rfl (news_of trivial) (show List.Nodup [0] from by decide) (by simp [ren, rens, sigma]) (by simp [backOb, sigma, ren, rens, rens_f32, rens_f64, rens_i64, rens_ik, rens_str, rens_cp]) ?_
  refine za (r := i64 r1) ?_
  refine zN ?_
  refine RunC.seq ?_
  refine RunC.cutN (fun τ Γ => ∃ (v9 : Int) (v10 : Int) (v11 : Int), WeakLe τ [(1, i64 a0), (5, i64 v11)] ∧ DeadLe Γ [⟨0, some [sl a1.length (a1.map (ik .u8)), i64 v9, ik .u64 v10]⟩] ∧ s_l00Src_pick_0p0_C0_k1 a0 v9 v10 v11 = some (q0, q1, q2)) ?_ ?_
  ·refine RunC.seq ?_
   rcases bsel_some h with ⟨hc3, h⟩ | ⟨hc3, h⟩
   ·refine RunC.regionW ?_
    refine zm (r := i64 a0) ?_
    refine zl (r := b true) (LOp.eqb (LOp.gtr rfl rfl rfl) hc3) ?_
    refine zN ?_
    refine RunC.cond_true rfl rfl ?_
    obtain ⟨x4, hx4, h⟩ := olet_some h
    obtain ⟨r5, r6, r7, hf5, h⟩ := obind3_some h
    obtain ⟨x8, hx6, h⟩ := olet_some h
    refine RunC.regionW ?_
    refine zm (r := i64 r1) ?_
    refine zl (r := i64 x4) (LOp.eqr (LOp.mul rfl rfl rfl) (congrArg (ik .i64) hx4)) ?_
    refine zm (r := optr 0 0 0) ?_
    refine ROps.callO (A := [optr 0 0 0]) (args := [optr 0 0 0]) (Γc := [⟨0, some [sl a1.length (a1.map (ik .u8)), i64 r2, ik .u64 r3]⟩]) (Γc' := [⟨0, some [sl a1.length (a1.map (ik .u8)), i64 r6, ik .u64 r7]⟩]) (r' := i64 r5) (Γ' := [⟨0, some [sl a1.length (a1.map (ik .u8)), i64 r6, ik .u64 r7]⟩]) [(0, 0)] [] rfl (CallAs.func ent75 rfl rfl) rfl rfl (SelOk.of (show List.Nodup [0] from by decide) (SelL.cells0 rfl (by simp [ren, rens, sigma, rens_f32, rens_f64, rens_i64, rens_ik, rens_str, rens_cp]) (lts_cons (lt_slk (fun _ => rfl)) (lts_cons rfl (lts_cons rfl lts_nil))) trivial)) (live_of ⟨⟨_, _, rfl⟩, trivial⟩) (by simp [ren, rens, sigma, rens_f32, rens_f64, rens_i64, rens_ik, rens_str, rens_cp]) rfl (s_l00Src_next_0p0_C0_ok a1 r2 r3 r5 r6 r7 hf5) rfl (news_of trivial) (show List.Nodup [0] from by decide) (by simp [ren, rens, sigma]) (by simp [backOb, sigma, ren, rens, rens_f32, rens_f64, rens_i64, rens_ik, rens_str, rens_cp]) ?_
    refine zl (r := i64 x8) (LOp.eqr (LOp.add rfl rfl rfl) (congrArg (ik .i64) hx6)) ?_
    refine za (r := i64 x8) ?_
    refine zN ?_
    exact ⟨r6, r7, x8, ⟨aR, aR, trivial⟩, ⟨⟨rfl, .inr rfl⟩, trivial⟩, h⟩
   ·refine RunC.regionW ?_
    refine zm (r := i64 a0) ?_
    refine zl (r := b false) (LOp.eqb (LOp.gtr rfl rfl rfl) hc3) ?_
    refine zN ?_
    refine RunC.cond_false rfl rfl ?_
    refine RunC.skip ?_
    exact ⟨r2, r3, r1, ⟨aR, aR, trivial⟩, ⟨⟨rfl, .inr rfl⟩, trivial⟩, h⟩
  ·rintro τ2 Γ2 ⟨v9, v10, v11, hw2, hd2, h⟩
   refine RunC.wl hw2 hd2 ?_
   unfold s_l00Src_pick_0p0_C0_k1 at h
   refine RunC.seq ?_
   obtain ⟨hz7, h⟩ := need_some h
   obtain ⟨x12, hx8, h⟩ := olet_some h
   refine RunC.regionW ?_
   refine zm (r := i64 v11) ?_
   refine zm (r := i64 a0) ?_
   refine zl (r := i64 x12) (LOp.eqr (LOp.rem rfl rfl rfl (nz hz7)) (congrArg (ik .i64) hx8)) ?_
   refine za (r := i64 x12) ?_
   refine zN ?_
   refine RunC.ret ?_
   have hq := Option.some.inj h
   obtain ⟨hq0, hq⟩ := Prod.mk.inj hq
   obtain ⟨hq1, hq⟩ := Prod.mk.inj hq
   subst q0
   subst q1
   subst q2
   exact bodyQ.mk (r' := i64 x12) [(0, 0)] (.inr rfl) rfl (show List.Nodup [0] from by decide) rfl rfl (Res.one rfl (RV.tmp rfl)) (SelL.cells rfl (by first | rfl | simp [ren, rens, sigma, rens_f32, rens_f64, rens_i64, rens_ik, rens_str, rens_cp]) (lts_cons (lt_slk (fun _ => rfl)) (lts_cons rfl (lts_cons rfl lts_nil))) trivial)
noncomputable def s_B10Whole_b1 (a2 : Int) (r1 : List Int) (L6 : List (F × F)) (v7 : Int) (v8 : Int) (v9 : Int) : Option (LR ((List (F × F)) × Int × Int × Int) ((List (F × F))) ((List (F × F)))) :=
 bsel (decide (0 < v9)) (
  olet (IntKind.i64.wrap (2 * a2)) fun (x10 : Int) =>
  olet (IntKind.i64.wrap (x10 + 1)) fun (x11 : Int) =>
  obind3 (s_l00Src_pick_0p0_C0 x11 r1 v7 v8) fun (r12 : Int) (r13 : Int) (r14 : Int) =>
  olet (IntKind.i64.wrap (r12 - a2)) fun (x15 : Int) =>
  olet (fint .f32 x15) fun (x16 : F) =>
  olet (IntKind.i64.wrap (2 * a2)) fun (x17 : Int) =>
  olet (IntKind.i64.wrap (x17 + 1)) fun (x18 : Int) =>
  obind3 (s_l00Src_pick_0p0_C0 x18 r1 r13 r14) fun (r19 : Int) (r20 : Int) (r21 : Int) =>
  olet (IntKind.i64.wrap (r19 - a2)) fun (x22 : Int) =>
  olet (fint .f32 x22) fun (x23 : F) =>
  need (apok 8 L6.length 1) <|
  olet (IntKind.i64.wrap (v9 - 1)) fun (x24 : Int) =>
  some (LR.next ((L6 ++ ([(x16, x23)] : List (F × F))), r20, r21, x24))) (
  some (LR.out L6))
noncomputable def s_B10Whole_s1 (a2 : Int) (r1 : List Int) : ((List (F × F)) × Int × Int × Int) → Option (LR ((List (F × F)) × Int × Int × Int) ((List (F × F))) ((List (F × F)))) := fun s => s_B10Whole_b1 a2 r1 s.1 s.2.1 s.2.2.1 s.2.2.2
noncomputable def s_B10Whole_k1 (L27 : List (F × F)) : Option ((List (F × F))) :=
 some L27
noncomputable def s_B10Whole (a0 : List Int) (a1 : Int) (a2 : Int) : Option ((List (F × F))) :=
 obind3 (s_l00From a0) fun (r1 : List Int) (r2 : Int) (r3 : Int) =>
 obind (loopM (s_B10Whole_s1 a2 r1) (([] : List (F × F)), r2, r3, a1)) fun z => osum z (fun e => s_B10Whole_k1 e) (fun r => some r)
theorem s_B10Whole_ok (a0 : List Int) (a1 : Int) (a2 : Int) (q0 : List (F × F)) (h : s_B10Whole a0 a1 a2 = some q0) : Ev Tryz.prog 6 [sl a0.length (a0.map (ik .u8)), i64 a1, i64 a2] [] (oref 0 0 0 q0.length) [⟨0, some (q0.map (cp .f32))⟩] := by
 refine Ev.start Tryz.func6 rfl rfl 3 (τ := [(0, sl a0.length (a0.map (ik .u8))), (1, i64 a1), (2, i64 a2)]) rfl (Γ' := [⟨0, none⟩, ⟨0, none⟩, ⟨0, none⟩]) rfl (n := 79) rfl (g := 0) rfl (fun _ => rfl) ?_
 unfold s_B10Whole at h
 refine zQ ?_
 refine za (r := nilsl) ?_
 refine zN ?_
 refine RunC.seq ?_
 obtain ⟨r1, r2, r3, hf1, h⟩ := obind3_some h
 refine RunC.regionW ?_
 refine zm (r := sl a0.length (a0.map (ik .u8))) ?_
 refine ROps.d (r := optr 0 1 0) (fs := [(0, [sl r1.length (r1.map (ik .u8)), i64 r2, ik .u64 r3])]) (Γ' := [⟨1, some [sl r1.length (r1.map (ik .u8)), i64 r2, ik .u64 r3]⟩, ⟨0, none⟩, ⟨0, none⟩]) rfl rfl rfl (TOp.callN (A := [sl a0.length (a0.map (ik .u8))]) (ls := [[sl r1.length (r1.map (ik .u8)), i64 r2, ik .u64 r3]]) [0] (by exact (CallAs.func ent38 rfl rfl)) (lts_cons (lt_sl (fun _ => rfl)) lts_nil) (s_l00From_ok a0 r1 r2 r3 hf1) (and_all (lts_cons (lt_sl (fun _ => rfl)) (lts_cons rfl (lts_cons rfl lts_nil))) rfl) rfl (by decide) (ns_of ⟨⟨_, rfl⟩, trivial⟩)) rfl ?_
 refine za (r := optr 0 1 0) ?_
 refine zN ?_
 refine zQ ?_
 refine ROps.d (r := oref 1 1 0 0) (fs := [(1, (([] : List (F × F)).map (cp .f32)))]) (Γ' := [⟨1, some [sl r1.length (r1.map (ik .u8)), i64 r2, ik .u64 r3]⟩, ⟨1, some (([] : List (F × F)).map (cp .f32))⟩, ⟨0, none⟩]) rfl rfl rfl (TOp.buildSlice_o (g := ⟨0, none⟩) (za := cx .f32 (some 0) (some 0)) (qs := []) 1 rfl und25 siz24 zer24 rfl zel24 rfl rfl trivial rfl) rfl ?_
 refine za (r := oref 1 1 0 0) ?_
 refine zN ?_
 refine RunC.seq ?_
 obtain ⟨z2, hz_2, h⟩ := obind_some h
 refine RunC.cutN (fun τ Γ => ∃ (L27 : List (F × F)) (u25 : Nat) (u26 : Nat), WeakLe τ [(8, oref 1 u25 0 L27.length)] ∧ DeadLe Γ [⟨1, none⟩, ⟨u25, some (L27.map (cp .f32))⟩, ⟨u26, none⟩] ∧ z2 = .inl L27) ?_ ?_
 ·refine RunC.block (RunC.loop (RunL.loopM (x := z2) (s_B10Whole_s1 a2 r1) (fun (s : (List (F × F)) × Int × Int × Int) τ Γ => ∃ (u4 : Nat) (u5 : Nat), WeakLe τ [(1, i64 s.2.2.2), (2, i64 a2), (7, optr 0 1 0), (8, oref 1 u4 0 s.1.length)] ∧ DeadLe Γ [⟨1, some [sl r1.length (r1.map (ik .u8)), i64 s.2.1, ik .u64 s.2.2.1]⟩, ⟨u4, some (s.1.map (cp .f32))⟩, ⟨u5, none⟩]) ?_ _ _ _ hz_2 ⟨1, 0, ⟨aR, aR, aR, aR, trivial⟩, ⟨⟨rfl, .inr rfl⟩, ⟨rfl, .inr rfl⟩, ⟨rfl, .inl rfl⟩, trivial⟩⟩))
  rintro ⟨L6, v7, v8, v9⟩ τ2 Γ2 y2_ ⟨u4, u5, hw2, hd2⟩ h2_ ho2 hr2
  refine RunC.wl (τ' := [(1, i64 v9), (2, i64 a2), (7, optr 0 1 0), (8, oref 1 u4 0 L6.length)]) (Γ' := [⟨1, some [sl r1.length (r1.map (ik .u8)), i64 v7, ik .u64 v8]⟩, ⟨u4, some (L6.map (cp .f32))⟩, ⟨u5, none⟩]) hw2 hd2 ?_
  replace h2_ : s_B10Whole_b1 a2 r1 L6 v7 v8 v9 = some y2_ := h2_
  unfold s_B10Whole_b1 at h2_
  iterate 2 (refine RunC.seq ?_)
  rcases bsel_some h2_ with ⟨hc2, h2_⟩ | ⟨hc2, h2_⟩
  ·refine RunC.regionW ?_
   refine zm (r := i64 v9) ?_
   refine zl (r := b true) (LOp.eqb (LOp.gtr rfl rfl rfl) hc2) ?_
   refine zN ?_
   refine RunC.cond_true rfl rfl ?_
   refine RunC.skip ?_
   refine RunC.seq ?_
   refine RunC.block ?_
   refine RunC.seq ?_
   obtain ⟨x10, hx3, h2_⟩ := olet_some h2_
   obtain ⟨x11, hx4, h2_⟩ := olet_some h2_
   obtain ⟨r12, r13, r14, hf5, h2_⟩ := obind3_some h2_
   obtain ⟨x15, hx6, h2_⟩ := olet_some h2_
   obtain ⟨x16, hx7, h2_⟩ := olet_some h2_
   refine RunC.regionW ?_
   refine zm (r := optr 0 1 0) ?_
   refine zm (r := i64 a2) ?_
   refine zl (r := i64 x10) (LOp.eqr (LOp.mul rfl rfl rfl) (congrArg (ik .i64) hx3)) ?_
   refine zl (r := i64 x11) (LOp.eqr (LOp.add rfl rfl rfl) (congrArg (ik .i64) hx4)) ?_
   refine ROps.callO (A := [optr 0 1 0, i64 x11]) (args := [optr 0 0 0, i64 x11]) (Γc := [⟨0, some [sl r1.length (r1.map (ik .u8)), i64 v7, ik .u64 v8]⟩]) (Γc' := [⟨0, some [sl r1.length (r1.map (ik .u8)), i64 r13, ik .u64 r14]⟩]) (r' := i64 r12) (Γ' := [⟨1, some [sl r1.length (r1.map (ik .u8)), i64 r13, ik .u64 r14]⟩, ⟨u4, some (L6.map (cp .f32))⟩, ⟨u5, none⟩]) [(0, 1)] [] rfl (CallAs.func ent39 rfl rfl) rfl rfl (SelOk.of (show List.Nodup [0] from by decide) (SelL.cells0 rfl (by simp [ren, rens, sigma, rens_f32, rens_f64, rens_i64, rens_ik, rens_str, rens_cp]) (lts_cons (lt_slk (fun _ => rfl)) (lts_cons rfl (lts_cons rfl lts_nil))) trivial)) (live_of ⟨⟨_, _, rfl⟩, trivial⟩) (by simp [ren, rens, sigma, rens_f32, rens_f64, rens_i64, rens_ik, rens_str, rens_cp]) rfl (s_l00Src_pick_0p0_C0_ok x11 r1 v7 v8 r12 r13 r14 hf5) rfl (news_of trivial) (show List.Nodup [0] from by decide) (by simp [ren, rens, sigma]) (by simp [backOb, sigma, ren, rens, rens_f32, rens_f64, rens_i64, rens_ik, rens_str, rens_cp]) ?_
   refine zm (r := i64 a2) ?_
   refine zl (r := i64 x15) (LOp.eqr (LOp.sub rfl rfl rfl) (congrArg (ik .i64) hx6)) ?_
   refine zl (r := f32 x16) (LOp.eqr (LOp.i2f (src := 2) (dst := 28) ⟨_, pun2⟩ pun28 rfl rfl) (congrArg (f .f32) hx7)) ?_
   refine za (r := f32 x16) ?_
   refine zN ?_
   obtain ⟨x17, hx8, h2_⟩ := olet_some h2_
   obtain ⟨x18, hx9, h2_⟩ := olet_some h2_
   obtain ⟨r19, r20, r21, hf10, h2_⟩ := obind3_some h2_
   obtain ⟨x22, hx11, h2_⟩ := olet_some h2_
   obtain ⟨x23, hx12, h2_⟩ := olet_some h2_
   obtain ⟨hm13, h2_⟩ := need_some h2_
   refine RunC.regionW ?_
   refine zm (r := oref 1 u4 0 L6.length) ?_
   refine zm (r := f32 x16) ?_
   refine zm (r := optr 0 1 0) ?_
   refine zm (r := i64 a2) ?_
   refine zl (r := i64 x17) (LOp.eqr (LOp.mul rfl rfl rfl) (congrArg (ik .i64) hx8)) ?_
   refine zl (r := i64 x18) (LOp.eqr (LOp.add rfl rfl rfl) (congrArg (ik .i64) hx9)) ?_
   refine ROps.callO (A := [optr 0 1 0, i64 x18]) (args := [optr 0 0 0, i64 x18]) (Γc := [⟨0, some [sl r1.length (r1.map (ik .u8)), i64 r13, ik .u64 r14]⟩]) (Γc' := [⟨0, some [sl r1.length (r1.map (ik .u8)), i64 r20, ik .u64 r21]⟩]) (r' := i64 r19) (Γ' := [⟨1, some [sl r1.length (r1.map (ik .u8)), i64 r20, ik .u64 r21]⟩, ⟨u4, some (L6.map (cp .f32))⟩, ⟨u5, none⟩]) [(0, 1)] [] rfl (CallAs.func ent39 rfl rfl) rfl rfl (SelOk.of (show List.Nodup [0] from by decide) (SelL.cells0 rfl (by simp [ren, rens, sigma, rens_f32, rens_f64, rens_i64, rens_ik, rens_str, rens_cp]) (lts_cons (lt_slk (fun _ => rfl)) (lts_cons rfl (lts_cons rfl lts_nil))) trivial)) (live_of ⟨⟨_, _, rfl⟩, trivial⟩) (by simp [ren, rens, sigma, rens_f32, rens_f64, rens_i64, rens_ik, rens_str, rens_cp]) rfl (s_l00Src_pick_0p0_C0_ok x18 r1 r13 r14 r19 r20 r21 hf10) rfl (news_of trivial) (show List.Nodup [0] from by decide) (by simp [ren, rens, sigma]) (by simp [backOb, sigma, ren, rens, rens_f32, rens_f64, rens_i64, rens_ik, rens_str, rens_cp]) ?_
   refine zm (r := i64 a2) ?_
   refine zl (r := i64 x22) (LOp.eqr (LOp.sub rfl rfl rfl) (congrArg (ik .i64) hx11)) ?_
   refine zl (r := f32 x23) (LOp.eqr (LOp.i2f (src := 2) (dst := 28) ⟨_, pun2⟩ pun28 rfl rfl) (congrArg (f .f32) hx12)) ?_
   refine zl (r := cx .f32 x16 x23) (LOp.complex rfl (OpF.tmp rfl) (OpF.tmp rfl)) ?_
   refine ROps.d (r := oref 2 (u5 + 1) 0 1) (fs := [(2, (([(x16, x23)] : List (F × F)).map (cp .f32)))]) (Γ' := [⟨1, some [sl r1.length (r1.map (ik .u8)), i64 r20, ik .u64 r21]⟩, ⟨u4, some (L6.map (cp .f32))⟩, ⟨(u5 + 1), some (([(x16, x23)] : List (F × F)).map (cp .f32))⟩]) rfl rfl rfl (TOp.buildSlice_o (g := ⟨u5, none⟩) (za := cx .f32 (some 0) (some 0)) (qs := [(0, [cx .f32 x16 x23])]) 2 rfl und25 siz24 zer24 rfl zel24 rfl rfl ⟨rfl, ⟨_, ALe.refl _, rfl⟩, trivial⟩ rfl) rfl ?_
   refine ROps.app (f := (cp .f32)) (xs := L6) (ys := ([(x16, x23)] : List (F × F))) (Γ' := [⟨1, some [sl r1.length (r1.map (ik .u8)), i64 r20, ik .u64 r21]⟩, ⟨(u4 + 1), some ((L6 ++ ([(x16, x23)] : List (F × F))).map (cp .f32))⟩, ⟨(u5 + 1), some (([(x16, x23)] : List (F × F)).map (cp .f32))⟩]) rfl pun25 inf24 rfl rfl rfl rfl rfl rfl rfl rfl rfl (by simp) (ReadAs.own rfl (by simp)) (ones_map (fun _ => rfl)) (ap_by hm13) (ap_mx hm13) rfl ?_
   refine za (r := oref 1 (u4 + 1) 0 (L6.length + 1)) ?_
   refine zN ?_
   refine RunC.wl (τ' := [(1, i64 v9), (2, i64 a2), (7, optr 0 1 0), (8, oref 1 (u4 + 1) 0 (L6.length + 1))]) (Γ' := [⟨1, some [sl r1.length (r1.map (ik .u8)), i64 r20, ik .u64 r21]⟩, ⟨(u4 + 1), some ((L6 ++ ([(x16, x23)] : List (F × F))).map (cp .f32))⟩, ⟨(u5 + 1), none⟩]) ⟨aR, aR, aR, aR, trivial⟩ ⟨⟨rfl, .inr rfl⟩, ⟨rfl, .inr rfl⟩, ⟨rfl, .inl rfl⟩, trivial⟩ ?_
   obtain ⟨x24, hx14, h2_⟩ := olet_some h2_
   refine RunC.regionW ?_
   refine zm (r := i64 v9) ?_
   refine zl (r := i64 x24) (LOp.eqr (LOp.sub rfl rfl rfl) (congrArg (ik .i64) hx14)) ?_
   refine za (r := i64 x24) ?_
   refine zN ?_
   cases Option.some.inj h2_
   exact ⟨_, rfl, (u4 + 1), (u5 + 1), ⟨aR, aR, aR, (ALe.eq (by rw [(app_len rfl rfl)] <;> rfl)), trivial⟩, ⟨⟨rfl, .inr rfl⟩, ⟨rfl, .inr rfl⟩, ⟨rfl, .inl rfl⟩, trivial⟩⟩
  ·refine RunC.regionW ?_
   refine zm (r := i64 v9) ?_
   refine zl (r := b false) (LOp.eqb (LOp.gtr rfl rfl rfl) hc2) ?_
   refine zN ?_
   refine RunC.cond_false rfl rfl ?_
   refine RunC.exit ?_
   cases Option.some.inj h2_
   have hx := ho2 _ rfl
   exact ⟨L6, u4, u5, ⟨aR, trivial⟩, ⟨⟨rfl, .inl rfl⟩, ⟨rfl, .inr rfl⟩, ⟨rfl, .inl rfl⟩, trivial⟩, hx⟩
 ·rintro τ3 Γ3 ⟨L27, u25, u26, hw3, hd3, rfl⟩
  refine RunC.wl hw3 hd3 ?_
  replace h : s_B10Whole_k1 L27 = some q0 := h
  unfold s_B10Whole_k1 at h
  refine zQ ?_
  refine zm (r := oref 1 u25 0 L27.length) ?_
  refine za (r := oref 1 u25 0 L27.length) ?_
  refine zN ?_
  refine RunC.ret ?_
  have hq := Option.some.inj h
  subst q0
  exact bodyQ.mk (r' := oref 1 u25 0 L27.length) [(1, u25)] (.inr rfl) rfl (show List.Nodup [1] from by decide) (by simp [ren, rens, sigma]) rfl (Res.one rfl (RV.tmp rfl)) (SelL.arr0 (f := (cp .f32)) (fun _ => rfl) rfl trivial)
noncomputable def i_mul64 (a0 : F) (a1 : F) : Option (F) :=
 olet (fop .mul .f64 a0 a1) fun (x1 : F) =>
 some x1
theorem i_mul64_ok (a0 : F) (a1 : F) (q0 : F) (h : i_mul64 a0 a1 = some q0) : Ev Tryz.prog 72 [f64 a0, f64 a1] [] (f64 q0) [] := by
 refine Ev.start Tryz.func72 rfl rfl 0 (τ := [(0, f64 a0), (1, f64 a1)]) rfl (Γ' := []) rfl (n := 17) rfl (g := 0) rfl (fun _ => rfl) ?_
 unfold i_mul64 at h
 refine zQ ?_
 refine zl (r := f64 (some 0)) (LOp.le (LOp.assign rfl rfl) (ALe.fl (by kernel_rfl) (by kernel_rfl))) ?_
 refine zN ?_
 refine RunC.seq ?_
 obtain ⟨x1, hx1, h⟩ := olet_some h
 refine RunC.regionW ?_
 refine zm (r := f64 a0) ?_
 refine zm (r := f64 a1) ?_
 refine ROps.d (r := f64 x1) (fs := []) (Γ' := []) rfl rfl rfl (TOp.eqr (TOp.fop (.inr (.inr (.inl rfl))) rfl (OpF.tmp rfl) (OpF.tmp rfl)) (congrArg (f .f64) hx1)) rfl ?_
 refine za (r := f64 x1) ?_
 refine zN ?_
 refine RunC.ret ?_
 have hq := Option.some.inj h
 subst q0
 exact bodyQ.pure (.inr rfl) rfl (Res.one rfl (RV.tmp rfl))
noncomputable def i_longProduct (a0 : F) (a1 : F) (a2 : F) (a3 : F) : Option (F × F) :=
 olet (fwiden a0) fun (x1 : F) =>
 olet (fwiden a1) fun (x2 : F) =>
 olet (fwiden a2) fun (x3 : F) =>
 olet (fwiden a3) fun (x4 : F) =>
 obind (i_mul64 x1 x3) fun (r5 : F) =>
 obind (i_mul64 x2 x4) fun (r6 : F) =>
 olet (fop .sub .f64 r5 r6) fun (x7 : F) =>
 obind (i_mul64 x1 x4) fun (r8 : F) =>
 obind (i_mul64 x2 x3) fun (r9 : F) =>
 olet (fop .add .f64 r8 r9) fun (x10 : F) =>
 some (x7, x10)
theorem i_longProduct_ok (a0 : F) (a1 : F) (a2 : F) (a3 : F) (q0 : F) (q1 : F) (h : i_longProduct a0 a1 a2 a3 = some (q0, q1)) : Ev Tryz.prog 40 [cx .f32 a0 a1, cx .f32 a2 a3] [] (tup [f64 q0, f64 q1]) [] := by
 refine Ev.start Tryz.func40 rfl rfl 0 (τ := [(0, cx .f32 a0 a1), (1, cx .f32 a2 a3)]) rfl (Γ' := []) rfl (n := 73) rfl (g := 0) rfl (fun _ => rfl) ?_
 unfold i_longProduct at h
 refine zQ ?_
 iterate 2 (refine zl (r := f64 (some 0)) (LOp.le (LOp.assign rfl rfl) (ALe.fl (by kernel_rfl) (by kernel_rfl))) ?_)
 refine zN ?_
 refine RunC.seq ?_
 obtain ⟨x1, hx1, h⟩ := olet_some h
 obtain ⟨x2, hx2, h⟩ := olet_some h
 refine RunC.regionW ?_
 refine zm (r := cx .f32 a0 a1) ?_
 refine zl (r := f32 a0) (LOp.real rfl rfl) ?_
 refine ROps.d (r := f64 x1) (fs := []) (Γ' := []) rfl rfl rfl (TOp.eqr (TOp.widen (src := 28) (dst := 46) ⟨_, pun28⟩ pun46 rfl (OpF.tmp rfl)) (congrArg (f .f64) hx1)) rfl ?_
 refine zm (r := cx .f32 a0 a1) ?_
 refine zl (r := f32 a1) (LOp.imag rfl rfl) ?_
 refine ROps.d (r := f64 x2) (fs := []) (Γ' := []) rfl rfl rfl (TOp.eqr (TOp.widen (src := 28) (dst := 46) ⟨_, pun28⟩ pun46 rfl (OpF.tmp rfl)) (congrArg (f .f64) hx2)) rfl ?_
 refine za (r := f64 x1) ?_
 refine za (r := f64 x2) ?_
 refine zN ?_
 refine RunC.seq ?_
 obtain ⟨x3, hx3, h⟩ := olet_some h
 obtain ⟨x4, hx4, h⟩ := olet_some h
 refine RunC.regionW ?_
 refine zm (r := cx .f32 a2 a3) ?_
 refine zl (r := f32 a2) (LOp.real rfl rfl) ?_
 refine ROps.d (r := f64 x3) (fs := []) (Γ' := []) rfl rfl rfl (TOp.eqr (TOp.widen (src := 28) (dst := 46) ⟨_, pun28⟩ pun46 rfl (OpF.tmp rfl)) (congrArg (f .f64) hx3)) rfl ?_
 refine zm (r := cx .f32 a2 a3) ?_
 refine zl (r := f32 a3) (LOp.imag rfl rfl) ?_
 refine ROps.d (r := f64 x4) (fs := []) (Γ' := []) rfl rfl rfl (TOp.eqr (TOp.widen (src := 28) (dst := 46) ⟨_, pun28⟩ pun46 rfl (OpF.tmp rfl)) (congrArg (f .f64) hx4)) rfl ?_
 refine za (r := f64 x3) ?_
 refine za (r := f64 x4) ?_
 refine zN ?_
 refine RunC.wl (τ' := [(6, f64 x1), (7, f64 x2), (8, f64 x3), (9, f64 x4)]) (Γ' := []) ⟨aR, aR, aR, aR, trivial⟩ trivial ?_
 refine RunC.seq ?_
 obtain ⟨r5, hf5, h⟩ := obind_some h
 obtain ⟨r6, hf6, h⟩ := obind_some h
 obtain ⟨x7, hx7, h⟩ := olet_some h
 obtain ⟨r8, hf8, h⟩ := obind_some h
 obtain ⟨r9, hf9, h⟩ := obind_some h
 obtain ⟨x10, hx10, h⟩ := olet_some h
 refine RunC.regionW ?_
 refine zm (r := f64 x1) ?_
 refine zm (r := f64 x3) ?_
 refine ROps.d (r := f64 r5) (fs := []) (Γ' := []) rfl rfl rfl (TOp.callB (CallAs.func ent72 rfl rfl) (Bors.cons (Bor.pure rfl) (Bors.cons (Bor.pure rfl) Bors.nil)) rfl rfl (i_mul64_ok x1 x3 r5 hf5)) rfl ?_
 refine zm (r := f64 x2) ?_
 refine zm (r := f64 x4) ?_
 refine ROps.d (r := f64 r6) (fs := []) (Γ' := []) rfl rfl rfl (TOp.callB (CallAs.func ent72 rfl rfl) (Bors.cons (Bor.pure rfl) (Bors.cons (Bor.pure rfl) Bors.nil)) rfl rfl (i_mul64_ok x2 x4 r6 hf6)) rfl ?_
 refine ROps.d (r := f64 x7) (fs := []) (Γ' := []) rfl rfl rfl (TOp.eqr (TOp.fop (.inr (.inl rfl)) rfl (OpF.tmp rfl) (OpF.tmp rfl)) (congrArg (f .f64) hx7)) rfl ?_
 refine zm (r := f64 x1) ?_
 refine zm (r := f64 x4) ?_
 refine ROps.d (r := f64 r8) (fs := []) (Γ' := []) rfl rfl rfl (TOp.callB (CallAs.func ent72 rfl rfl) (Bors.cons (Bor.pure rfl) (Bors.cons (Bor.pure rfl) Bors.nil)) rfl rfl (i_mul64_ok x1 x4 r8 hf8)) rfl ?_
 refine zm (r := f64 x2) ?_
 refine zm (r := f64 x3) ?_
 refine ROps.d (r := f64 r9) (fs := []) (Γ' := []) rfl rfl rfl (TOp.callB (CallAs.func ent72 rfl rfl) (Bors.cons (Bor.pure rfl) (Bors.cons (Bor.pure rfl) Bors.nil)) rfl rfl (i_mul64_ok x2 x3 r9 hf9)) rfl ?_
 refine ROps.d (r := f64 x10) (fs := []) (Γ' := []) rfl rfl rfl (TOp.eqr (TOp.fop (.inl rfl) rfl (OpF.tmp rfl) (OpF.tmp rfl)) (congrArg (f .f64) hx10)) rfl ?_
 refine za (r := f64 x7) ?_
 refine za (r := f64 x10) ?_
 refine zN ?_
 refine RunC.ret ?_
 have hq := Option.some.inj h
 obtain ⟨hq0, hq⟩ := Prod.mk.inj hq
 subst q0
 subst q1
 exact bodyQ.pure (.inr rfl) rfl (Res.two rfl (RV.tmp rfl) (RV.tmp rfl))
noncomputable def i_MulComplex (a0 : F) (a1 : F) (a2 : F) (a3 : F) : Option (F × F) :=
 obind2 (i_longProduct a0 a1 a2 a3) fun (r1 : F) (r2 : F) =>
 obind (fnarrow r1) fun (y3 : F) =>
 obind (fnarrow r2) fun (y4 : F) =>
 some (y3, y4)
theorem i_MulComplex_ok (a0 : F) (a1 : F) (a2 : F) (a3 : F) (q0 : F) (q1 : F) (h : i_MulComplex a0 a1 a2 a3 = some (q0, q1)) : Ev Tryz.prog 7 [cx .f32 a0 a1, cx .f32 a2 a3] [] (cx .f32 q0 q1) [] := by
 refine Ev.start Tryz.func7 rfl rfl 0 (τ := [(0, cx .f32 a0 a1), (1, cx .f32 a2 a3)]) rfl (Γ' := []) rfl (n := 37) rfl (g := 0) rfl (fun _ => rfl) ?_
 unfold i_MulComplex at h
 refine zQ ?_
 refine zl (r := cx .f32 (some 0) (some 0)) (LOp.le (LOp.assign rfl rfl) (ALe.cpx (by kernel_rfl) (by kernel_rfl) (by kernel_rfl) (by kernel_rfl))) ?_
 refine zN ?_
 refine RunC.seq ?_
 obtain ⟨r1, r2, hf1, h⟩ := obind2_some h
 refine RunC.regionW ?_
 refine zm (r := cx .f32 a0 a1) ?_
 refine zm (r := cx .f32 a2 a3) ?_
 refine ROps.d (r := tup [f64 r1, f64 r2]) (fs := []) (Γ' := []) rfl rfl rfl (TOp.callB (CallAs.func ent40 rfl rfl) (Bors.cons (Bor.pure rfl) (Bors.cons (Bor.pure rfl) Bors.nil)) rfl rfl (i_longProduct_ok a0 a1 a2 a3 r1 r2 hf1)) rfl ?_
 refine zm (r := tup [f64 r1, f64 r2]) ?_
 refine zl (r := f64 r1) (LOp.extract rfl rfl rfl) ?_
 refine zl (r := f64 r2) (LOp.extract rfl rfl rfl) ?_
 refine za (r := f64 r1) ?_
 refine za (r := f64 r2) ?_
 refine zN ?_
 refine RunC.seq ?_
 obtain ⟨y3, hy2, h⟩ := obind_some h
 obtain ⟨y4, hy3, h⟩ := obind_some h
 refine RunC.regionW ?_
 refine zm (r := f64 r1) ?_
 refine ROps.d (r := f32 y3) (fs := []) (Γ' := []) rfl rfl rfl (TOp.narrow (src := 46) (dst := 28) ⟨_, pun46⟩ pun28 rfl (OpF.tmp rfl) hy2) rfl ?_
 refine zm (r := f64 r2) ?_
 refine ROps.d (r := f32 y4) (fs := []) (Γ' := []) rfl rfl rfl (TOp.narrow (src := 46) (dst := 28) ⟨_, pun46⟩ pun28 rfl (OpF.tmp rfl) hy3) rfl ?_
 refine zl (r := cx .f32 y3 y4) (LOp.complex rfl (OpF.tmp rfl) (OpF.tmp rfl)) ?_
 refine za (r := cx .f32 y3 y4) ?_
 refine zN ?_
 refine RunC.ret ?_
 have hq := Option.some.inj h
 obtain ⟨hq0, hq⟩ := Prod.mk.inj hq
 subst q0
 subst q1
 exact bodyQ.pure (.inr rfl) rfl (Res.one rfl (RV.tmp rfl))
noncomputable def i_power (a0 : F) (a1 : F) : Option (F) :=
 olet (fwiden a0) fun (x1 : F) =>
 olet (fwiden a1) fun (x2 : F) =>
 obind (i_mul64 x1 x1) fun (r3 : F) =>
 obind (i_mul64 x2 x2) fun (r4 : F) =>
 olet (fop .add .f64 r3 r4) fun (x5 : F) =>
 some x5
theorem i_power_ok (a0 : F) (a1 : F) (q0 : F) (h : i_power a0 a1 = some q0) : Ev Tryz.prog 41 [cx .f32 a0 a1] [] (f64 q0) [] := by
 refine Ev.start Tryz.func41 rfl rfl 0 (τ := [(0, cx .f32 a0 a1)]) rfl (Γ' := []) rfl (n := 37) rfl (g := 0) rfl (fun _ => rfl) ?_
 unfold i_power at h
 refine zQ ?_
 refine zl (r := f64 (some 0)) (LOp.le (LOp.assign rfl rfl) (ALe.fl (by kernel_rfl) (by kernel_rfl))) ?_
 refine zN ?_
 refine RunC.seq ?_
 obtain ⟨x1, hx1, h⟩ := olet_some h
 obtain ⟨x2, hx2, h⟩ := olet_some h
 refine RunC.regionW ?_
 refine zm (r := cx .f32 a0 a1) ?_
 refine zl (r := f32 a0) (LOp.real rfl rfl) ?_
 refine ROps.d (r := f64 x1) (fs := []) (Γ' := []) rfl rfl rfl (TOp.eqr (TOp.widen (src := 28) (dst := 46) ⟨_, pun28⟩ pun46 rfl (OpF.tmp rfl)) (congrArg (f .f64) hx1)) rfl ?_
 refine zm (r := cx .f32 a0 a1) ?_
 refine zl (r := f32 a1) (LOp.imag rfl rfl) ?_
 refine ROps.d (r := f64 x2) (fs := []) (Γ' := []) rfl rfl rfl (TOp.eqr (TOp.widen (src := 28) (dst := 46) ⟨_, pun28⟩ pun46 rfl (OpF.tmp rfl)) (congrArg (f .f64) hx2)) rfl ?_
 refine za (r := f64 x1) ?_
 refine za (r := f64 x2) ?_
 refine zN ?_
 refine RunC.seq ?_
 obtain ⟨r3, hf3, h⟩ := obind_some h
 obtain ⟨r4, hf4, h⟩ := obind_some h
 obtain ⟨x5, hx5, h⟩ := olet_some h
 refine RunC.regionW ?_
 iterate 2 (refine zm (r := f64 x1) ?_)
 refine ROps.d (r := f64 r3) (fs := []) (Γ' := []) rfl rfl rfl (TOp.callB (CallAs.func ent72 rfl rfl) (Bors.cons (Bor.pure rfl) (Bors.cons (Bor.pure rfl) Bors.nil)) rfl rfl (i_mul64_ok x1 x1 r3 hf3)) rfl ?_
 iterate 2 (refine zm (r := f64 x2) ?_)
 refine ROps.d (r := f64 r4) (fs := []) (Γ' := []) rfl rfl rfl (TOp.callB (CallAs.func ent72 rfl rfl) (Bors.cons (Bor.pure rfl) (Bors.cons (Bor.pure rfl) Bors.nil)) rfl rfl (i_mul64_ok x2 x2 r4 hf4)) rfl ?_
 refine ROps.d (r := f64 x5) (fs := []) (Γ' := []) rfl rfl rfl (TOp.eqr (TOp.fop (.inl rfl) rfl (OpF.tmp rfl) (OpF.tmp rfl)) (congrArg (f .f64) hx5)) rfl ?_
 refine za (r := f64 x5) ?_
 refine zN ?_
 refine RunC.ret ?_
 have hq := Option.some.inj h
 subst q0
 exact bodyQ.pure (.inr rfl) rfl (Res.one rfl (RV.tmp rfl))
noncomputable def i_PowerOf (a0 : F) (a1 : F) : Option (F) :=
 obind (i_power a0 a1) fun (r1 : F) =>
 obind (fnarrow r1) fun (y2 : F) =>
 some y2
theorem i_PowerOf_ok (a0 : F) (a1 : F) (q0 : F) (h : i_PowerOf a0 a1 = some q0) : Ev Tryz.prog 8 [cx .f32 a0 a1] [] (f32 q0) [] := by
 refine Ev.start Tryz.func8 rfl rfl 0 (τ := [(0, cx .f32 a0 a1)]) rfl (Γ' := []) rfl (n := 13) rfl (g := 0) rfl (fun _ => rfl) ?_
 unfold i_PowerOf at h
 refine zQ ?_
 refine zl (r := f32 (some 0)) (LOp.le (LOp.assign rfl rfl) (ALe.fl (by kernel_rfl) (by kernel_rfl))) ?_
 refine zN ?_
 refine RunC.seq ?_
 obtain ⟨r1, hf1, h⟩ := obind_some h
 obtain ⟨y2, hy2, h⟩ := obind_some h
 refine RunC.regionW ?_
 refine zm (r := cx .f32 a0 a1) ?_
 refine ROps.d (r := f64 r1) (fs := []) (Γ' := []) rfl rfl rfl (TOp.callB (CallAs.func ent41 rfl rfl) (Bors.cons (Bor.pure rfl) Bors.nil) rfl rfl (i_power_ok a0 a1 r1 hf1)) rfl ?_
 refine ROps.d (r := f32 y2) (fs := []) (Γ' := []) rfl rfl rfl (TOp.narrow (src := 46) (dst := 28) ⟨_, pun46⟩ pun28 rfl (OpF.tmp rfl) hy2) rfl ?_
 refine za (r := f32 y2) ?_
 refine zN ?_
 refine RunC.ret ?_
 have hq := Option.some.inj h
 subst q0
 exact bodyQ.pure (.inr rfl) rfl (Res.one rfl (RV.tmp rfl))
noncomputable def i_ConjugateOf (a0 : F) (a1 : F) : Option (F × F) :=
 olet (fneg .f32 a1) fun (x1 : F) =>
 some (a0, x1)
theorem i_ConjugateOf_ok (a0 : F) (a1 : F) (q0 : F) (q1 : F) (h : i_ConjugateOf a0 a1 = some (q0, q1)) : Ev Tryz.prog 9 [cx .f32 a0 a1] [] (cx .f32 q0 q1) [] := by
 refine Ev.start Tryz.func9 rfl rfl 0 (τ := [(0, cx .f32 a0 a1)]) rfl (Γ' := []) rfl (n := 19) rfl (g := 0) rfl (fun _ => rfl) ?_
 unfold i_ConjugateOf at h
 refine zQ ?_
 refine zl (r := cx .f32 (some 0) (some 0)) (LOp.le (LOp.assign rfl rfl) (ALe.cpx (by kernel_rfl) (by kernel_rfl) (by kernel_rfl) (by kernel_rfl))) ?_
 refine zN ?_
 refine RunC.seq ?_
 obtain ⟨x1, hx1, h⟩ := olet_some h
 refine RunC.regionW ?_
 refine zm (r := cx .f32 a0 a1) ?_
 refine zl (r := f32 a0) (LOp.real rfl rfl) ?_
 refine zm (r := cx .f32 a0 a1) ?_
 refine zl (r := f32 a1) (LOp.imag rfl rfl) ?_
 refine zl (r := f32 x1) (LOp.eqr (LOp.fneg rfl (OpF.tmp rfl)) (congrArg (f .f32) hx1)) ?_
 refine zl (r := cx .f32 a0 x1) (LOp.complex rfl (OpF.tmp rfl) (OpF.tmp rfl)) ?_
 refine za (r := cx .f32 a0 x1) ?_
 refine zN ?_
 refine RunC.ret ?_
 have hq := Option.some.inj h
 obtain ⟨hq0, hq⟩ := Prod.mk.inj hq
 subst q0
 subst q1
 exact bodyQ.pure (.inr rfl) rfl (Res.one rfl (RV.tmp rfl))
noncomputable def x_math_Sqrt (a0 : F) : Option (F) :=
 olet (fsqrt a0) fun (x1 : F) =>
 some x1
theorem x_math_Sqrt_ok (a0 : F) (q0 : F) (h : x_math_Sqrt a0 = some q0) : Ev Tryz.prog 43 [f64 a0] [] (f64 q0) [] := by
 refine Ev.start Tryz.func43 rfl rfl 0 (τ := [(0, f64 a0)]) rfl (Γ' := []) rfl (n := 11) rfl (g := 0) rfl (fun _ => rfl) ?_
 unfold x_math_Sqrt at h
 refine zQ ?_
 refine zl (r := f64 (some 0)) (LOp.le (LOp.assign rfl rfl) (ALe.fl (by kernel_rfl) (by kernel_rfl))) ?_
 refine zN ?_
 refine RunC.seq ?_
 obtain ⟨x1, hx1, h⟩ := olet_some h
 refine RunC.regionW ?_
 refine zm (r := f64 a0) ?_
 refine ROps.d (r := f64 x1) (fs := []) (Γ' := []) rfl rfl rfl (TOp.eqr (TOp.fsqrt ext77 rfl (OpF.tmp rfl)) (congrArg (f .f64) hx1)) rfl ?_
 refine za (r := f64 x1) ?_
 refine zN ?_
 refine RunC.ret ?_
 have hq := Option.some.inj h
 subst q0
 exact bodyQ.pure (.inr rfl) rfl (Res.one rfl (RV.tmp rfl))
noncomputable def i_LongOf (a0 : F) (a1 : F) : Option (F) :=
 obind (i_power a0 a1) fun (r1 : F) =>
 obind (x_math_Sqrt r1) fun (r2 : F) =>
 obind (fnarrow r2) fun (y3 : F) =>
 some y3
theorem i_LongOf_ok (a0 : F) (a1 : F) (q0 : F) (h : i_LongOf a0 a1 = some q0) : Ev Tryz.prog 11 [cx .f32 a0 a1] [] (f32 q0) [] := by
 refine Ev.start Tryz.func11 rfl rfl 0 (τ := [(0, cx .f32 a0 a1)]) rfl (Γ' := []) rfl (n := 15) rfl (g := 0) rfl (fun _ => rfl) ?_
 unfold i_LongOf at h
 refine zQ ?_
 refine zl (r := f32 (some 0)) (LOp.le (LOp.assign rfl rfl) (ALe.fl (by kernel_rfl) (by kernel_rfl))) ?_
 refine zN ?_
 refine RunC.seq ?_
 obtain ⟨r1, hf1, h⟩ := obind_some h
 obtain ⟨r2, hf2, h⟩ := obind_some h
 obtain ⟨y3, hy3, h⟩ := obind_some h
 refine RunC.regionW ?_
 refine zm (r := cx .f32 a0 a1) ?_
 refine ROps.d (r := f64 r1) (fs := []) (Γ' := []) rfl rfl rfl (TOp.callB (CallAs.func ent41 rfl rfl) (Bors.cons (Bor.pure rfl) Bors.nil) rfl rfl (i_power_ok a0 a1 r1 hf1)) rfl ?_
 refine ROps.d (r := f64 r2) (fs := []) (Γ' := []) rfl rfl rfl (TOp.callB (CallAs.func ent43 rfl rfl) (Bors.cons (Bor.pure rfl) Bors.nil) rfl rfl (x_math_Sqrt_ok r1 r2 hf2)) rfl ?_
 refine ROps.d (r := f32 y3) (fs := []) (Γ' := []) rfl rfl rfl (TOp.narrow (src := 46) (dst := 28) ⟨_, pun46⟩ pun28 rfl (OpF.tmp rfl) hy3) rfl ?_
 refine za (r := f32 y3) ?_
 refine zN ?_
 refine RunC.ret ?_
 have hq := Option.some.inj h
 subst q0
 exact bodyQ.pure (.inr rfl) rfl (Res.one rfl (RV.tmp rfl))
noncomputable def s_l01Narrow (a0 : F) : Option (F) :=
 obind (fnarrow a0) fun (y1 : F) =>
 some y1
theorem s_l01Narrow_ok (a0 : F) (q0 : F) (h : s_l01Narrow a0 = some q0) : Ev Tryz.prog 78 [f64 a0] [] (f32 q0) [] := by
 refine Ev.start Tryz.func78 rfl rfl 0 (τ := [(0, f64 a0)]) rfl (Γ' := []) rfl (n := 11) rfl (g := 0) rfl (fun _ => rfl) ?_
 unfold s_l01Narrow at h
 refine zQ ?_
 refine zl (r := f32 (some 0)) (LOp.le (LOp.assign rfl rfl) (ALe.fl (by kernel_rfl) (by kernel_rfl))) ?_
 refine zN ?_
 refine RunC.seq ?_
 obtain ⟨y1, hy1, h⟩ := obind_some h
 refine RunC.regionW ?_
 refine zm (r := f64 a0) ?_
 refine ROps.d (r := f32 y1) (fs := []) (Γ' := []) rfl rfl rfl (TOp.narrow (src := 46) (dst := 28) ⟨_, pun46⟩ pun28 rfl (OpF.tmp rfl) hy1) rfl ?_
 refine za (r := f32 y1) ?_
 refine zN ?_
 refine RunC.ret ?_
 have hq := Option.some.inj h
 subst q0
 exact bodyQ.pure (.inr rfl) rfl (Res.one rfl (RV.tmp rfl))
noncomputable def s_l01Sqrt (a0 : F) : Option (F) :=
 olet (fwiden a0) fun (x1 : F) =>
 obind (x_math_Sqrt x1) fun (r2 : F) =>
 obind (s_l01Narrow r2) fun (r3 : F) =>
 some r3
theorem s_l01Sqrt_ok (a0 : F) (q0 : F) (h : s_l01Sqrt a0 = some q0) : Ev Tryz.prog 44 [f32 a0] [] (f32 q0) [] := by
 refine Ev.start Tryz.func44 rfl rfl 0 (τ := [(0, f32 a0)]) rfl (Γ' := []) rfl (n := 15) rfl (g := 0) rfl (fun _ => rfl) ?_
 unfold s_l01Sqrt at h
 refine zQ ?_
 refine zl (r := f32 (some 0)) (LOp.le (LOp.assign rfl rfl) (ALe.fl (by kernel_rfl) (by kernel_rfl))) ?_
 refine zN ?_
 refine RunC.seq ?_
 obtain ⟨x1, hx1, h⟩ := olet_some h
 obtain ⟨r2, hf2, h⟩ := obind_some h
 obtain ⟨r3, hf3, h⟩ := obind_some h
 refine RunC.regionW ?_
 refine zm (r := f32 a0) ?_
 refine ROps.d (r := f64 x1) (fs := []) (Γ' := []) rfl rfl rfl (TOp.eqr (TOp.widen (src := 28) (dst := 46) ⟨_, pun28⟩ pun46 rfl (OpF.tmp rfl)) (congrArg (f .f64) hx1)) rfl ?_
 refine ROps.d (r := f64 r2) (fs := []) (Γ' := []) rfl rfl rfl (TOp.callB (CallAs.func ent43 rfl rfl) (Bors.cons (Bor.pure rfl) Bors.nil) rfl rfl (x_math_Sqrt_ok x1 r2 hf2)) rfl ?_
 refine ROps.d (r := f32 r3) (fs := []) (Γ' := []) rfl rfl rfl (TOp.callB (CallAs.func ent78 rfl rfl) (Bors.cons (Bor.pure rfl) Bors.nil) rfl rfl (s_l01Narrow_ok r2 r3 hf3)) rfl ?_
 refine za (r := f32 r3) ?_
 refine zN ?_
 refine RunC.ret ?_
 have hq := Option.some.inj h
 subst q0
 exact bodyQ.pure (.inr rfl) rfl (Res.one rfl (RV.tmp rfl))
noncomputable def s_RootNumber (a0 : F) : Option (F) :=
 obind (s_l01Sqrt a0) fun (r1 : F) =>
 some r1
theorem s_RootNumber_ok (a0 : F) (q0 : F) (h : s_RootNumber a0 = some q0) : Ev Tryz.prog 12 [f32 a0] [] (f32 q0) [] := by
 refine Ev.start Tryz.func12 rfl rfl 0 (τ := [(0, f32 a0)]) rfl (Γ' := []) rfl (n := 11) rfl (g := 0) rfl (fun _ => rfl) ?_
 unfold s_RootNumber at h
 refine zQ ?_
 refine zl (r := f32 (some 0)) (LOp.le (LOp.assign rfl rfl) (ALe.fl (by kernel_rfl) (by kernel_rfl))) ?_
 refine zN ?_
 refine RunC.seq ?_
 obtain ⟨r1, hf1, h⟩ := obind_some h
 refine RunC.regionW ?_
 refine zm (r := f32 a0) ?_
 refine ROps.d (r := f32 r1) (fs := []) (Γ' := []) rfl rfl rfl (TOp.callB (CallAs.func ent44 rfl rfl) (Bors.cons (Bor.pure rfl) Bors.nil) rfl rfl (s_l01Sqrt_ok a0 r1 hf1)) rfl ?_
 refine za (r := f32 r1) ?_
 refine zN ?_
 refine RunC.ret ?_
 have hq := Option.some.inj h
 subst q0
 exact bodyQ.pure (.inr rfl) rfl (Res.one rfl (RV.tmp rfl))
noncomputable def s_l01Bits (a0 : F) : Option (Int) :=
 bsel (!feq .f32 a0 a0) (
  some 2143289344) (
  obind (a0) fun (b1 : Nat) =>
  olet (IntKind.i64.wrap (b1 : Int)) fun (x2 : Int) =>
  some x2)
theorem s_l01Bits_ok (a0 : F) (q0 : Int) (h : s_l01Bits a0 = some q0) : Ev Tryz.prog 76 [f32 a0] [] (i64 q0) [] := by
 refine Ev.start Tryz.func76 rfl rfl 0 (τ := [(0, f32 a0)]) rfl (Γ' := []) rfl (n := 19) rfl (g := 0) rfl (fun _ => rfl) ?_
 unfold s_l01Bits at h
 refine zQ ?_
 refine za (r := i64 0) ?_
 refine zN ?_
 iterate 2 (refine RunC.seq ?_)
 rcases bsel_some h with ⟨hc1, h⟩ | ⟨hc1, h⟩
 ·refine RunC.regionW ?_
  iterate 2 (refine zm (r := f32 a0) ?_)
  refine zl (r := b true) (LOp.eqb (LOp.fne rfl (OpF.tmp rfl) (OpF.tmp rfl)) hc1) ?_
  refine zN ?_
  refine RunC.cond_true rfl rfl ?_
  refine zQ ?_
  refine za (r := i64 2143289344) ?_
  refine zN ?_
  refine RunC.ret ?_
  have hq := Option.some.inj h
  subst q0
  exact bodyQ.pure (.inr rfl) rfl (Res.one rfl (RV.tmp rfl))
 ·refine RunC.regionW ?_
  iterate 2 (refine zm (r := f32 a0) ?_)
  refine zl (r := b false) (LOp.eqb (LOp.fne rfl (OpF.tmp rfl) (OpF.tmp rfl)) hc1) ?_
  refine zN ?_
  refine RunC.cond_false rfl rfl ?_
  refine RunC.skip ?_
  refine RunC.seq ?_
  obtain ⟨b1, he2, h⟩ := obind_some h
  obtain ⟨x2, hx3, h⟩ := olet_some h
  refine RunC.regionW ?_
  refine zm (r := f32 a0) ?_
  refine zl (r := ik .u32 (b1 : Int)) (LOp.fbx ext57 rfl (OpF.tmp rfl) he2) ?_
  refine zl (r := i64 x2) (LOp.eqr (LOp.i2i (src := 79) (dst := 2) ⟨_, pun79⟩ pun2 rfl rfl) (congrArg (ik .i64) hx3)) ?_
  refine za (r := i64 x2) ?_
  refine zN ?_
  refine RunC.ret ?_
  have hq := Option.some.inj h
  subst q0
  exact bodyQ.pure (.inr rfl) rfl (Res.one rfl (RV.tmp rfl))
noncomputable def s_l01Same (a0 : F) (a1 : F) : Option (Bool) :=
 obind (s_l01Bits a0) fun (r1 : Int) =>
 obind (s_l01Bits a1) fun (r2 : Int) =>
 some (decide (r1 = r2))
theorem s_l01Same_ok (a0 : F) (a1 : F) (q0 : Bool) (h : s_l01Same a0 a1 = some q0) : Ev Tryz.prog 42 [f32 a0, f32 a1] [] (b q0) [] := by
 refine Ev.start Tryz.func42 rfl rfl 0 (τ := [(0, f32 a0), (1, f32 a1)]) rfl (Γ' := []) rfl (n := 21) rfl (g := 0) rfl (fun _ => rfl) ?_
 unfold s_l01Same at h
 refine zQ ?_
 refine za (r := b false) ?_
 refine zN ?_
 refine RunC.seq ?_
 obtain ⟨r1, hf1, h⟩ := obind_some h
 obtain ⟨r2, hf2, h⟩ := obind_some h
 refine RunC.regionW ?_
 refine zm (r := f32 a0) ?_
 refine ROps.d (r := i64 r1) (fs := []) (Γ' := []) rfl rfl rfl (TOp.callB (CallAs.func ent76 rfl rfl) (Bors.cons (Bor.pure rfl) Bors.nil) rfl rfl (s_l01Bits_ok a0 r1 hf1)) rfl ?_
 refine zm (r := f32 a1) ?_
 refine ROps.d (r := i64 r2) (fs := []) (Γ' := []) rfl rfl rfl (TOp.callB (CallAs.func ent76 rfl rfl) (Bors.cons (Bor.pure rfl) Bors.nil) rfl rfl (s_l01Bits_ok a1 r2 hf2)) rfl ?_
 refine zl (r := b (decide (r1 = r2))) (LOp.eql rfl rfl rfl) ?_
 refine za (r := b (decide (r1 = r2))) ?_
 refine zN ?_
 refine RunC.ret ?_
 have hq := Option.some.inj h
 subst q0
 exact bodyQ.pure (.inr rfl) rfl (Res.one rfl (RV.tmp rfl))
noncomputable def s_SameNumber (a0 : F) (a1 : F) : Option (Bool) :=
 obind (s_l01Same a0 a1) fun (r1 : Bool) =>
 some r1
theorem s_SameNumber_ok (a0 : F) (a1 : F) (q0 : Bool) (h : s_SameNumber a0 a1 = some q0) : Ev Tryz.prog 10 [f32 a0, f32 a1] [] (b q0) [] := by
 refine Ev.start Tryz.func10 rfl rfl 0 (τ := [(0, f32 a0), (1, f32 a1)]) rfl (Γ' := []) rfl (n := 17) rfl (g := 0) rfl (fun _ => rfl) ?_
 unfold s_SameNumber at h
 refine zQ ?_
 refine za (r := b false) ?_
 refine zN ?_
 refine RunC.seq ?_
 obtain ⟨r1, hf1, h⟩ := obind_some h
 refine RunC.regionW ?_
 refine zm (r := f32 a0) ?_
 refine zm (r := f32 a1) ?_
 refine ROps.d (r := b r1) (fs := []) (Γ' := []) rfl rfl rfl (TOp.callB (CallAs.func ent42 rfl rfl) (Bors.cons (Bor.pure rfl) (Bors.cons (Bor.pure rfl) Bors.nil)) rfl rfl (s_l01Same_ok a0 a1 r1 hf1)) rfl ?_
 refine za (r := b r1) ?_
 refine zN ?_
 refine RunC.ret ?_
 have hq := Option.some.inj h
 subst q0
 exact bodyQ.pure (.inr rfl) rfl (Res.one rfl (RV.tmp rfl))
noncomputable def i_QuotientOf (a0 : F) (a1 : F) (a2 : F) (a3 : F) : Option (F × F) :=
 obind2 (i_ConjugateOf a2 a3) fun (r1 : F) (r2 : F) =>
 obind2 (i_longProduct a0 a1 r1 r2) fun (r3 : F) (r4 : F) =>
 obind (i_power a2 a3) fun (r5 : F) =>
 olet (fop .quo .f64 r3 r5) fun (x6 : F) =>
 obind (fnarrow x6) fun (y7 : F) =>
 obind (i_power a2 a3) fun (r8 : F) =>
 olet (fop .quo .f64 r4 r8) fun (x9 : F) =>
 obind (fnarrow x9) fun (y10 : F) =>
 some (y7, y10)
theorem i_QuotientOf_ok (a0 : F) (a1 : F) (a2 : F) (a3 : F) (q0 : F) (q1 : F) (h : i_QuotientOf a0 a1 a2 a3 = some (q0, q1)) : Ev Tryz.prog 13 [cx .f32 a0 a1, cx .f32 a2 a3] [] (cx .f32 q0 q1) [] := by
 refine Ev.start Tryz.func13 rfl rfl 0 (τ := [(0, cx .f32 a0 a1), (1, cx .f32 a2 a3)]) rfl (Γ' := []) rfl (n := 51) rfl (g := 0) rfl (fun _ => rfl) ?_
 unfold i_QuotientOf at h
 refine zQ ?_
 refine zl (r := cx .f32 (some 0) (some 0)) (LOp.le (LOp.assign rfl rfl) (ALe.cpx (by kernel_rfl) (by kernel_rfl) (by kernel_rfl) (by kernel_rfl))) ?_
 refine zN ?_
 refine RunC.seq ?_
 obtain ⟨r1, r2, hf1, h⟩ := obind2_some h
 obtain ⟨r3, r4, hf2, h⟩ := obind2_some h
 refine RunC.regionW ?_
 refine zm (r := cx .f32 a0 a1) ?_
 refine zm (r := cx .f32 a2 a3) ?_
 refine ROps.d (r := cx .f32 r1 r2) (fs := []) (Γ' := []) rfl rfl rfl (TOp.callB (CallAs.func ent9 rfl rfl) (Bors.cons (Bor.pure rfl) Bors.nil) rfl rfl (i_ConjugateOf_ok a2 a3 r1 r2 hf1)) rfl ?_
 refine ROps.d (r := tup [f64 r3, f64 r4]) (fs := []) (Γ' := []) rfl rfl rfl (TOp.callB (CallAs.func ent40 rfl rfl) (Bors.cons (Bor.pure rfl) (Bors.cons (Bor.pure rfl) Bors.nil)) rfl rfl (i_longProduct_ok a0 a1 r1 r2 r3 r4 hf2)) rfl ?_
 refine zm (r := tup [f64 r3, f64 r4]) ?_
 refine zl (r := f64 r3) (LOp.extract rfl rfl rfl) ?_
 refine zl (r := f64 r4) (LOp.extract rfl rfl rfl) ?_
 refine za (r := f64 r3) ?_
 refine za (r := f64 r4) ?_
 refine zN ?_
 refine RunC.seq ?_
 obtain ⟨r5, hf3, h⟩ := obind_some h
 obtain ⟨x6, hx4, h⟩ := olet_some h
 obtain ⟨y7, hy5, h⟩ := obind_some h
 obtain ⟨r8, hf6, h⟩ := obind_some h
 obtain ⟨x9, hx7, h⟩ := olet_some h
 obtain ⟨y10, hy8, h⟩ := obind_some h
 refine RunC.regionW ?_
 refine zm (r := f64 r3) ?_
 refine zm (r := cx .f32 a2 a3) ?_
 refine ROps.d (r := f64 r5) (fs := []) (Γ' := []) rfl rfl rfl (TOp.callB (CallAs.func ent41 rfl rfl) (Bors.cons (Bor.pure rfl) Bors.nil) rfl rfl (i_power_ok a2 a3 r5 hf3)) rfl ?_
 refine ROps.d (r := f64 x6) (fs := []) (Γ' := []) rfl rfl rfl (TOp.eqr (TOp.fop (.inr (.inr (.inr rfl))) rfl (OpF.tmp rfl) (OpF.tmp rfl)) (congrArg (f .f64) hx4)) rfl ?_
 refine ROps.d (r := f32 y7) (fs := []) (Γ' := []) rfl rfl rfl (TOp.narrow (src := 46) (dst := 28) ⟨_, pun46⟩ pun28 rfl (OpF.tmp rfl) hy5) rfl ?_
 refine zm (r := f64 r4) ?_
 refine zm (r := cx .f32 a2 a3) ?_
 refine ROps.d (r := f64 r8) (fs := []) (Γ' := []) rfl rfl rfl (TOp.callB (CallAs.func ent41 rfl rfl) (Bors.cons (Bor.pure rfl) Bors.nil) rfl rfl (i_power_ok a2 a3 r8 hf6)) rfl ?_
 refine ROps.d (r := f64 x9) (fs := []) (Γ' := []) rfl rfl rfl (TOp.eqr (TOp.fop (.inr (.inr (.inr rfl))) rfl (OpF.tmp rfl) (OpF.tmp rfl)) (congrArg (f .f64) hx7)) rfl ?_
 refine ROps.d (r := f32 y10) (fs := []) (Γ' := []) rfl rfl rfl (TOp.narrow (src := 46) (dst := 28) ⟨_, pun46⟩ pun28 rfl (OpF.tmp rfl) hy8) rfl ?_
 refine zl (r := cx .f32 y7 y10) (LOp.complex rfl (OpF.tmp rfl) (OpF.tmp rfl)) ?_
 refine za (r := cx .f32 y7 y10) ?_
 refine zN ?_
 refine RunC.ret ?_
 have hq := Option.some.inj h
 obtain ⟨hq0, hq⟩ := Prod.mk.inj hq
 subst q0
 subst q1
 exact bodyQ.pure (.inr rfl) rfl (Res.one rfl (RV.tmp rfl))
noncomputable def i_mul (a0 : F) (a1 : F) : Option (F) :=
 olet (fop .mul .f32 a0 a1) fun (x1 : F) =>
 some x1
theorem i_mul_ok (a0 : F) (a1 : F) (q0 : F) (h : i_mul a0 a1 = some q0) : Ev Tryz.prog 45 [f32 a0, f32 a1] [] (f32 q0) [] := by
 refine Ev.start Tryz.func45 rfl rfl 0 (τ := [(0, f32 a0), (1, f32 a1)]) rfl (Γ' := []) rfl (n := 17) rfl (g := 0) rfl (fun _ => rfl) ?_
 unfold i_mul at h
 refine zQ ?_
 refine zl (r := f32 (some 0)) (LOp.le (LOp.assign rfl rfl) (ALe.fl (by kernel_rfl) (by kernel_rfl))) ?_
 refine zN ?_
 refine RunC.seq ?_
 obtain ⟨x1, hx1, h⟩ := olet_some h
 refine RunC.regionW ?_
 refine zm (r := f32 a0) ?_
 refine zm (r := f32 a1) ?_
 refine ROps.d (r := f32 x1) (fs := []) (Γ' := []) rfl rfl rfl (TOp.eqr (TOp.fop (.inr (.inr (.inl rfl))) rfl (OpF.tmp rfl) (OpF.tmp rfl)) (congrArg (f .f32) hx1)) rfl ?_
 refine za (r := f32 x1) ?_
 refine zN ?_
 refine RunC.ret ?_
 have hq := Option.some.inj h
 subst q0
 exact bodyQ.pure (.inr rfl) rfl (Res.one rfl (RV.tmp rfl))
noncomputable def i_ScaleComplex (a0 : F) (a1 : F) (a2 : F) : Option (F × F) :=
 obind (i_mul a0 a2) fun (r1 : F) =>
 obind (i_mul a1 a2) fun (r2 : F) =>
 some (r1, r2)
theorem i_ScaleComplex_ok (a0 : F) (a1 : F) (a2 : F) (q0 : F) (q1 : F) (h : i_ScaleComplex a0 a1 a2 = some (q0, q1)) : Ev Tryz.prog 14 [cx .f32 a0 a1, f32 a2] [] (cx .f32 q0 q1) [] := by
 refine Ev.start Tryz.func14 rfl rfl 0 (τ := [(0, cx .f32 a0 a1), (1, f32 a2)]) rfl (Γ' := []) rfl (n := 29) rfl (g := 0) rfl (fun _ => rfl) ?_
 unfold i_ScaleComplex at h
 refine zQ ?_
 refine zl (r := cx .f32 (some 0) (some 0)) (LOp.le (LOp.assign rfl rfl) (ALe.cpx (by kernel_rfl) (by kernel_rfl) (by kernel_rfl) (by kernel_rfl))) ?_
 refine zN ?_
 refine RunC.seq ?_
 obtain ⟨r1, hf1, h⟩ := obind_some h
 obtain ⟨r2, hf2, h⟩ := obind_some h
 refine RunC.regionW ?_
 refine zm (r := cx .f32 a0 a1) ?_
 refine zl (r := f32 a0) (LOp.real rfl rfl) ?_
 refine zm (r := f32 a2) ?_
 refine ROps.d (r := f32 r1) (fs := []) (Γ' := []) rfl rfl rfl (TOp.callB (CallAs.func ent45 rfl rfl) (Bors.cons (Bor.pure rfl) (Bors.cons (Bor.pure rfl) Bors.nil)) rfl rfl (i_mul_ok a0 a2 r1 hf1)) rfl ?_
 refine zm (r := cx .f32 a0 a1) ?_
 refine zl (r := f32 a1) (LOp.imag rfl rfl) ?_
 refine zm (r := f32 a2) ?_
 refine ROps.d (r := f32 r2) (fs := []) (Γ' := []) rfl rfl rfl (TOp.callB (CallAs.func ent45 rfl rfl) (Bors.cons (Bor.pure rfl) (Bors.cons (Bor.pure rfl) Bors.nil)) rfl rfl (i_mul_ok a1 a2 r2 hf2)) rfl ?_
 refine zl (r := cx .f32 r1 r2) (LOp.complex rfl (OpF.tmp rfl) (OpF.tmp rfl)) ?_
 refine za (r := cx .f32 r1 r2) ?_
 refine zN ?_
 refine RunC.ret ?_
 have hq := Option.some.inj h
 obtain ⟨hq0, hq⟩ := Prod.mk.inj hq
 subst q0
 subst q1
 exact bodyQ.pure (.inr rfl) rfl (Res.one rfl (RV.tmp rfl))
noncomputable def w_b10At (a0 : List Int) (a1 : Int) (a2 : Int) : Option (Int) :=
 bsel (decide (a2 ≤ 1)) (
  some 0) (
  bsel (decide (a1 < (a0.length : Int))) (
   obind (at? a0 a1) fun (e1 : Int) =>
   olet (IntKind.i64.wrap e1) fun (x2 : Int) =>
   need (!decide (a2 = 0)) <|
   olet (x2.tmod a2) fun (x3 : Int) =>
   some x3) (
   olet (IntKind.i64.wrap (a1 * 37)) fun (x4 : Int) =>
   olet (IntKind.i64.wrap (x4 + 11)) fun (x5 : Int) =>
   need (!decide (a2 = 0)) <|
   olet (x5.tmod a2) fun (x6 : Int) =>
   some x6))
theorem w_b10At_ok (a0 : List Int) (a1 : Int) (a2 : Int) (q0 : Int) (h : w_b10At a0 a1 a2 = some q0) : Ev Tryz.prog 16 [sl a0.length (a0.map (ik .u8)), i64 a1, i64 a2] [] (i64 q0) [] := by
 refine Ev.start Tryz.func16 rfl rfl 0 (τ := [(0, sl a0.length (a0.map (ik .u8))), (1, i64 a1), (2, i64 a2)]) rfl (Γ' := []) rfl (n := 51) rfl (g := 0) rfl (fun _ => rfl) ?_
 unfold w_b10At at h
 refine zQ ?_
 refine za (r := i64 0) ?_
 refine zN ?_
 iterate 2 (refine RunC.seq ?_)
 rcases bsel_some h with ⟨hc1, h⟩ | ⟨hc1, h⟩
 ·refine RunC.regionW ?_
  refine zm (r := i64 a2) ?_
  refine zl (r := b true) (LOp.eqb (LOp.leq rfl rfl rfl) hc1) ?_
  refine zN ?_
  refine RunC.cond_true rfl rfl ?_
  refine zQ ?_
  refine za (r := i64 0) ?_
  refine zN ?_
  refine RunC.ret ?_
  have hq := Option.some.inj h
  subst q0
  exact bodyQ.pure (.inr rfl) rfl (Res.one rfl (RV.tmp rfl))
 ·refine RunC.regionW ?_
  refine zm (r := i64 a2) ?_
  refine zl (r := b false) (LOp.eqb (LOp.leq rfl rfl rfl) hc1) ?_
  refine zN ?_
  refine RunC.cond_false rfl rfl ?_
  refine RunC.skip ?_
  iterate 2 (refine RunC.seq ?_)
  rcases bsel_some h with ⟨hc2, h⟩ | ⟨hc2, h⟩
  ·refine RunC.regionW ?_
   refine zm (r := i64 a1) ?_
   refine zm (r := sl a0.length (a0.map (ik .u8))) ?_
   refine zl (r := i64 (a0.length : Int)) (LOp.len_sl und22 rfl rfl) ?_
   refine zl (r := b true) (LOp.eqb (LOp.lss rfl rfl rfl) hc2) ?_
   refine zN ?_
   refine RunC.cond_true rfl rfl ?_
   refine RunC.seq ?_
   obtain ⟨e1, he3, h⟩ := obind_some h
   obtain ⟨x2, hx4, h⟩ := olet_some h
   obtain ⟨hz5, h⟩ := need_some h
   obtain ⟨x3, hx6, h⟩ := olet_some h
   refine RunC.regionW ?_
   refine zm (r := sl a0.length (a0.map (ik .u8))) ?_
   refine zm (r := i64 a1) ?_
   refine zl (r := ptr [ik .u8 e1]) (LOp.le (LOp.ix (f := (ik .u8)) und22 siz5 rfl rfl rfl rfl he3) ALe.ptr) ?_
   refine zl (r := ik .u8 e1) (LOp.load1 agg5 rfl rfl) ?_
   refine zl (r := i64 x2) (LOp.eqr (LOp.i2i (src := 5) (dst := 2) ⟨_, pun5⟩ pun2 rfl rfl) (congrArg (ik .i64) hx4)) ?_
   refine zm (r := i64 a2) ?_
   refine zl (r := i64 x3) (LOp.eqr (LOp.rem rfl rfl rfl (nz hz5)) (congrArg (ik .i64) hx6)) ?_
   refine za (r := i64 x3) ?_
   refine zN ?_
   refine RunC.ret ?_
   have hq := Option.some.inj h
   subst q0
   exact bodyQ.pure (.inr rfl) rfl (Res.one rfl (RV.tmp rfl))
  ·refine RunC.regionW ?_
   refine zm (r := i64 a1) ?_
   refine zm (r := sl a0.length (a0.map (ik .u8))) ?_
   refine zl (r := i64 (a0.length : Int)) (LOp.len_sl und22 rfl rfl) ?_
   refine zl (r := b false) (LOp.eqb (LOp.lss rfl rfl rfl) hc2) ?_
   refine zN ?_
   refine RunC.cond_false rfl rfl ?_
   refine RunC.skip ?_
   refine RunC.seq ?_
   obtain ⟨x4, hx7, h⟩ := olet_some h
   obtain ⟨x5, hx8, h⟩ := olet_some h
   obtain ⟨hz9, h⟩ := need_some h
   obtain ⟨x6, hx10, h⟩ := olet_some h
   refine RunC.regionW ?_
   refine zm (r := i64 a1) ?_
   refine zl (r := i64 x4) (LOp.eqr (LOp.mul rfl rfl rfl) (congrArg (ik .i64) hx7)) ?_
   refine zl (r := i64 x5) (LOp.eqr (LOp.add rfl rfl rfl) (congrArg (ik .i64) hx8)) ?_
   refine zm (r := i64 a2) ?_
   refine zl (r := i64 x6) (LOp.eqr (LOp.rem rfl rfl rfl (nz hz9)) (congrArg (ik .i64) hx10)) ?_
   refine za (r := i64 x6) ?_
   refine zN ?_
   refine RunC.ret ?_
   have hq := Option.some.inj h
   subst q0
   exact bodyQ.pure (.inr rfl) rfl (Res.one rfl (RV.tmp rfl))
noncomputable def s_l00Src_one_0p0_C0 (a0 : Int) (a1 : List Int) (a2 : Int) (a3 : Int) : Option (Bool × Int × Int) :=
 obind3 (s_l00Src_pick_0p0_C0 a0 a1 a2 a3) fun (r1 : Int) (r2 : Int) (r3 : Int) =>
 some ((decide (r1 = 0)), r2, r3)
theorem s_l00Src_one_0p0_C0_ok (a0 : Int) (a1 : List Int) (a2 : Int) (a3 : Int) (q0 : Bool) (q1 : Int) (q2 : Int) (h : s_l00Src_one_0p0_C0 a0 a1 a2 a3 = some (q0, q1, q2)) : Ev Tryz.prog 52 [optr 0 0 0, i64 a0] [⟨0, some [sl a1.length (a1.map (ik .u8)), i64 a2, ik .u64 a3]⟩] (b q0) [⟨0, some [sl a1.length (a1.map (ik .u8)), i64 q1, ik .u64 q2]⟩] := by
 refine Ev.start Tryz.func52 rfl rfl 0 (τ := [(0, optr 0 0 0), (1, i64 a0)]) rfl (Γ' := [⟨0, some [sl a1.length (a1.map (ik .u8)), i64 a2, ik .u64 a3]⟩]) rfl (n := 18) rfl (g := 1) rfl (by decide) ?_
 unfold s_l00Src_one_0p0_C0 at h
 refine zQ ?_
 refine za (r := b false) ?_
 refine zN ?_
 refine RunC.seq ?_
 obtain ⟨r1, r2, r3, hf1, h⟩ := obind3_some h
 refine RunC.regionW ?_
 refine zm (r := optr 0 0 0) ?_
 refine zm (r := i64 a0) ?_
 refine ROps.callO (A := [optr 0 0 0, i64 a0]) (args := [optr 0 0 0, i64 a0]) (Γc := [⟨0, some [sl a1.length (a1.map (ik .u8)), i64 a2, ik .u64 a3]⟩]) (Γc' := [⟨0, some [sl a1.length (a1.map (ik .u8)), i64 r2, ik .u64 r3]⟩]) (r' := i64 r1) (Γ' := [⟨0, some [sl a1.length (a1.map (ik .u8)), i64 r2, ik .u64 r3]⟩]) [(0, 0)] [] rfl (CallAs.func ent39 rfl rfl) rfl rfl (SelOk.of (show List.Nodup [0] from by decide) (SelL.cells0 rfl (by simp [ren, rens, sigma, rens_f32, rens_f64, rens_i64, rens_ik, rens_str, rens_cp]) (lts_cons (lt_slk (fun _ => rfl)) (lts_cons rfl (lts_cons rfl lts_nil))) trivial)) (live_of ⟨⟨_, _, rfl⟩, trivial⟩) (by simp [ren, rens, sigma, rens_f32, rens_f64, rens_i64, rens_ik, rens_str, rens_cp]) rfl (s_l00Src_pick_0p0_C0_ok a0 a1 a2 a3 r1 r2 r3 hf1) rfl (news_of trivial) (show List.Nodup [0] from by decide) (by simp [ren, rens, sigma]) (by simp [backOb, sigma, ren, rens, rens_f32, rens_f64, rens_i64, rens_ik, rens_str, rens_cp]) ?_
 refine zl (r := b (decide (r1 = 0))) (LOp.eql rfl rfl rfl) ?_
 refine za (r := b (decide (r1 = 0))) ?_
 refine zN ?_
 refine RunC.ret ?_
 have hq := Option.some.inj h
 obtain ⟨hq0, hq⟩ := Prod.mk.inj hq
 obtain ⟨hq1, hq⟩ := Prod.mk.inj hq
 subst q0
 subst q1
 subst q2
 exact bodyQ.mk (r' := b (decide (r1 = 0))) [(0, 0)] (.inr rfl) rfl (show List.Nodup [0] from by decide) rfl rfl (Res.one rfl (RV.tmp rfl)) (SelL.cells rfl (by first | rfl | simp [ren, rens, sigma, rens_f32, rens_f64, rens_i64, rens_ik, rens_str, rens_cp]) (lts_cons (lt_slk (fun _ => rfl)) (lts_cons rfl (lts_cons rfl lts_nil))) trivial)
noncomputable def s_l01DrawPlain_0p0_C0 (a0 : List Int) (a1 : Int) (a2 : Int) : Option (F × Int × Int) :=
 obind3 (s_l00Src_pick_0p0_C0 129 a0 a1 a2) fun (r1 : Int) (r2 : Int) (r3 : Int) =>
 olet (IntKind.i64.wrap (r1 - 64)) fun (x4 : Int) =>
 obind3 (s_l00Src_one_0p0_C0 4 a0 r2 r3) fun (r5 : Bool) (r6 : Int) (r7 : Int) =>
 bsel r5 (
  olet (fint .f32 x4) fun (x8 : F) =>
  olet (fop .quo .f32 x8 (some 1088421888)) fun (x9 : F) =>
  some (x9, r6, r7)) (
  olet (fint .f32 x4) fun (x10 : F) =>
  olet (fop .quo .f32 x10 (some 1098907648)) fun (x11 : F) =>
  some (x11, r6, r7))
theorem s_l01DrawPlain_0p0_C0_ok (a0 : List Int) (a1 : Int) (a2 : Int) (q0 : F) (q1 : Int) (q2 : Int) (h : s_l01DrawPlain_0p0_C0 a0 a1 a2 = some (q0, q1, q2)) : Ev Tryz.prog 84 [optr 0 0 0] [⟨0, some [sl a0.length (a0.map (ik .u8)), i64 a1, ik .u64 a2]⟩] (f32 q0) [⟨0, some [sl a0.length (a0.map (ik .u8)), i64 q1, ik .u64 q2]⟩] := by
 refine Ev.start Tryz.func84 rfl rfl 0 (τ := [(0, optr 0 0 0)]) rfl (Γ' := [⟨0, some [sl a0.length (a0.map (ik .u8)), i64 a1, ik .u64 a2]⟩]) rfl (n := 30) rfl (g := 1) rfl (by decide) ?_
 unfold s_l01DrawPlain_0p0_C0 at h
 refine zQ ?_
 refine zl (r := f32 (some 0)) (LOp.le (LOp.assign rfl rfl) (ALe.fl (by kernel_rfl) (by kernel_rfl))) ?_
 refine zN ?_
 refine RunC.seq ?_
 obtain ⟨r1, r2, r3, hf1, h⟩ := obind3_some h
 obtain ⟨x4, hx2, h⟩ := olet_some h
 refine RunC.regionW ?_
 refine zm (r := optr 0 0 0) ?_
 refine ROps.callO (A := [optr 0 0 0, i64 129]) (args := [optr 0 0 0, i64 129]) (Γc := [⟨0, some [sl a0.length (a0.map (ik .u8)), i64 a1, ik .u64 a2]⟩]) (Γc' := [⟨0, some [sl a0.length (a0.map (ik .u8)), i64 r2, ik .u64 r3]⟩]) (r' := i64 r1) (Γ' := [⟨0, some [sl a0.length (a0.map (ik .u8)), i64 r2, ik .u64 r3]⟩]) [(0, 0)] [] rfl (CallAs.func ent39 rfl rfl) rfl rfl (SelOk.of (show List.Nodup [0] from by decide) (SelL.cells0 rfl (by simp [ren, rens, sigma, rens_f32, rens_f64, rens_i64, rens_ik, rens_str, rens_cp]) (lts_cons (lt_slk (fun _ => rfl)) (lts_cons rfl (lts_cons rfl lts_nil))) trivial)) (live_of ⟨⟨_, _, rfl⟩, trivial⟩) (by simp [ren, rens, sigma, rens_f32, rens_f64, rens_i64, rens_ik, rens_str, rens_cp]) rfl (s_l00Src_pick_0p0_C0_ok 129 a0 a1 a2 r1 r2 r3 hf1) rfl (news_of trivial) (show List.Nodup [0] from by decide) (by simp [ren, rens, sigma]) (by simp [backOb, sigma, ren, rens, rens_f32, rens_f64, rens_i64, rens_ik, rens_str, rens_cp]) ?_
 refine zl (r := i64 x4) (LOp.eqr (LOp.sub rfl rfl rfl) (congrArg (ik .i64) hx2)) ?_
 refine za (r := i64 x4) ?_
 refine zN ?_
 iterate 2 (refine RunC.seq ?_)
 obtain ⟨r5, r6, r7, hf3, h⟩ := obind3_some h
 refine RunC.regionW ?_
 refine zm (r := optr 0 0 0) ?_
 refine ROps.callO (A := [optr 0 0 0, i64 4]) (args := [optr 0 0 0, i64 4]) (Γc := [⟨0, some [sl a0.length (a0.map (ik .u8)), i64 r2, ik .u64 r3]⟩]) (Γc' := [⟨0, some [sl a0.length (a0.map (ik .u8)), i64 r6, ik .u64 r7]⟩]) (r' := b r5) (Γ' := [⟨0, some [sl a0.length (a0.map (ik .u8)), i64 r6, ik .u64 r7]⟩]) [(0, 0)] [] rfl (CallAs.func ent52 rfl rfl) rfl rfl (SelOk.of (show List.Nodup [0] from by decide) (SelL.cells0 rfl (by simp [ren, rens, sigma, rens_f32, rens_f64, rens_i64, rens_ik, rens_str, rens_cp]) (lts_cons (lt_slk (fun _ => rfl)) (lts_cons rfl (lts_cons rfl lts_nil))) trivial)) (live_of ⟨⟨_, _, rfl⟩, trivial⟩) (by simp [ren, rens, sigma, rens_f32, rens_f64, rens_i64, rens_ik, rens_str, rens_cp]) rfl (s_l00Src_one_0p0_C0_ok 4 a0 r2 r3 r5 r6 r7 hf3) rfl (news_of trivial) (show List.Nodup [0] from by decide) (by simp [ren, rens, sigma]) (by simp [backOb, sigma, ren, rens, rens_f32, rens_f64, rens_i64, rens_ik, rens_str, rens_cp]) ?_
 refine zN ?_
 rcases bsel_some h with ⟨hc4, h⟩ | ⟨hc4, h⟩
 ·refine RunC.cond_true rfl hc4 ?_
  refine RunC.seq ?_
  obtain ⟨x8, hx5, h⟩ := olet_some h
  obtain ⟨x9, hx6, h⟩ := olet_some h
  refine RunC.regionW ?_
  refine zm (r := i64 x4) ?_
  refine zl (r := f32 x8) (LOp.eqr (LOp.i2f (src := 2) (dst := 28) ⟨_, pun2⟩ pun28 rfl rfl) (congrArg (f .f32) hx5)) ?_
  refine ROps.d (r := f32 x9) (fs := []) (Γ' := [⟨0, some [sl a0.length (a0.map (ik .u8)), i64 r6, ik .u64 r7]⟩]) rfl rfl rfl (TOp.eqr (TOp.fop (.inr (.inr (.inr rfl))) rfl (OpF.tmp rfl) (OpF.const rfl (by kernel_rfl) (by kernel_rfl))) (congrArg (f .f32) hx6)) rfl ?_
  refine za (r := f32 x9) ?_
  refine zN ?_
  refine RunC.ret ?_
  have hq := Option.some.inj h
  obtain ⟨hq0, hq⟩ := Prod.mk.inj hq
  obtain ⟨hq1, hq⟩ := Prod.mk.inj hq
  subst q0
  subst q1
  subst q2
  exact bodyQ.mk (r' := f32 x9) [(0, 0)] (.inr rfl) rfl (show List.Nodup [0] from by decide) rfl rfl (Res.one rfl (RV.tmp rfl)) (SelL.cells rfl (by first | rfl | simp [ren, rens, sigma, rens_f32, rens_f64, rens_i64, rens_ik, rens_str, rens_cp]) (lts_cons (lt_slk (fun _ => rfl)) (lts_cons rfl (lts_cons rfl lts_nil))) trivial)
 ·refine RunC.cond_false rfl hc4 ?_
  refine RunC.skip ?_
  refine RunC.seq ?_
  obtain ⟨x10, hx7, h⟩ := olet_some h
  obtain ⟨x11, hx8, h⟩ := olet_some h
  refine RunC.regionW ?_
  refine zm (r := i64 x4) ?_
  refine zl (r := f32 x10) (LOp.eqr (LOp.i2f (src := 2) (dst := 28) ⟨_, pun2⟩ pun28 rfl rfl) (congrArg (f .f32) hx7)) ?_
  refine ROps.d (r := f32 x11) (fs := []) (Γ' := [⟨0, some [sl a0.length (a0.map (ik .u8)), i64 r6, ik .u64 r7]⟩]) rfl rfl rfl (TOp.eqr (TOp.fop (.inr (.inr (.inr rfl))) rfl (OpF.tmp rfl) (OpF.const rfl (by kernel_rfl) (by kernel_rfl))) (congrArg (f .f32) hx8)) rfl ?_
  refine za (r := f32 x11) ?_
  refine zN ?_
  refine RunC.ret ?_
  have hq := Option.some.inj h
  obtain ⟨hq0, hq⟩ := Prod.mk.inj hq
  obtain ⟨hq1, hq⟩ := Prod.mk.inj hq
  subst q0
  subst q1
  subst q2
  exact bodyQ.mk (r' := f32 x11) [(0, 0)] (.inr rfl) rfl (show List.Nodup [0] from by decide) rfl rfl (Res.one rfl (RV.tmp rfl)) (SelL.cells rfl (by first | rfl | simp [ren, rens, sigma, rens_f32, rens_f64, rens_i64, rens_ik, rens_str, rens_cp]) (lts_cons (lt_slk (fun _ => rfl)) (lts_cons rfl (lts_cons rfl lts_nil))) trivial)
noncomputable def s_l00Src_among_0p0_1o1_C0 (a0 : List Int) (a1 : Int) (a2 : Int) (a3 : List Int) : Option (Int × Int × Int × (List Int)) :=
 obind3 (s_l00Src_pick_0p0_C0 ((a3.length : Nat) : Int) a0 a1 a2) fun (r1 : Int) (r2 : Int) (r3 : Int) =>
 obind (at? a3 r1) fun (e4 : Int) =>
 some (e4, r2, r3, a3)
theorem s_l00Src_among_0p0_1o1_C0_ok (a0 : List Int) (a1 : Int) (a2 : Int) (a3 : List Int) (q0 : Int) (q1 : Int) (q2 : Int) (q3 : List Int) (h : s_l00Src_among_0p0_1o1_C0 a0 a1 a2 a3 = some (q0, q1, q2, q3)) : Ev Tryz.prog 85 [optr 0 0 0, oref 1 0 0 a3.length] [⟨0, some [sl a0.length (a0.map (ik .u8)), i64 a1, ik .u64 a2]⟩, ⟨0, some (a3.map i64)⟩] (i64 q0) [⟨0, some [sl a0.length (a0.map (ik .u8)), i64 q1, ik .u64 q2]⟩, ⟨0, some (q3.map i64)⟩] := by
 refine Ev.start Tryz.func85 rfl rfl 0 (τ := [(0, optr 0 0 0), (1, oref 1 0 0 a3.length)]) rfl (Γ' := [⟨0, some [sl a0.length (a0.map (ik .u8)), i64 a1, ik .u64 a2]⟩, ⟨0, some (a3.map i64)⟩]) rfl (n := 24) rfl (g := 2) rfl (by decide) ?_
 unfold s_l00Src_among_0p0_1o1_C0 at h
 refine zQ ?_
 refine za (r := i64 0) ?_
 refine zN ?_
 refine RunC.seq ?_
 obtain ⟨r1, r2, r3, hf1, h⟩ := obind3_some h
 obtain ⟨e4, he2, h⟩ := obind_some h
 refine RunC.regionW ?_
 refine zm (r := oref 1 0 0 a3.length) ?_
 refine zm (r := optr 0 0 0) ?_
 refine zm (r := oref 1 0 0 a3.length) ?_
 refine zl (r := i64 ((a3.length : Nat) : Int)) (LOp.len_oref und103 rfl rfl) ?_
 refine ROps.callO (A := [optr 0 0 0, i64 ((a3.length : Nat) : Int)]) (args := [optr 0 0 0, i64 ((a3.length : Nat) : Int)]) (Γc := [⟨0, some [sl a0.length (a0.map (ik .u8)), i64 a1, ik .u64 a2]⟩]) (Γc' := [⟨0, some [sl a0.length (a0.map (ik .u8)), i64 r2, ik .u64 r3]⟩]) (r' := i64 r1) (Γ' := [⟨0, some [sl a0.length (a0.map (ik .u8)), i64 r2, ik .u64 r3]⟩, ⟨0, some (a3.map i64)⟩]) [(0, 0)] [] rfl (CallAs.func ent39 rfl rfl) rfl rfl (SelOk.of (show List.Nodup [0] from by decide) (SelL.cells0 rfl (by simp [ren, rens, sigma, rens_f32, rens_f64, rens_i64, rens_ik, rens_str, rens_cp]) (lts_cons (lt_slk (fun _ => rfl)) (lts_cons rfl (lts_cons rfl lts_nil))) trivial)) (live_of ⟨⟨_, _, rfl⟩, trivial⟩) (by simp [ren, rens, sigma, rens_f32, rens_f64, rens_i64, rens_ik, rens_str, rens_cp]) rfl (s_l00Src_pick_0p0_C0_ok ((a3.length : Nat) : Int) a0 a1 a2 r1 r2 r3 hf1) rfl (news_of trivial) (show List.Nodup [0] from by decide) (by simp [ren, rens, sigma]) (by simp [backOb, sigma, ren, rens, rens_f32, rens_f64, rens_i64, rens_ik, rens_str, rens_cp]) ?_
 refine ROps.d (r := optr 1 0 r1.toNat) (fs := []) (Γ' := [⟨0, some [sl a0.length (a0.map (ik .u8)), i64 r2, ik .u64 r3]⟩, ⟨0, some (a3.map i64)⟩]) rfl rfl rfl (TOp.ixo und103 siz2 rfl rfl rfl (at_in he2 rfl) rfl) rfl ?_
 refine ROps.d (r := i64 e4) (fs := []) (Γ' := [⟨0, some [sl a0.length (a0.map (ik .u8)), i64 r2, ik .u64 r3]⟩, ⟨0, some (a3.map i64)⟩]) rfl rfl rfl (TOp.load1_o rfl (at_cell he2) agg2 rfl rfl) rfl ?_
 refine za (r := i64 e4) ?_
 refine zN ?_
 refine RunC.ret ?_
 have hq := Option.some.inj h
 obtain ⟨hq0, hq⟩ := Prod.mk.inj hq
 obtain ⟨hq1, hq⟩ := Prod.mk.inj hq
 obtain ⟨hq2, hq⟩ := Prod.mk.inj hq
 subst q0
 subst q1
 subst q2
 subst q3
 exact bodyQ.mk (r' := i64 e4) [(0, 0), (1, 0)] (.inr rfl) rfl (show List.Nodup [0, 1] from by decide) rfl rfl (Res.one rfl (RV.tmp rfl)) (SelL.cells rfl (by first | rfl | simp [ren, rens, sigma, rens_f32, rens_f64, rens_i64, rens_ik, rens_str, rens_cp]) (lts_cons (lt_slk (fun _ => rfl)) (lts_cons rfl (lts_cons rfl lts_nil))) (SelL.arr (f := i64) (fun _ => rfl) rfl trivial))
noncomputable def s_l01From (a0 : Int) : Option (F) :=
 olet (IntKind.u32.wrap a0) fun (x1 : Int) =>
 need ((decide (0 ≤ x1) && decide (x1.toNat < 2 ^ FloatKind.f32.format.width))) <|
 some (ffb .f32 x1)
theorem s_l01From_ok (a0 : Int) (q0 : F) (h : s_l01From a0 = some q0) : Ev Tryz.prog 53 [i64 a0] [] (f32 q0) [] := by
 refine Ev.start Tryz.func53 rfl rfl 0 (τ := [(0, i64 a0)]) rfl (Γ' := []) rfl (n := 13) rfl (g := 0) rfl (fun _ => rfl) ?_
 unfold s_l01From at h
 refine zQ ?_
 refine zl (r := f32 (some 0)) (LOp.le (LOp.assign rfl rfl) (ALe.fl (by kernel_rfl) (by kernel_rfl))) ?_
 refine zN ?_
 refine RunC.seq ?_
 obtain ⟨x1, hx1, h⟩ := olet_some h
 obtain ⟨hz2, h⟩ := need_some h
 refine RunC.regionW ?_
 refine zm (r := i64 a0) ?_
 refine zl (r := ik .u32 x1) (LOp.eqr (LOp.i2i (src := 2) (dst := 79) ⟨_, pun2⟩ pun79 rfl rfl) (congrArg (ik .u32) hx1)) ?_
 refine zl (r := f32 (ffb .f32 x1)) (LOp.ffromx ext56 rfl rfl hz2) ?_
 refine za (r := f32 (ffb .f32 x1)) ?_
 refine zN ?_
 refine RunC.ret ?_
 have hq := Option.some.inj h
 subst q0
 exact bodyQ.pure (.inr rfl) rfl (Res.one rfl (RV.tmp rfl))
noncomputable def s_l01DrawFloat_0p0_C0 (a0 : List Int) (a1 : Int) (a2 : Int) : Option (F × Int × Int) :=
 obind3 (s_l00Src_one_0p0_C0 12 a0 a1 a2) fun (r1 : Bool) (r2 : Int) (r3 : Int) =>
 bsel (!r1) (
  obind3 (s_l01DrawPlain_0p0_C0 a0 r2 r3) fun (r4 : F) (r5 : Int) (r6 : Int) =>
  some (r4, r5, r6)) (
  obind3 (s_l00Src_pick_0p0_C0 4 a0 r2 r3) fun (r7 : Int) (r8 : Int) (r9 : Int) =>
  bsel (decide (r7 = 0)) (
   obind4 (s_l00Src_among_0p0_1o1_C0 a0 r8 r9 ([0, 2147483648, 2139095040, 4286578688, 2143289344, 1, 2139095039, 8388608, 8388607, 2147483649] : List Int)) fun (r10 : Int) (r11 : Int) (r12 : Int) (r13 : List Int) =>
   need (decide (r13.length = 10)) <|
   obind (s_l01From r10) fun (r14 : F) =>
   some (r14, r11, r12)) (
   bsel (decide (r7 = 1)) (
    obind3 (s_l00Src_pick_0p0_C0 65536 a0 r8 r9) fun (r15 : Int) (r16 : Int) (r17 : Int) =>
    olet (IntKind.i64.wrap (r15 * 65536)) fun (x18 : Int) =>
    obind3 (s_l00Src_pick_0p0_C0 65536 a0 r16 r17) fun (r19 : Int) (r20 : Int) (r21 : Int) =>
    olet (IntKind.i64.wrap (x18 + r19)) fun (x22 : Int) =>
    obind (s_l01From x22) fun (r23 : F) =>
    some (r23, r20, r21)) (
    bsel (decide (r7 = 2)) (
     obind3 (s_l00Src_pick_0p0_C0 65536 a0 r8 r9) fun (r24 : Int) (r25 : Int) (r26 : Int) =>
     olet (IntKind.i64.wrap (r24 * 65536)) fun (x27 : Int) =>
     obind (s_l01From x27) fun (r28 : F) =>
     some (r28, r25, r26)) (
     obind3 (s_l01DrawPlain_0p0_C0 a0 r8 r9) fun (r29 : F) (r30 : Int) (r31 : Int) =>
     obind4 (s_l00Src_among_0p0_1o1_C0 a0 r30 r31 ([8388608, 2130706432, 1610612736, 536870912] : List Int)) fun (r32 : Int) (r33 : Int) (r34 : Int) (r35 : List Int) =>
     need (decide (r35.length = 4)) <|
     obind (s_l01From r32) fun (r36 : F) =>
     olet (fop .mul .f32 r29 r36) fun (x37 : F) =>
     some (x37, r33, r34)))))
theorem s_l01DrawFloat_0p0_C0_ok (a0 : List Int) (a1 : Int) (a2 : Int) (q0 : F) (q1 : Int) (q2 : Int) (h : s_l01DrawFloat_0p0_C0 a0 a1 a2 = some (q0, q1, q2)) : Ev Tryz.prog 54 [optr 0 0 0] [⟨0, some [sl a0.length (a0.map (ik .u8)), i64 a1, ik .u64 a2]⟩] (f32 q0) [⟨0, some [sl a0.length (a0.map (ik .u8)), i64 q1, ik .u64 q2]⟩] := by
 refine Ev.start Tryz.func54 rfl rfl 1 (τ := [(0, optr 0 0 0)]) rfl (Γ' := [⟨0, some [sl a0.length (a0.map (ik .u8)), i64 a1, ik .u64 a2]⟩, ⟨0, none⟩]) rfl (n := 80) rfl (g := 1) rfl (by decide) ?_
 unfold s_l01DrawFloat_0p0_C0 at h
 refine zQ ?_
 refine zl (r := f32 (some 0)) (LOp.le (LOp.assign rfl rfl) (ALe.fl (by kernel_rfl) (by kernel_rfl))) ?_
 refine zN ?_
 iterate 2 (refine RunC.seq ?_)
 obtain ⟨r1, r2, r3, hf1, h⟩ := obind3_some h
 rcases bsel_some h with ⟨hc2, h⟩ | ⟨hc2, h⟩
 ·refine RunC.regionW ?_
  refine zm (r := optr 0 0 0) ?_
  refine ROps.callO (A := [optr 0 0 0, i64 12]) (args := [optr 0 0 0, i64 12]) (Γc := [⟨0, some [sl a0.length (a0.map (ik .u8)), i64 a1, ik .u64 a2]⟩]) (Γc' := [⟨0, some [sl a0.length (a0.map (ik .u8)), i64 r2, ik .u64 r3]⟩]) (r' := b r1) (Γ' := [⟨0, some [sl a0.length (a0.map (ik .u8)), i64 r2, ik .u64 r3]⟩, ⟨0, none⟩]) [(0, 0)] [] rfl (CallAs.func ent52 rfl rfl) rfl rfl (SelOk.of (show List.Nodup [0] from by decide) (SelL.cells0 rfl (by simp [ren, rens, sigma, rens_f32, rens_f64, rens_i64, rens_ik, rens_str, rens_cp]) (lts_cons (lt_slk (fun _ => rfl)) (lts_cons rfl (lts_cons rfl lts_nil))) trivial)) (live_of ⟨⟨_, _, rfl⟩, trivial⟩) (by simp [ren, rens, sigma, rens_f32, rens_f64, rens_i64, rens_ik, rens_str, rens_cp]) rfl (s_l00Src_one_0p0_C0_ok 12 a0 a1 a2 r1 r2 r3 hf1) rfl (news_of trivial) (show List.Nodup [0] from by decide) (by simp [ren, rens, sigma]) (by simp [backOb, sigma, ren, rens, rens_f32, rens_f64, rens_i64, rens_ik, rens_str, rens_cp]) ?_
  refine zl (r := b true) (LOp.eqb (LOp.not rfl rfl) hc2) ?_
  refine zN ?_
  refine RunC.cond_true rfl rfl ?_
  refine RunC.seq ?_
  obtain ⟨r4, r5, r6, hf3, h⟩ := obind3_some h
  refine RunC.regionW ?_
  refine zm (r := optr 0 0 0) ?_
  refine ROps.callO (A := [optr 0 0 0]) (args := [optr 0 0 0]) (Γc := [⟨0, some [sl a0.length (a0.map (ik .u8)), i64 r2, ik .u64 r3]⟩]) (Γc' := [⟨0, some [sl a0.length (a0.map (ik .u8)), i64 r5, ik .u64 r6]⟩]) (r' := f32 r4) (Γ' := [⟨0, some [sl a0.length (a0.map (ik .u8)), i64 r5, ik .u64 r6]⟩, ⟨0, none⟩]) [(0, 0)] [] rfl (CallAs.func ent84 rfl rfl) rfl rfl (SelOk.of (show List.Nodup [0] from by decide) (SelL.cells0 rfl (by simp [ren, rens, sigma, rens_f32, rens_f64, rens_i64, rens_ik, rens_str, rens_cp]) (lts_cons (lt_slk (fun _ => rfl)) (lts_cons rfl (lts_cons rfl lts_nil))) trivial)) (live_of ⟨⟨_, _, rfl⟩, trivial⟩) (by simp [ren, rens, sigma, rens_f32, rens_f64, rens_i64, rens_ik, rens_str, rens_cp]) rfl (s_l01DrawPlain_0p0_C0_ok a0 r2 r3 r4 r5 r6 hf3) rfl (news_of trivial) (show List.Nodup [0] from by decide) (by simp [ren, rens, sigma]) (by simp [backOb, sigma, ren, rens, rens_f32, rens_f64, rens_i64, rens_ik, rens_str, rens_cp]) ?_
  refine za (r := f32 r4) ?_
  refine zN ?_
  refine RunC.ret ?_
  have hq := Option.some.inj h
  obtain ⟨hq0, hq⟩ := Prod.mk.inj hq
  obtain ⟨hq1, hq⟩ := Prod.mk.inj hq
  subst q0
  subst q1
  subst q2
  exact bodyQ.mk (r' := f32 r4) [(0, 0)] (.inr rfl) rfl (show List.Nodup [0] from by decide) rfl rfl (Res.one rfl (RV.tmp rfl)) (SelL.cells rfl (by first | rfl | simp [ren, rens, sigma, rens_f32, rens_f64, rens_i64, rens_ik, rens_str, rens_cp]) (lts_cons (lt_slk (fun _ => rfl)) (lts_cons rfl (lts_cons rfl lts_nil))) trivial)
 ·refine RunC.regionW ?_
  refine zm (r := optr 0 0 0) ?_
  refine ROps.callO (A := [optr 0 0 0, i64 12]) (args := [optr 0 0 0, i64 12]) (Γc := [⟨0, some [sl a0.length (a0.map (ik .u8)), i64 a1, ik .u64 a2]⟩]) (Γc' := [⟨0, some [sl a0.length (a0.map (ik .u8)), i64 r2, ik .u64 r3]⟩]) (r' := b r1) (Γ' := [⟨0, some [sl a0.length (a0.map (ik .u8)), i64 r2, ik .u64 r3]⟩, ⟨0, none⟩]) [(0, 0)] [] rfl (CallAs.func ent52 rfl rfl) rfl rfl (SelOk.of (show List.Nodup [0] from by decide) (SelL.cells0 rfl (by simp [ren, rens, sigma, rens_f32, rens_f64, rens_i64, rens_ik, rens_str, rens_cp]) (lts_cons (lt_slk (fun _ => rfl)) (lts_cons rfl (lts_cons rfl lts_nil))) trivial)) (live_of ⟨⟨_, _, rfl⟩, trivial⟩) (by simp [ren, rens, sigma, rens_f32, rens_f64, rens_i64, rens_ik, rens_str, rens_cp]) rfl (s_l00Src_one_0p0_C0_ok 12 a0 a1 a2 r1 r2 r3 hf1) rfl (news_of trivial) (show List.Nodup [0] from by decide) (by simp [ren, rens, sigma]) (by simp [backOb, sigma, ren, rens, rens_f32, rens_f64, rens_i64, rens_ik, rens_str, rens_cp]) ?_
  refine zl (r := b false) (LOp.eqb (LOp.not rfl rfl) hc2) ?_
  refine zN ?_
  refine RunC.cond_false rfl rfl ?_
  refine RunC.skip ?_
  iterate 2 (refine RunC.seq ?_)
  obtain ⟨r7, r8, r9, hf4, h⟩ := obind3_some h
  refine RunC.regionW ?_
  refine zm (r := optr 0 0 0) ?_
  refine ROps.callO (A := [optr 0 0 0, i64 4]) (args := [optr 0 0 0, i64 4]) (Γc := [⟨0, some [sl a0.length (a0.map (ik .u8)), i64 r2, ik .u64 r3]⟩]) (Γc' := [⟨0, some [sl a0.length (a0.map (ik .u8)), i64 r8, ik .u64 r9]⟩]) (r' := i64 r7) (Γ' := [⟨0, some [sl a0.length (a0.map (ik .u8)), i64 r8, ik .u64 r9]⟩, ⟨0, none⟩]) [(0, 0)] [] rfl (CallAs.func ent39 rfl rfl) rfl rfl (SelOk.of (show List.Nodup [0] from by decide) (SelL.cells0 rfl (by simp [ren, rens, sigma, rens_f32, rens_f64, rens_i64, rens_ik, rens_str, rens_cp]) (lts_cons (lt_slk (fun _ => rfl)) (lts_cons rfl (lts_cons rfl lts_nil))) trivial)) (live_of ⟨⟨_, _, rfl⟩, trivial⟩) (by simp [ren, rens, sigma, rens_f32, rens_f64, rens_i64, rens_ik, rens_str, rens_cp]) rfl (s_l00Src_pick_0p0_C0_ok 4 a0 r2 r3 r7 r8 r9 hf4) rfl (news_of trivial) (show List.Nodup [0] from by decide) (by simp [ren, rens, sigma]) (by simp [backOb, sigma, ren, rens, rens_f32, rens_f64, rens_i64, rens_ik, rens_str, rens_cp]) ?_
  refine zN ?_
  refine RunC.block ?_
  refine RunC.seq ?_
  rcases bsel_some h with ⟨hc5, h⟩ | ⟨hc5, h⟩
  ·refine RunC.regionW ?_
   refine zl (r := b true) (LOp.eqb (LOp.eql rfl rfl rfl) hc5) ?_
   refine za (r := b true) ?_
   refine zN ?_
   refine RunC.cond_true rfl rfl ?_
   refine RunC.seq ?_
   obtain ⟨r10, r11, r12, r13, hf6, h⟩ := obind4_some h
   obtain ⟨hn7, h⟩ := need_some h
   obtain ⟨r14, hf8, h⟩ := obind_some h
   refine RunC.regionW ?_
   refine zm (r := optr 0 0 0) ?_
   refine ROps.d (r := oref 1 1 0 10) (fs := [(1, (([0, 2147483648, 2139095040, 4286578688, 2143289344, 1, 2139095039, 8388608, 8388607, 2147483649] : List Int).map i64))]) (Γ' := [⟨0, some [sl a0.length (a0.map (ik .u8)), i64 r8, ik .u64 r9]⟩, ⟨1, some (([0, 2147483648, 2139095040, 4286578688, 2143289344, 1, 2139095039, 8388608, 8388607, 2147483649] : List Int).map i64)⟩]) rfl rfl rfl (TOp.buildSlice_o (g := ⟨0, none⟩) (za := i64 0) (qs := [(0, [i64 0]), (1, [i64 2147483648]), (2, [i64 2139095040]), (3, [i64 4286578688]), (4, [i64 2143289344]), (5, [i64 1]), (6, [i64 2139095039]), (7, [i64 8388608]), (8, [i64 8388607]), (9, [i64 2147483649])]) 1 rfl und103 siz2 zer2 rfl zel2 rfl rfl ⟨rfl, ⟨_, ALe.refl _, rfl⟩, ⟨rfl, ⟨_, ALe.refl _, rfl⟩, ⟨rfl, ⟨_, ALe.refl _, rfl⟩, ⟨rfl, ⟨_, ALe.refl _, rfl⟩, ⟨rfl, ⟨_, ALe.refl _, rfl⟩, ⟨rfl, ⟨_, ALe.refl _, rfl⟩, ⟨rfl, ⟨_, ALe.refl _, rfl⟩, ⟨rfl, ⟨_, ALe.refl _, rfl⟩, ⟨rfl, ⟨_, ALe.refl _, rfl⟩, ⟨rfl, ⟨_, ALe.refl _, rfl⟩, trivial⟩⟩⟩⟩⟩⟩⟩⟩⟩⟩ rfl) rfl ?_
   refine ROps.callO (A := [optr 0 0 0, oref 1 1 0 10]) (args := [optr 0 0 0, oref 1 0 0 (([0, 2147483648, 2139095040, 4286578688, 2143289344, 1, 2139095039, 8388608, 8388607, 2147483649] : List Int).length)]) (Γc := [⟨0, some [sl a0.length (a0.map (ik .u8)), i64 r8, ik .u64 r9]⟩, ⟨0, some (([0, 2147483648, 2139095040, 4286578688, 2143289344, 1, 2139095039, 8388608, 8388607, 2147483649] : List Int).map i64)⟩]) (Γc' := [⟨0, some [sl a0.length (a0.map (ik .u8)), i64 r11, ik .u64 r12]⟩, ⟨0, some (r13.map i64)⟩]) (r' := i64 r10) (Γ' := [⟨0, some [sl a0.length (a0.map (ik .u8)), i64 r11, ik .u64 r12]⟩, ⟨1, some (r13.map i64)⟩]) [(0, 0), (1, 1)] [] rfl (CallAs.func ent85 rfl rfl) rfl rfl (SelOk.of (show List.Nodup [0, 1] from by decide) (SelL.cells0 rfl (by simp [ren, rens, sigma, rens_f32, rens_f64, rens_i64, rens_ik, rens_str, rens_cp]) (lts_cons (lt_slk (fun _ => rfl)) (lts_cons rfl (lts_cons rfl lts_nil))) (SelL.arr0 (f := i64) (fun _ => rfl) rfl trivial))) (live_of ⟨⟨_, _, rfl⟩, ⟨_, _, rfl⟩, trivial⟩) (by simp [ren, rens, sigma, rens_f32, rens_f64, rens_i64, rens_ik, rens_str, rens_cp]) rfl (s_l00Src_among_0p0_1o1_C0_ok a0 r8 r9 ([0, 2147483648, 2139095040, 4286578688, 2143289344, 1, 2139095039, 8388608, 8388607, 2147483649] : List Int) r10 r11 r12 r13 hf6) rfl (news_of trivial) (show List.Nodup [0, 1] from by decide) (by simp [ren, rens, sigma, of_decide_eq_true hn7]) (by simp [backOb, sigma, ren, rens, rens_f32, rens_f64, rens_i64, rens_ik, rens_str, rens_cp, of_decide_eq_true hn7]) ?_
   refine ROps.d (r := f32 r14) (fs := []) (Γ' := [⟨0, some [sl a0.length (a0.map (ik .u8)), i64 r11, ik .u64 r12]⟩, ⟨1, some (r13.map i64)⟩]) rfl rfl rfl (TOp.callB (CallAs.func ent53 rfl rfl) (Bors.cons (Bor.pure rfl) Bors.nil) rfl rfl (s_l01From_ok r10 r14 hf8)) rfl ?_
   refine za (r := f32 r14) ?_
   refine zN ?_
   refine RunC.ret ?_
   have hq := Option.some.inj h
   obtain ⟨hq0, hq⟩ := Prod.mk.inj hq
   obtain ⟨hq1, hq⟩ := Prod.mk.inj hq
   subst q0
   subst q1
   subst q2
   exact bodyQ.mk (r' := f32 r14) [(0, 0)] (.inr rfl) rfl (show List.Nodup [0] from by decide) rfl rfl (Res.one rfl (RV.tmp rfl)) (SelL.cells rfl (by first | rfl | simp [ren, rens, sigma, rens_f32, rens_f64, rens_i64, rens_ik, rens_str, rens_cp]) (lts_cons (lt_slk (fun _ => rfl)) (lts_cons rfl (lts_cons rfl lts_nil))) trivial)
  ·refine RunC.regionW ?_
   refine zl (r := b false) (LOp.eqb (LOp.eql rfl rfl rfl) hc5) ?_
   refine za (r := b false) ?_
   refine zN ?_
   refine RunC.cond_false rfl rfl ?_
   refine RunC.seq ?_
   rcases bsel_some h with ⟨hc9, h⟩ | ⟨hc9, h⟩
   ·refine RunC.regionW ?_
    refine zl (r := b true) (LOp.eqb (LOp.eql rfl rfl rfl) hc9) ?_
    refine za (r := b true) ?_
    refine zN ?_
    refine RunC.cond_true rfl rfl ?_
    refine RunC.seq ?_
    obtain ⟨r15, r16, r17, hf10, h⟩ := obind3_some h
    obtain ⟨x18, hx11, h⟩ := olet_some h
    refine RunC.regionW ?_
    refine zm (r := optr 0 0 0) ?_
    refine ROps.callO (A := [optr 0 0 0, i64 65536]) (args := [optr 0 0 0, i64 65536]) (Γc := [⟨0, some [sl a0.length (a0.map (ik .u8)), i64 r8, ik .u64 r9]⟩]) (Γc' := [⟨0, some [sl a0.length (a0.map (ik .u8)), i64 r16, ik .u64 r17]⟩]) (r' := i64 r15) (Γ' := [⟨0, some [sl a0.length (a0.map (ik .u8)), i64 r16, ik .u64 r17]⟩, ⟨0, none⟩]) [(0, 0)] [] rfl (CallAs.func ent39 rfl rfl) rfl rfl (SelOk.of (show List.Nodup [0] from by decide) (SelL.cells0 rfl (by simp [ren, rens, sigma, rens_f32, rens_f64, rens_i64, rens_ik, rens_str, rens_cp]) (lts_cons (lt_slk (fun _ => rfl)) (lts_cons rfl (lts_cons rfl lts_nil))) trivial)) (live_of ⟨⟨_, _, rfl⟩, trivial⟩) (by simp [ren, rens, sigma, rens_f32, rens_f64, rens_i64, rens_ik, rens_str, rens_cp]) rfl (s_l00Src_pick_0p0_C0_ok 65536 a0 r8 r9 r15 r16 r17 hf10) rfl (news_of trivial) (show List.Nodup [0] from by decide) (by simp [ren, rens, sigma]) (by simp [backOb, sigma, ren, rens, rens_f32, rens_f64, rens_i64, rens_ik, rens_str, rens_cp]) ?_
    refine zl (r := i64 x18) (LOp.eqr (LOp.mul rfl rfl rfl) (congrArg (ik .i64) hx11)) ?_
    refine za (r := i64 x18) ?_
    refine zN ?_
    refine RunC.wl (τ' := [(0, optr 0 0 0), (3, i64 x18)]) (Γ' := [⟨0, some [sl a0.length (a0.map (ik .u8)), i64 r16, ik .u64 r17]⟩, ⟨0, none⟩]) ⟨aR, aR, trivial⟩ ⟨⟨rfl, .inr rfl⟩, ⟨rfl, .inr rfl⟩, trivial⟩ ?_
    refine RunC.seq ?_
    obtain ⟨r19, r20, r21, hf12, h⟩ := obind3_some h
    obtain ⟨x22, hx13, h⟩ := olet_some h
    obtain ⟨r23, hf14, h⟩ := obind_some h
    refine RunC.regionW ?_
    refine zm (r := i64 x18) ?_
    refine zm (r := optr 0 0 0) ?_
    refine ROps.callO (A := [optr 0 0 0, i64 65536]) (args := [optr 0 0 0, i64 65536]) (Γc := [⟨0, some [sl a0.length (a0.map (ik .u8)), i64 r16, ik .u64 r17]⟩]) (Γc' := [⟨0, some [sl a0.length (a0.map (ik .u8)), i64 r20, ik .u64 r21]⟩]) (r' := i64 r19) (Γ' := [⟨0, some [sl a0.length (a0.map (ik .u8)), i64 r20, ik .u64 r21]⟩, ⟨0, none⟩]) [(0, 0)] [] rfl (CallAs.func ent39 rfl rfl) rfl rfl (SelOk.of (show List.Nodup [0] from by decide) (SelL.cells0 rfl (by simp [ren, rens, sigma, rens_f32, rens_f64, rens_i64, rens_ik, rens_str, rens_cp]) (lts_cons (lt_slk (fun _ => rfl)) (lts_cons rfl (lts_cons rfl lts_nil))) trivial)) (live_of ⟨⟨_, _, rfl⟩, trivial⟩) (by simp [ren, rens, sigma, rens_f32, rens_f64, rens_i64, rens_ik, rens_str, rens_cp]) rfl (s_l00Src_pick_0p0_C0_ok 65536 a0 r16 r17 r19 r20 r21 hf12) rfl (news_of trivial) (show List.Nodup [0] from by decide) (by simp [ren, rens, sigma]) (by simp [backOb, sigma, ren, rens, rens_f32, rens_f64, rens_i64, rens_ik, rens_str, rens_cp]) ?_
    refine zl (r := i64 x22) (LOp.eqr (LOp.add rfl rfl rfl) (congrArg (ik .i64) hx13)) ?_
    refine ROps.d (r := f32 r23) (fs := []) (Γ' := [⟨0, some [sl a0.length (a0.map (ik .u8)), i64 r20, ik .u64 r21]⟩, ⟨0, none⟩]) rfl rfl rfl (TOp.callB (CallAs.func ent53 rfl rfl) (Bors.cons (Bor.pure rfl) Bors.nil) rfl rfl (s_l01From_ok x22 r23 hf14)) rfl ?_
    refine za (r := f32 r23) ?_
    refine zN ?_
    refine RunC.ret ?_
    have hq := Option.some.inj h
    obtain ⟨hq0, hq⟩ := Prod.mk.inj hq
    obtain ⟨hq1, hq⟩ := Prod.mk.inj hq
    subst q0
    subst q1
    subst q2
    exact bodyQ.mk (r' := f32 r23) [(0, 0)] (.inr rfl) rfl (show List.Nodup [0] from by decide) rfl rfl (Res.one rfl (RV.tmp rfl)) (SelL.cells rfl (by first | rfl | simp [ren, rens, sigma, rens_f32, rens_f64, rens_i64, rens_ik, rens_str, rens_cp]) (lts_cons (lt_slk (fun _ => rfl)) (lts_cons rfl (lts_cons rfl lts_nil))) trivial)
   ·refine RunC.regionW ?_
    refine zl (r := b false) (LOp.eqb (LOp.eql rfl rfl rfl) hc9) ?_
    refine za (r := b false) ?_
    refine zN ?_
    refine RunC.cond_false rfl rfl ?_
    refine RunC.seq ?_
    rcases bsel_some h with ⟨hc15, h⟩ | ⟨hc15, h⟩
    ·refine RunC.regionW ?_
     refine zl (r := b true) (LOp.eqb (LOp.eql rfl rfl rfl) hc15) ?_
     refine za (r := b true) ?_
     refine zN ?_
     refine RunC.cond_true rfl rfl ?_
     refine RunC.seq ?_
     obtain ⟨r24, r25, r26, hf16, h⟩ := obind3_some h
     obtain ⟨x27, hx17, h⟩ := olet_some h
     obtain ⟨r28, hf18, h⟩ := obind_some h
     refine RunC.regionW ?_
     refine zm (r := optr 0 0 0) ?_
     refine ROps.callO (A := [optr 0 0 0, i64 65536]) (args := [optr 0 0 0, i64 65536]) (Γc := [⟨0, some [sl a0.length (a0.map (ik .u8)), i64 r8, ik .u64 r9]⟩]) (Γc' := [⟨0, some [sl a0.length (a0.map (ik .u8)), i64 r25, ik .u64 r26]⟩]) (r' := i64 r24) (Γ' := [⟨0, some [sl a0.length (a0.map (ik .u8)), i64 r25, ik .u64 r26]⟩, ⟨0, none⟩]) [(0, 0)] [] rfl (CallAs.func ent39 rfl rfl) rfl rfl (SelOk.of (show List.Nodup [0] from by decide) (SelL.cells0 rfl (by simp [ren, rens, sigma, rens_f32, rens_f64, rens_i64, rens_ik, rens_str, rens_cp]) (lts_cons (lt_slk (fun _ => rfl)) (lts_cons rfl (lts_cons rfl lts_nil))) trivial)) (live_of ⟨⟨_, _, rfl⟩, trivial⟩) (by simp [ren, rens, sigma, rens_f32, rens_f64, rens_i64, rens_ik, rens_str, rens_cp]) rfl (s_l00Src_pick_0p0_C0_ok 65536 a0 r8 r9 r24 r25 r26 hf16) rfl (news_of trivial) (show List.Nodup [0] from by decide) (by simp [ren, rens, sigma]) (by simp [backOb, sigma, ren, rens, rens_f32, rens_f64, rens_i64, rens_ik, rens_str, rens_cp]) ?_
     refine zl (r := i64 x27) (LOp.eqr (LOp.mul rfl rfl rfl) (congrArg (ik .i64) hx17)) ?_
     refine ROps.d (r := f32 r28) (fs := []) (Γ' := [⟨0, some [sl a0.length (a0.map (ik .u8)), i64 r25, ik .u64 r26]⟩, ⟨0, none⟩]) rfl rfl rfl (TOp.callB (CallAs.func ent53 rfl rfl) (Bors.cons (Bor.pure rfl) Bors.nil) rfl rfl (s_l01From_ok x27 r28 hf18)) rfl ?_
     refine za (r := f32 r28) ?_
     refine zN ?_
     refine RunC.ret ?_
     have hq := Option.some.inj h
     obtain ⟨hq0, hq⟩ := Prod.mk.inj hq
     obtain ⟨hq1, hq⟩ := Prod.mk.inj hq
     subst q0
     subst q1
     subst q2
     exact bodyQ.mk (r' := f32 r28) [(0, 0)] (.inr rfl) rfl (show List.Nodup [0] from by decide) rfl rfl (Res.one rfl (RV.tmp rfl)) (SelL.cells rfl (by first | rfl | simp [ren, rens, sigma, rens_f32, rens_f64, rens_i64, rens_ik, rens_str, rens_cp]) (lts_cons (lt_slk (fun _ => rfl)) (lts_cons rfl (lts_cons rfl lts_nil))) trivial)
    ·refine RunC.regionW ?_
     refine zl (r := b false) (LOp.eqb (LOp.eql rfl rfl rfl) hc15) ?_
     refine za (r := b false) ?_
     refine zN ?_
     refine RunC.cond_false rfl rfl ?_
     refine RunC.skip ?_
     refine RunC.seq ?_
     obtain ⟨r29, r30, r31, hf19, h⟩ := obind3_some h
     obtain ⟨r32, r33, r34, r35, hf20, h⟩ := obind4_some h
     obtain ⟨hn21, h⟩ := need_some h
     obtain ⟨r36, hf22, h⟩ := obind_some h
     obtain ⟨x37, hx23, h⟩ := olet_some h
     refine RunC.regionW ?_
     refine zm (r := optr 0 0 0) ?_
     refine ROps.callO (A := [optr 0 0 0]) (args := [optr 0 0 0]) (Γc := [⟨0, some [sl a0.length (a0.map (ik .u8)), i64 r8, ik .u64 r9]⟩]) (Γc' := [⟨0, some [sl a0.length (a0.map (ik .u8)), i64 r30, ik .u64 r31]⟩]) (r' := f32 r29) (Γ' := [⟨0, some [sl a0.length (a0.map (ik .u8)), i64 r30, ik .u64 r31]⟩, ⟨0, none⟩]) [(0, 0)] [] rfl (CallAs.func ent84 rfl rfl) rfl rfl (SelOk.of (show List.Nodup [0] from by decide) (SelL.cells0 rfl (by simp [ren, rens, sigma, rens_f32, rens_f64, rens_i64, rens_ik, rens_str, rens_cp]) (lts_cons (lt_slk (fun _ => rfl)) (lts_cons rfl (lts_cons rfl lts_nil))) trivial)) (live_of ⟨⟨_, _, rfl⟩, trivial⟩) (by simp [ren, rens, sigma, rens_f32, rens_f64, rens_i64, rens_ik, rens_str, rens_cp]) rfl (s_l01DrawPlain_0p0_C0_ok a0 r8 r9 r29 r30 r31 hf19) rfl (news_of trivial) (show List.Nodup [0] from by decide) (by simp [ren, rens, sigma]) (by simp [backOb, sigma, ren, rens, rens_f32, rens_f64, rens_i64, rens_ik, rens_str, rens_cp]) ?_
     refine zm (r := optr 0 0 0) ?_
     refine ROps.d (r := oref 1 1 0 4) (fs := [(1, (([8388608, 2130706432, 1610612736, 536870912] : List Int).map i64))]) (Γ' := [⟨0, some [sl a0.length (a0.map (ik .u8)), i64 r30, ik .u64 r31]⟩, ⟨1, some (([8388608, 2130706432, 1610612736, 536870912] : List Int).map i64)⟩]) rfl rfl rfl (TOp.buildSlice_o (g := ⟨0, none⟩) (za := i64 0) (qs := [(0, [i64 8388608]), (1, [i64 2130706432]), (2, [i64 1610612736]), (3, [i64 536870912])]) 1 rfl und103 siz2 zer2 rfl zel2 rfl rfl ⟨rfl, ⟨_, ALe.refl _, rfl⟩, ⟨rfl, ⟨_, ALe.refl _, rfl⟩, ⟨rfl, ⟨_, ALe.refl _, rfl⟩, ⟨rfl, ⟨_, ALe.refl _, rfl⟩, trivial⟩⟩⟩⟩ rfl) rfl ?_
     refine ROps.callO (A := [optr 0 0 0, oref 1 1 0 4]) (args := [optr 0 0 0, oref 1 0 0 (([8388608, 2130706432, 1610612736, 536870912] : List Int).length)]) (Γc := [⟨0, some [sl a0.length (a0.map (ik .u8)), i64 r30, ik .u64 r31]⟩, ⟨0, some (([8388608, 2130706432, 1610612736, 536870912] : List Int).map i64)⟩]) (Γc' := [⟨0, some [sl a0.length (a0.map (ik .u8)), i64 r33, ik .u64 r34]⟩, ⟨0, some (r35.map i64)⟩]) (r' := i64 r32) (Γ' := [⟨0, some [sl a0.length (a0.map (ik .u8)), i64 r33, ik .u64 r34]⟩, ⟨1, some (r35.map i64)⟩]) [(0, 0), (1, 1)] [] rfl (CallAs.func ent85 rfl rfl) rfl rfl (SelOk.of (show List.Nodup [0, 1] from by decide) (SelL.cells0 rfl (by simp [ren, rens, sigma, rens_f32, rens_f64, rens_i64, rens_ik, rens_str, rens_cp]) (lts_cons (lt_slk (fun _ => rfl)) (lts_cons rfl (lts_cons rfl lts_nil))) (SelL.arr0 (f := i64) (fun _ => rfl) rfl trivial))) (live_of ⟨⟨_, _, rfl⟩, ⟨_, _, rfl⟩, trivial⟩) (by simp [ren, rens, sigma, rens_f32, rens_f64, rens_i64, rens_ik, rens_str, rens_cp]) rfl (s_l00Src_among_0p0_1o1_C0_ok a0 r30 r31 ([8388608, 2130706432, 1610612736, 536870912] : List Int) r32 r33 r34 r35 hf20) rfl (news_of trivial) (show List.Nodup [0, 1] from by decide) (by simp [ren, rens, sigma, of_decide_eq_true hn21]) (by simp [backOb, sigma, ren, rens, rens_f32, rens_f64, rens_i64, rens_ik, rens_str, rens_cp, of_decide_eq_true hn21]) ?_
     refine ROps.d (r := f32 r36) (fs := []) (Γ' := [⟨0, some [sl a0.length (a0.map (ik .u8)), i64 r33, ik .u64 r34]⟩, ⟨1, some (r35.map i64)⟩]) rfl rfl rfl (TOp.callB (CallAs.func ent53 rfl rfl) (Bors.cons (Bor.pure rfl) Bors.nil) rfl rfl (s_l01From_ok r32 r36 hf22)) rfl ?_
     refine ROps.d (r := f32 x37) (fs := []) (Γ' := [⟨0, some [sl a0.length (a0.map (ik .u8)), i64 r33, ik .u64 r34]⟩, ⟨1, some (r35.map i64)⟩]) rfl rfl rfl (TOp.eqr (TOp.fop (.inr (.inr (.inl rfl))) rfl (OpF.tmp rfl) (OpF.tmp rfl)) (congrArg (f .f32) hx23)) rfl ?_
     refine za (r := f32 x37) ?_
     refine zN ?_
     refine RunC.ret ?_
     have hq := Option.some.inj h
     obtain ⟨hq0, hq⟩ := Prod.mk.inj hq
     obtain ⟨hq1, hq⟩ := Prod.mk.inj hq
     subst q0
     subst q1
     subst q2
     exact bodyQ.mk (r' := f32 x37) [(0, 0)] (.inr rfl) rfl (show List.Nodup [0] from by decide) rfl rfl (Res.one rfl (RV.tmp rfl)) (SelL.cells rfl (by first | rfl | simp [ren, rens, sigma, rens_f32, rens_f64, rens_i64, rens_ik, rens_str, rens_cp]) (lts_cons (lt_slk (fun _ => rfl)) (lts_cons rfl (lts_cons rfl lts_nil))) trivial)
noncomputable def s_l01DrawComplex_0p0_C0 (a0 : List Int) (a1 : Int) (a2 : Int) : Option (F × F × Int × Int) :=
 obind3 (s_l01DrawFloat_0p0_C0 a0 a1 a2) fun (r1 : F) (r2 : Int) (r3 : Int) =>
 obind3 (s_l01DrawFloat_0p0_C0 a0 r2 r3) fun (r4 : F) (r5 : Int) (r6 : Int) =>
 some (r1, r4, r5, r6)
theorem s_l01DrawComplex_0p0_C0_ok (a0 : List Int) (a1 : Int) (a2 : Int) (q0 : F) (q1 : F) (q2 : Int) (q3 : Int) (h : s_l01DrawComplex_0p0_C0 a0 a1 a2 = some (q0, q1, q2, q3)) : Ev Tryz.prog 58 [optr 0 0 0] [⟨0, some [sl a0.length (a0.map (ik .u8)), i64 a1, ik .u64 a2]⟩] (cx .f32 q0 q1) [⟨0, some [sl a0.length (a0.map (ik .u8)), i64 q2, ik .u64 q3]⟩] := by
 refine Ev.start Tryz.func58 rfl rfl 0 (τ := [(0, optr 0 0 0)]) rfl (Γ' := [⟨0, some [sl a0.length (a0.map (ik .u8)), i64 a1, ik .u64 a2]⟩]) rfl (n := 20) rfl (g := 1) rfl (by decide) ?_
 unfold s_l01DrawComplex_0p0_C0 at h
 refine zQ ?_
 refine zl (r := cx .f32 (some 0) (some 0)) (LOp.le (LOp.assign rfl rfl) (ALe.cpx (by kernel_rfl) (by kernel_rfl) (by kernel_rfl) (by kernel_rfl))) ?_
 refine zN ?_
 refine RunC.seq ?_
 obtain ⟨r1, r2, r3, hf1, h⟩ := obind3_some h
 refine RunC.regionW ?_
 refine zm (r := optr 0 0 0) ?_
 refine ROps.callO (A := [optr 0 0 0]) (args := [optr 0 0 0]) (Γc := [⟨0, some [sl a0.length (a0.map (ik .u8)), i64 a1, ik .u64 a2]⟩]) (Γc' := [⟨0, some [sl a0.length (a0.map (ik .u8)), i64 r2, ik .u64 r3]⟩]) (r' := f32 r1) (Γ' := [⟨0, some [sl a0.length (a0.map (ik .u8)), i64 r2, ik .u64 r3]⟩]) [(0, 0)] [] rfl (CallAs.func ent54 rfl rfl) rfl rfl (SelOk.of (show List.Nodup [0] from by decide) (SelL.cells0 rfl (by simp [ren, rens, sigma, rens_f32, rens_f64, rens_i64, rens_ik, rens_str, rens_cp]) (lts_cons (lt_slk (fun _ => rfl)) (lts_cons rfl (lts_cons rfl lts_nil))) trivial)) (live_of ⟨⟨_, _, rfl⟩, trivial⟩) (by simp [ren, rens, sigma, rens_f32, rens_f64, rens_i64, rens_ik, rens_str, rens_cp]) rfl (s_l01DrawFloat_0p0_C0_ok a0 a1 a2 r1 r2 r3 hf1) rfl (news_of trivial) (show List.Nodup [0] from by decide) (by simp [ren, rens, sigma]) (by simp [backOb, sigma, ren, rens, rens_f32, rens_f64, rens_i64, rens_ik, rens_str, rens_cp]) ?_
 refine za (r := f32 r1) ?_
 refine zN ?_
 refine RunC.seq ?_
 obtain ⟨r4, r5, r6, hf2, h⟩ := obind3_some h
 refine RunC.regionW ?_
 refine zm (r := f32 r1) ?_
 refine zm (r := optr 0 0 0) ?_
 refine ROps.callO (A := [optr 0 0 0]) (args := [optr 0 0 0]) (Γc := [⟨0, some [sl a0.length (a0.map (ik .u8)), i64 r2, ik .u64 r3]⟩]) (Γc' := [⟨0, some [sl a0.length (a0.map (ik .u8)), i64 r5, ik .u64 r6]⟩]) (r' := f32 r4) (Γ' := [⟨0, some [sl a0.length (a0.map (ik .u8)), i64 r5, ik .u64 r6]⟩]) [(0, 0)] [] rfl (CallAs.func ent54 rfl rfl) rfl rfl (SelOk.of (show List.Nodup [0] from by decide) (SelL.cells0 rfl (by simp [ren, rens, sigma, rens_f32, rens_f64, rens_i64, rens_ik, rens_str, rens_cp]) (lts_cons (lt_slk (fun _ => rfl)) (lts_cons rfl (lts_cons rfl lts_nil))) trivial)) (live_of ⟨⟨_, _, rfl⟩, trivial⟩) (by simp [ren, rens, sigma, rens_f32, rens_f64, rens_i64, rens_ik, rens_str, rens_cp]) rfl (s_l01DrawFloat_0p0_C0_ok a0 r2 r3 r4 r5 r6 hf2) rfl (news_of trivial) (show List.Nodup [0] from by decide) (by simp [ren, rens, sigma]) (by simp [backOb, sigma, ren, rens, rens_f32, rens_f64, rens_i64, rens_ik, rens_str, rens_cp]) ?_
 refine zl (r := cx .f32 r1 r4) (LOp.complex rfl (OpF.tmp rfl) (OpF.tmp rfl)) ?_
 refine za (r := cx .f32 r1 r4) ?_
 refine zN ?_
 refine RunC.ret ?_
 have hq := Option.some.inj h
 obtain ⟨hq0, hq⟩ := Prod.mk.inj hq
 obtain ⟨hq1, hq⟩ := Prod.mk.inj hq
 obtain ⟨hq2, hq⟩ := Prod.mk.inj hq
 subst q0
 subst q1
 subst q2
 subst q3
 exact bodyQ.mk (r' := cx .f32 r1 r4) [(0, 0)] (.inr rfl) rfl (show List.Nodup [0] from by decide) rfl rfl (Res.one rfl (RV.tmp rfl)) (SelL.cells rfl (by first | rfl | simp [ren, rens, sigma, rens_f32, rens_f64, rens_i64, rens_ik, rens_str, rens_cp]) (lts_cons (lt_slk (fun _ => rfl)) (lts_cons rfl (lts_cons rfl lts_nil))) trivial)
noncomputable def s_l01DrawFine_0p0_C0 (a0 : List Int) (a1 : Int) (a2 : Int) : Option (F × F × Int × Int) :=
 obind3 (s_l00Src_pick_0p0_C0 65 a0 a1 a2) fun (r1 : Int) (r2 : Int) (r3 : Int) =>
 olet (IntKind.i64.wrap (r1 - 32)) fun (x4 : Int) =>
 olet (fint .f32 x4) fun (x5 : F) =>
 olet (fop .quo .f32 x5 (some 1098907648)) fun (x6 : F) =>
 obind3 (s_l00Src_pick_0p0_C0 65 a0 r2 r3) fun (r7 : Int) (r8 : Int) (r9 : Int) =>
 olet (IntKind.i64.wrap (r7 - 32)) fun (x10 : Int) =>
 olet (fint .f32 x10) fun (x11 : F) =>
 olet (fop .quo .f32 x11 (some 1098907648)) fun (x12 : F) =>
 some (x6, x12, r8, r9)
theorem s_l01DrawFine_0p0_C0_ok (a0 : List Int) (a1 : Int) (a2 : Int) (q0 : F) (q1 : F) (q2 : Int) (q3 : Int) (h : s_l01DrawFine_0p0_C0 a0 a1 a2 = some (q0, q1, q2, q3)) : Ev Tryz.prog 59 [optr 0 0 0] [⟨0, some [sl a0.length (a0.map (ik .u8)), i64 a1, ik .u64 a2]⟩] (cx .f32 q0 q1) [⟨0, some [sl a0.length (a0.map (ik .u8)), i64 q2, ik .u64 q3]⟩] := by
 refine Ev.start Tryz.func59 rfl rfl 0 (τ := [(0, optr 0 0 0)]) rfl (Γ' := [⟨0, some [sl a0.length (a0.map (ik .u8)), i64 a1, ik .u64 a2]⟩]) rfl (n := 32) rfl (g := 1) rfl (by decide) ?_
 unfold s_l01DrawFine_0p0_C0 at h
 refine zQ ?_
 refine zl (r := cx .f32 (some 0) (some 0)) (LOp.le (LOp.assign rfl rfl) (ALe.cpx (by kernel_rfl) (by kernel_rfl) (by kernel_rfl) (by kernel_rfl))) ?_
 refine zN ?_
 refine RunC.seq ?_
 obtain ⟨r1, r2, r3, hf1, h⟩ := obind3_some h
 obtain ⟨x4, hx2, h⟩ := olet_some h
 obtain ⟨x5, hx3, h⟩ := olet_some h
 obtain ⟨x6, hx4, h⟩ := olet_some h
 refine RunC.regionW ?_
 refine zm (r := optr 0 0 0) ?_
 refine ROps.callO (A := [optr 0 0 0, i64 65]) (args := [optr 0 0 0, i64 65]) (Γc := [⟨0, some [sl a0.length (a0.map (ik .u8)), i64 a1, ik .u64 a2]⟩]) (Γc' := [⟨0, some [sl a0.length (a0.map (ik .u8)), i64 r2, ik .u64 r3]⟩]) (r' := i64 r1) (Γ' := [⟨0, some [sl a0.length (a0.map (ik .u8)), i64 r2, ik .u64 r3]⟩]) [(0, 0)] [] rfl (CallAs.func ent39 rfl rfl) rfl rfl (SelOk.of (show List.Nodup [0] from by decide) (SelL.cells0 rfl (by simp [ren, rens, sigma, rens_f32, rens_f64, rens_i64, rens_ik, rens_str, rens_cp]) (lts_cons (lt_slk (fun _ => rfl)) (lts_cons rfl (lts_cons rfl lts_nil))) trivial)) (live_of ⟨⟨_, _, rfl⟩, trivial⟩) (by simp [ren, rens, sigma, rens_f32, rens_f64, rens_i64, rens_ik, rens_str, rens_cp]) rfl (s_l00Src_pick_0p0_C0_ok 65 a0 a1 a2 r1 r2 r3 hf1) rfl (news_of trivial) (show List.Nodup [0] from by decide) (by simp [ren, rens, sigma]) (by simp [backOb, sigma, ren, rens, rens_f32, rens_f64, rens_i64, rens_ik, rens_str, rens_cp]) ?_
 refine zl (r := i64 x4) (LOp.eqr (LOp.sub rfl rfl rfl) (congrArg (ik .i64) hx2)) ?_
 refine zl (r := f32 x5) (LOp.eqr (LOp.i2f (src := 2) (dst := 28) ⟨_, pun2⟩ pun28 rfl rfl) (congrArg (f .f32) hx3)) ?_
 refine ROps.d (r := f32 x6) (fs := []) (Γ' := [⟨0, some [sl a0.length (a0.map (ik .u8)), i64 r2, ik .u64 r3]⟩]) rfl rfl rfl (TOp.eqr (TOp.fop (.inr (.inr (.inr rfl))) rfl (OpF.tmp rfl) (OpF.const rfl (by kernel_rfl) (by kernel_rfl))) (congrArg (f .f32) hx4)) rfl ?_
 refine za (r := f32 x6) ?_
 refine zN ?_
 refine RunC.seq ?_
 obtain ⟨r7, r8, r9, hf5, h⟩ := obind3_some h
 obtain ⟨x10, hx6, h⟩ := olet_some h
 obtain ⟨x11, hx7, h⟩ := olet_some h
 obtain ⟨x12, hx8, h⟩ := olet_some h
 refine RunC.regionW ?_
 refine zm (r := f32 x6) ?_
 refine zm (r := optr 0 0 0) ?_
 refine ROps.callO (A := [optr 0 0 0, i64 65]) (args := [optr 0 0 0, i64 65]) (Γc := [⟨0, some [sl a0.length (a0.map (ik .u8)), i64 r2, ik .u64 r3]⟩]) (Γc' := [⟨0, some [sl a0.length (a0.map (ik .u8)), i64 r8, ik .u64 r9]⟩]) (r' := i64 r7) (Γ' := [⟨0, some [sl a0.length (a0.map (ik .u8)), i64 r8, ik .u64 r9]⟩]) [(0, 0)] [] rfl (CallAs.func ent39 rfl rfl) rfl rfl (SelOk.of (show List.Nodup [0] from by decide) (SelL.cells0 rfl (by simp [ren, rens, sigma, rens_f32, rens_f64, rens_i64, rens_ik, rens_str, rens_cp]) (lts_cons (lt_slk (fun _ => rfl)) (lts_cons rfl (lts_cons rfl lts_nil))) trivial)) (live_of ⟨⟨_, _, rfl⟩, trivial⟩) (by simp [ren, rens, sigma, rens_f32, rens_f64, rens_i64, rens_ik, rens_str, rens_cp]) rfl (s_l00Src_pick_0p0_C0_ok 65 a0 r2 r3 r7 r8 r9 hf5) rfl (news_of trivial) (show List.Nodup [0] from by decide) (by simp [ren, rens, sigma]) (by simp [backOb, sigma, ren, rens, rens_f32, rens_f64, rens_i64, rens_ik, rens_str, rens_cp]) ?_
 refine zl (r := i64 x10) (LOp.eqr (LOp.sub rfl rfl rfl) (congrArg (ik .i64) hx6)) ?_
 refine zl (r := f32 x11) (LOp.eqr (LOp.i2f (src := 2) (dst := 28) ⟨_, pun2⟩ pun28 rfl rfl) (congrArg (f .f32) hx7)) ?_
 refine ROps.d (r := f32 x12) (fs := []) (Γ' := [⟨0, some [sl a0.length (a0.map (ik .u8)), i64 r8, ik .u64 r9]⟩]) rfl rfl rfl (TOp.eqr (TOp.fop (.inr (.inr (.inr rfl))) rfl (OpF.tmp rfl) (OpF.const rfl (by kernel_rfl) (by kernel_rfl))) (congrArg (f .f32) hx8)) rfl ?_
 refine zl (r := cx .f32 x6 x12) (LOp.complex rfl (OpF.tmp rfl) (OpF.tmp rfl)) ?_
 refine za (r := cx .f32 x6 x12) ?_
 refine zN ?_
 refine RunC.ret ?_
 have hq := Option.some.inj h
 obtain ⟨hq0, hq⟩ := Prod.mk.inj hq
 obtain ⟨hq1, hq⟩ := Prod.mk.inj hq
 obtain ⟨hq2, hq⟩ := Prod.mk.inj hq
 subst q0
 subst q1
 subst q2
 subst q3
 exact bodyQ.mk (r' := cx .f32 x6 x12) [(0, 0)] (.inr rfl) rfl (show List.Nodup [0] from by decide) rfl rfl (Res.one rfl (RV.tmp rfl)) (SelL.cells rfl (by first | rfl | simp [ren, rens, sigma, rens_f32, rens_f64, rens_i64, rens_ik, rens_str, rens_cp]) (lts_cons (lt_slk (fun _ => rfl)) (lts_cons rfl (lts_cons rfl lts_nil))) trivial)
noncomputable def s_l01DrawComplexes_0p0_C0_b1 (a1 : List Int) (L6 : List (F × F)) (v7 : Int) (v8 : Int) (v9 : Int) : Option (LR ((List (F × F)) × Int × Int × Int) ((List (F × F)) × Int × Int) (Int × Int × (List (F × F)))) :=
 bsel (decide (0 < v9)) (
  obind4 (s_l01DrawComplex_0p0_C0 a1 v7 v8) fun (r10 : F) (r11 : F) (r12 : Int) (r13 : Int) =>
  need (apok 8 L6.length 1) <|
  olet (IntKind.i64.wrap (v9 - 1)) fun (x14 : Int) =>
  some (LR.next ((L6 ++ ([(r10, r11)] : List (F × F))), r12, r13, x14))) (
  some (LR.out (L6, v7, v8)))
noncomputable def s_l01DrawComplexes_0p0_C0_s1 (a1 : List Int) : ((List (F × F)) × Int × Int × Int) → Option (LR ((List (F × F)) × Int × Int × Int) ((List (F × F)) × Int × Int) (Int × Int × (List (F × F)))) := fun s => s_l01DrawComplexes_0p0_C0_b1 a1 s.1 s.2.1 s.2.2.1 s.2.2.2
noncomputable def s_l01DrawComplexes_0p0_C0_k1 (L17 : List (F × F)) (v18 : Int) (v19 : Int) : Option (Int × Int × (List (F × F))) :=
 some (v18, v19, L17)
noncomputable def s_l01DrawComplexes_0p0_C0_b2 (a1 : List Int) (L22 : List (F × F)) (v23 : Int) (v24 : Int) (v25 : Int) : Option (LR ((List (F × F)) × Int × Int × Int) ((List (F × F)) × Int × Int) (Int × Int × (List (F × F)))) :=
 bsel (decide (0 < v25)) (
  obind4 (s_l01DrawFine_0p0_C0 a1 v23 v24) fun (r26 : F) (r27 : F) (r28 : Int) (r29 : Int) =>
  need (apok 8 L22.length 1) <|
  olet (IntKind.i64.wrap (v25 - 1)) fun (x30 : Int) =>
  some (LR.next ((L22 ++ ([(r26, r27)] : List (F × F))), r28, r29, x30))) (
  some (LR.out (L22, v23, v24)))
noncomputable def s_l01DrawComplexes_0p0_C0_s2 (a1 : List Int) : ((List (F × F)) × Int × Int × Int) → Option (LR ((List (F × F)) × Int × Int × Int) ((List (F × F)) × Int × Int) (Int × Int × (List (F × F)))) := fun s => s_l01DrawComplexes_0p0_C0_b2 a1 s.1 s.2.1 s.2.2.1 s.2.2.2
noncomputable def s_l01DrawComplexes_0p0_C0_k2 (L33 : List (F × F)) (v34 : Int) (v35 : Int) : Option (Int × Int × (List (F × F))) :=
 some (v34, v35, L33)
noncomputable def s_l01DrawComplexes_0p0_C0 (a0 : Int) (a1 : List Int) (a2 : Int) (a3 : Int) : Option (Int × Int × (List (F × F))) :=
 obind3 (s_l00Src_one_0p0_C0 5 a1 a2 a3) fun (r1 : Bool) (r2 : Int) (r3 : Int) =>
 bsel r1 (
  obind (loopM (s_l01DrawComplexes_0p0_C0_s1 a1) (([] : List (F × F)), r2, r3, a0)) fun z => osum z (fun e => s_l01DrawComplexes_0p0_C0_k1 e.1 e.2.1 e.2.2) (fun r => some r)) (
  obind (loopM (s_l01DrawComplexes_0p0_C0_s2 a1) (([] : List (F × F)), r2, r3, a0)) fun z => osum z (fun e => s_l01DrawComplexes_0p0_C0_k2 e.1 e.2.1 e.2.2) (fun r => some r))
theorem s_l01DrawComplexes_0p0_C0_ok (a0 : Int) (a1 : List Int) (a2 : Int) (a3 : Int) (q0 : Int) (q1 : Int) (q2 : List (F × F)) (h : s_l01DrawComplexes_0p0_C0 a0 a1 a2 a3 = some (q0, q1, q2)) : Ev Tryz.prog 46 [optr 0 0 0, i64 a0] [⟨0, some [sl a1.length (a1.map (ik .u8)), i64 a2, ik .u64 a3]⟩] (oref 1 0 0 q2.length) [⟨0, some [sl a1.length (a1.map (ik .u8)), i64 q0, ik .u64 q1]⟩, ⟨0, some (q2.map (cp .f32))⟩] := by
 refine Ev.start Tryz.func46 rfl rfl 2 (τ := [(0, optr 0 0 0), (1, i64 a0)]) rfl (Γ' := [⟨0, some [sl a1.length (a1.map (ik .u8)), i64 a2, ik .u64 a3]⟩, ⟨0, none⟩, ⟨0, none⟩]) rfl (n := 52) rfl (g := 1) rfl (by decide) ?_
 unfold s_l01DrawComplexes_0p0_C0 at h
 refine zQ ?_
 refine za (r := nilsl) ?_
 refine zN ?_
 refine zQ ?_
 refine ROps.d (r := oref 1 1 0 0) (fs := [(1, (([] : List (F × F)).map (cp .f32)))]) (Γ' := [⟨0, some [sl a1.length (a1.map (ik .u8)), i64 a2, ik .u64 a3]⟩, ⟨1, some (([] : List (F × F)).map (cp .f32))⟩, ⟨0, none⟩]) rfl rfl rfl (TOp.buildSlice_o (g := ⟨0, none⟩) (za := cx .f32 (some 0) (some 0)) (qs := []) 1 rfl und25 siz24 zer24 rfl zel24 rfl rfl trivial rfl) rfl ?_
 refine za (r := oref 1 1 0 0) ?_
 refine zN ?_
 refine RunC.seq ?_
 obtain ⟨r1, r2, r3, hf1, h⟩ := obind3_some h
 rcases bsel_some h with ⟨hc2, h⟩ | ⟨hc2, h⟩
 ·refine RunC.regionW ?_
  refine zm (r := optr 0 0 0) ?_
  refine ROps.callO (A := [optr 0 0 0, i64 5]) (args := [optr 0 0 0, i64 5]) (Γc := [⟨0, some [sl a1.length (a1.map (ik .u8)), i64 a2, ik .u64 a3]⟩]) (Γc' := [⟨0, some [sl a1.length (a1.map (ik .u8)), i64 r2, ik .u64 r3]⟩]) (r' := b r1) (Γ' := [⟨0, some [sl a1.length (a1.map (ik .u8)), i64 r2, ik .u64 r3]⟩, ⟨1, some (([] : List (F × F)).map (cp .f32))⟩, ⟨0, none⟩]) [(0, 0)] [] rfl (CallAs.func ent52 rfl rfl) rfl rfl (SelOk.of (show List.Nodup [0] from by decide) (SelL.cells0 rfl (by simp [ren, rens, sigma, rens_f32, rens_f64, rens_i64, rens_ik, rens_str, rens_cp]) (lts_cons (lt_slk (fun _ => rfl)) (lts_cons rfl (lts_cons rfl lts_nil))) trivial)) (live_of ⟨⟨_, _, rfl⟩, trivial⟩) (by simp [ren, rens, sigma, rens_f32, rens_f64, rens_i64, rens_ik, rens_str, rens_cp]) rfl (s_l00Src_one_0p0_C0_ok 5 a1 a2 a3 r1 r2 r3 hf1) rfl (news_of trivial) (show List.Nodup [0] from by decide) (by simp [ren, rens, sigma]) (by simp [backOb, sigma, ren, rens, rens_f32, rens_f64, rens_i64, rens_ik, rens_str, rens_cp]) ?_
  refine zl (r := b true) (LOp.eqb (LOp.assign rfl rfl) hc2) ?_
  refine zN ?_
  refine RunC.seq ?_
  obtain ⟨z3, hz_3, h⟩ := obind_some h
  refine RunC.cutN (fun τ Γ => ∃ (L17 : List (F × F)) (v18 : Int) (v19 : Int) (u15 : Nat) (u16 : Nat), WeakLe τ [(5, oref 1 u15 0 L17.length)] ∧ DeadLe Γ [⟨0, some [sl a1.length (a1.map (ik .u8)), i64 v18, ik .u64 v19]⟩, ⟨u15, some (L17.map (cp .f32))⟩, ⟨u16, none⟩] ∧ z3 = .inl (L17, v18, v19)) ?_ ?_
  ·refine RunC.block (RunC.loop (RunL.loopM (x := z3) (s_l01DrawComplexes_0p0_C0_s1 a1) (fun (s : (List (F × F)) × Int × Int × Int) τ Γ => ∃ (u4 : Nat) (u5 : Nat), WeakLe τ [(0, optr 0 0 0), (1, i64 s.2.2.2), (5, oref 1 u4 0 s.1.length), (6, b true)] ∧ DeadLe Γ [⟨0, some [sl a1.length (a1.map (ik .u8)), i64 s.2.1, ik .u64 s.2.2.1]⟩, ⟨u4, some (s.1.map (cp .f32))⟩, ⟨u5, none⟩]) ?_ _ _ _ hz_3 ⟨1, 0, ⟨aR, aR, aR, aR, trivial⟩, ⟨⟨rfl, .inr rfl⟩, ⟨rfl, .inr rfl⟩, ⟨rfl, .inl rfl⟩, trivial⟩⟩))
   rintro ⟨L6, v7, v8, v9⟩ τ3 Γ3 y3_ ⟨u4, u5, hw3, hd3⟩ h3_ ho3 hr3
   refine RunC.wl (τ' := [(0, optr 0 0 0), (1, i64 v9), (5, oref 1 u4 0 L6.length), (6, b true)]) (Γ' := [⟨0, some [sl a1.length (a1.map (ik .u8)), i64 v7, ik .u64 v8]⟩, ⟨u4, some (L6.map (cp .f32))⟩, ⟨u5, none⟩]) hw3 hd3 ?_
   replace h3_ : s_l01DrawComplexes_0p0_C0_b1 a1 L6 v7 v8 v9 = some y3_ := h3_
   unfold s_l01DrawComplexes_0p0_C0_b1 at h3_
   iterate 2 (refine RunC.seq ?_)
   rcases bsel_some h3_ with ⟨hc3, h3_⟩ | ⟨hc3, h3_⟩
   ·refine RunC.regionW ?_
    refine zm (r := i64 v9) ?_
    refine zl (r := b true) (LOp.eqb (LOp.gtr rfl rfl rfl) hc3) ?_
    refine zN ?_
    refine RunC.cond_true rfl rfl ?_
    refine RunC.skip ?_
    refine RunC.seq ?_
    refine RunC.block ?_
    refine zQ ?_
    refine zm (r := b true) ?_
    refine zN ?_
    refine RunC.cond_true rfl rfl ?_
    obtain ⟨r10, r11, r12, r13, hf4, h3_⟩ := obind4_some h3_
    obtain ⟨hm5, h3_⟩ := need_some h3_
    refine RunC.regionW ?_
    refine zm (r := oref 1 u4 0 L6.length) ?_
    refine zm (r := optr 0 0 0) ?_
    refine ROps.callO (A := [optr 0 0 0]) (args := [optr 0 0 0]) (Γc := [⟨0, some [sl a1.length (a1.map (ik .u8)), i64 v7, ik .u64 v8]⟩]) (Γc' := [⟨0, some [sl a1.length (a1.map (ik .u8)), i64 r12, ik .u64 r13]⟩]) (r' := cx .f32 r10 r11) (Γ' := [⟨0, some [sl a1.length (a1.map (ik .u8)), i64 r12, ik .u64 r13]⟩, ⟨u4, some (L6.map (cp .f32))⟩, ⟨u5, none⟩]) [(0, 0)] [] rfl (CallAs.func ent58 rfl rfl) rfl rfl (SelOk.of (show List.Nodup [0] from by decide) (SelL.cells0 rfl (by simp [ren, rens, sigma, rens_f32, rens_f64, rens_i64, rens_ik, rens_str, rens_cp]) (lts_cons (lt_slk (fun _ => rfl)) (lts_cons rfl (lts_cons rfl lts_nil))) trivial)) (live_of ⟨⟨_, _, rfl⟩, trivial⟩) (by simp [ren, rens, sigma, rens_f32, rens_f64, rens_i64, rens_ik, rens_str, rens_cp]) rfl (s_l01DrawComplex_0p0_C0_ok a1 v7 v8 r10 r11 r12 r13 hf4) rfl (news_of trivial) (show List.Nodup [0] from by decide) (by simp [ren, rens, sigma]) (by simp [backOb, sigma, ren, rens, rens_f32, rens_f64, rens_i64, rens_ik, rens_str, rens_cp]) ?_
    refine ROps.d (r := oref 2 (u5 + 1) 0 1) (fs := [(2, (([(r10, r11)] : List (F × F)).map (cp .f32)))]) (Γ' := [⟨0, some [sl a1.length (a1.map (ik .u8)), i64 r12, ik .u64 r13]⟩, ⟨u4, some (L6.map (cp .f32))⟩, ⟨(u5 + 1), some (([(r10, r11)] : List (F × F)).map (cp .f32))⟩]) rfl rfl rfl (TOp.buildSlice_o (g := ⟨u5, none⟩) (za := cx .f32 (some 0) (some 0)) (qs := [(0, [cx .f32 r10 r11])]) 2 rfl und25 siz24 zer24 rfl zel24 rfl rfl ⟨rfl, ⟨_, ALe.refl _, rfl⟩, trivial⟩ rfl) rfl ?_
    refine ROps.app (f := (cp .f32)) (xs := L6) (ys := ([(r10, r11)] : List (F × F))) (Γ' := [⟨0, some [sl a1.length (a1.map (ik .u8)), i64 r12, ik .u64 r13]⟩, ⟨(u4 + 1), some ((L6 ++ ([(r10, r11)] : List (F × F))).map (cp .f32))⟩, ⟨(u5 + 1), some (([(r10, r11)] : List (F × F)).map (cp .f32))⟩]) rfl pun25 inf24 rfl rfl rfl rfl rfl rfl rfl rfl rfl (by simp) (ReadAs.own rfl (by simp)) (ones_map (fun _ => rfl)) (ap_by hm5) (ap_mx hm5) rfl ?_
    refine za (r := oref 1 (u4 + 1) 0 (L6.length + 1)) ?_
    refine zN ?_
    refine RunC.wl (τ' := [(0, optr 0 0 0), (1, i64 v9), (5, oref 1 (u4 + 1) 0 (L6.length + 1)), (6, b true)]) (Γ' := [⟨0, some [sl a1.length (a1.map (ik .u8)), i64 r12, ik .u64 r13]⟩, ⟨(u4 + 1), some ((L6 ++ ([(r10, r11)] : List (F × F))).map (cp .f32))⟩, ⟨(u5 + 1), none⟩]) ⟨aR, aR, aR, aR, trivial⟩ ⟨⟨rfl, .inr rfl⟩, ⟨rfl, .inr rfl⟩, ⟨rfl, .inl rfl⟩, trivial⟩ ?_
    obtain ⟨x14, hx6, h3_⟩ := olet_some h3_
    refine RunC.regionW ?_
    refine zm (r := i64 v9) ?_
    refine zl (r := i64 x14) (LOp.eqr (LOp.sub rfl rfl rfl) (congrArg (ik .i64) hx6)) ?_
    refine za (r := i64 x14) ?_
    refine zN ?_
    cases Option.some.inj h3_
    exact ⟨_, rfl, (u4 + 1), (u5 + 1), ⟨aR, aR, (ALe.eq (by rw [(app_len rfl rfl)] <;> rfl)), aR, trivial⟩, ⟨⟨rfl, .inr rfl⟩, ⟨rfl, .inr rfl⟩, ⟨rfl, .inl rfl⟩, trivial⟩⟩
   ·refine RunC.regionW ?_
    refine zm (r := i64 v9) ?_
    refine zl (r := b false) (LOp.eqb (LOp.gtr rfl rfl rfl) hc3) ?_
    refine zN ?_
    refine RunC.cond_false rfl rfl ?_
    refine RunC.exit ?_
    cases Option.some.inj h3_
    have hx := ho3 _ rfl
    exact ⟨L6, v7, v8, u4, u5, ⟨aR, trivial⟩, ⟨⟨rfl, .inr rfl⟩, ⟨rfl, .inr rfl⟩, ⟨rfl, .inl rfl⟩, trivial⟩, hx⟩
  ·rintro τ4 Γ4 ⟨L17, v18, v19, u15, u16, hw4, hd4, rfl⟩
   refine RunC.wl hw4 hd4 ?_
   replace h : s_l01DrawComplexes_0p0_C0_k1 L17 v18 v19 = some (q0, q1, q2) := h
   unfold s_l01DrawComplexes_0p0_C0_k1 at h
   refine zQ ?_
   refine zm (r := oref 1 u15 0 L17.length) ?_
   refine za (r := oref 1 u15 0 L17.length) ?_
   refine zN ?_
   refine RunC.ret ?_
   have hq := Option.some.inj h
   obtain ⟨hq0, hq⟩ := Prod.mk.inj hq
   obtain ⟨hq1, hq⟩ := Prod.mk.inj hq
   subst q0
   subst q1
   subst q2
   exact bodyQ.mk (r' := oref 1 u15 0 L17.length) [(0, 0), (1, u15)] (.inr rfl) rfl (show List.Nodup [0, 1] from by decide) (by simp [ren, rens, sigma]) rfl (Res.one rfl (RV.tmp rfl)) (SelL.cells rfl (by first | rfl | simp [ren, rens, sigma, rens_f32, rens_f64, rens_i64, rens_ik, rens_str, rens_cp]) (lts_cons (lt_slk (fun _ => rfl)) (lts_cons rfl (lts_cons rfl lts_nil))) (SelL.arr0 (f := (cp .f32)) (fun _ => rfl) rfl trivial))
 ·refine RunC.regionW ?_
  refine zm (r := optr 0 0 0) ?_
  refine ROps.callO (A := [optr 0 0 0, i64 5]) (args := [optr 0 0 0, i64 5]) (Γc := [⟨0, some [sl a1.length (a1.map (ik .u8)), i64 a2, ik .u64 a3]⟩]) (Γc' := [⟨0, some [sl a1.length (a1.map (ik .u8)), i64 r2, ik .u64 r3]⟩]) (r' := b r1) (Γ' := [⟨0, some [sl a1.length (a1.map (ik .u8)), i64 r2, ik .u64 r3]⟩, ⟨1, some (([] : List (F × F)).map (cp .f32))⟩, ⟨0, none⟩]) [(0, 0)] [] rfl (CallAs.func ent52 rfl rfl) rfl rfl (SelOk.of (show List.Nodup [0] from by decide) (SelL.cells0 rfl (by simp [ren, rens, sigma, rens_f32, rens_f64, rens_i64, rens_ik, rens_str, rens_cp]) (lts_cons (lt_slk (fun _ => rfl)) (lts_cons rfl (lts_cons rfl lts_nil))) trivial)) (live_of ⟨⟨_, _, rfl⟩, trivial⟩) (by simp [ren, rens, sigma, rens_f32, rens_f64, rens_i64, rens_ik, rens_str, rens_cp]) rfl (s_l00Src_one_0p0_C0_ok 5 a1 a2 a3 r1 r2 r3 hf1) rfl (news_of trivial) (show List.Nodup [0] from by decide) (by simp [ren, rens, sigma]) (by simp [backOb, sigma, ren, rens, rens_f32, rens_f64, rens_i64, rens_ik, rens_str, rens_cp]) ?_
  refine zl (r := b false) (LOp.eqb (LOp.assign rfl rfl) hc2) ?_
  refine zN ?_
  refine RunC.seq ?_
  obtain ⟨z5, hz_5, h⟩ := obind_some h
  refine RunC.cutN (fun τ Γ => ∃ (L33 : List (F × F)) (v34 : Int) (v35 : Int) (u31 : Nat) (u32 : Nat), WeakLe τ [(5, oref 1 u31 0 L33.length)] ∧ DeadLe Γ [⟨0, some [sl a1.length (a1.map (ik .u8)), i64 v34, ik .u64 v35]⟩, ⟨u31, some (L33.map (cp .f32))⟩, ⟨u32, none⟩] ∧ z5 = .inl (L33, v34, v35)) ?_ ?_
  ·refine RunC.block (RunC.loop (RunL.loopM (x := z5) (s_l01DrawComplexes_0p0_C0_s2 a1) (fun (s : (List (F × F)) × Int × Int × Int) τ Γ => ∃ (u20 : Nat) (u21 : Nat), WeakLe τ [(0, optr 0 0 0), (1, i64 s.2.2.2), (5, oref 1 u20 0 s.1.length), (6, b false)] ∧ DeadLe Γ [⟨0, some [sl a1.length (a1.map (ik .u8)), i64 s.2.1, ik .u64 s.2.2.1]⟩, ⟨u20, some (s.1.map (cp .f32))⟩, ⟨u21, none⟩]) ?_ _ _ _ hz_5 ⟨1, 0, ⟨aR, aR, aR, aR, trivial⟩, ⟨⟨rfl, .inr rfl⟩, ⟨rfl, .inr rfl⟩, ⟨rfl, .inl rfl⟩, trivial⟩⟩))
   rintro ⟨L22, v23, v24, v25⟩ τ5 Γ5 y5_ ⟨u20, u21, hw5, hd5⟩ h5_ ho5 hr5
   refine RunC.wl (τ' := [(0, optr 0 0 0), (1, i64 v25), (5, oref 1 u20 0 L22.length), (6, b false)]) (Γ' := [⟨0, some [sl a1.length (a1.map (ik .u8)), i64 v23, ik .u64 v24]⟩, ⟨u20, some (L22.map (cp .f32))⟩, ⟨u21, none⟩]) hw5 hd5 ?_
   replace h5_ : s_l01DrawComplexes_0p0_C0_b2 a1 L22 v23 v24 v25 = some y5_ := h5_
   unfold s_l01DrawComplexes_0p0_C0_b2 at h5_
   iterate 2 (refine RunC.seq ?_)
   rcases bsel_some h5_ with ⟨hc7, h5_⟩ | ⟨hc7, h5_⟩
   ·refine RunC.regionW ?_
    refine zm (r := i64 v25) ?_
    refine zl (r := b true) (LOp.eqb (LOp.gtr rfl rfl rfl) hc7) ?_
    refine zN ?_
    refine RunC.cond_true rfl rfl ?_
    refine RunC.skip ?_
    refine RunC.seq ?_
    refine RunC.block ?_
    refine zQ ?_
    refine zm (r := b false) ?_
    refine zN ?_
    refine RunC.cond_false rfl rfl ?_
    obtain ⟨r26, r27, r28, r29, hf8, h5_⟩ := obind4_some h5_
    obtain ⟨hm9, h5_⟩ := need_some h5_
    refine RunC.regionW ?_
    refine zm (r := oref 1 u20 0 L22.length) ?_
    refine zm (r := optr 0 0 0) ?_
    refine ROps.callO (A := [optr 0 0 0]) (args := [optr 0 0 0]) (Γc := [⟨0, some [sl a1.length (a1.map (ik .u8)), i64 v23, ik .u64 v24]⟩]) (Γc' := [⟨0, some [sl a1.length (a1.map (ik .u8)), i64 r28, ik .u64 r29]⟩]) (r' := cx .f32 r26 r27) (Γ' := [⟨0, some [sl a1.length (a1.map (ik .u8)), i64 r28, ik .u64 r29]⟩, ⟨u20, some (L22.map (cp .f32))⟩, ⟨u21, none⟩]) [(0, 0)] [] rfl (CallAs.func ent59 rfl rfl) rfl rfl (SelOk.of (show List.Nodup [0] from by decide) (SelL.cells0 rfl (by simp [ren, rens, sigma, rens_f32, rens_f64, rens_i64, rens_ik, rens_str, rens_cp]) (lts_cons (lt_slk (fun _ => rfl)) (lts_cons rfl (lts_cons rfl lts_nil))) trivial)) (live_of ⟨⟨_, _, rfl⟩, trivial⟩) (by simp [ren, rens, sigma, rens_f32, rens_f64, rens_i64, rens_ik, rens_str, rens_cp]) rfl (s_l01DrawFine_0p0_C0_ok a1 v23 v24 r26 r27 r28 r29 hf8) rfl (news_of trivial) (show List.Nodup [0] from by decide) (by simp [ren, rens, sigma]) (by simp [backOb, sigma, ren, rens, rens_f32, rens_f64, rens_i64, rens_ik, rens_str, rens_cp]) ?_
    refine ROps.d (r := oref 2 (u21 + 1) 0 1) (fs := [(2, (([(r26, r27)] : List (F × F)).map (cp .f32)))]) (Γ' := [⟨0, some [sl a1.length (a1.map (ik .u8)), i64 r28, ik .u64 r29]⟩, ⟨u20, some (L22.map (cp .f32))⟩, ⟨(u21 + 1), some (([(r26, r27)] : List (F × F)).map (cp .f32))⟩]) rfl rfl rfl (TOp.buildSlice_o (g := ⟨u21, none⟩) (za := cx .f32 (some 0) (some 0)) (qs := [(0, [cx .f32 r26 r27])]) 2 rfl und25 siz24 zer24 rfl zel24 rfl rfl ⟨rfl, ⟨_, ALe.refl _, rfl⟩, trivial⟩ rfl) rfl ?_
    refine ROps.app (f := (cp .f32)) (xs := L22) (ys := ([(r26, r27)] : List (F × F))) (Γ' := [⟨0, some [sl a1.length (a1.map (ik .u8)), i64 r28, ik .u64 r29]⟩, ⟨(u20 + 1), some ((L22 ++ ([(r26, r27)] : List (F × F))).map (cp .f32))⟩, ⟨(u21 + 1), some (([(r26, r27)] : List (F × F)).map (cp .f32))⟩]) rfl pun25 inf24 rfl rfl rfl rfl rfl rfl rfl rfl rfl (by simp) (ReadAs.own rfl (by simp)) (ones_map (fun _ => rfl)) (ap_by hm9) (ap_mx hm9) rfl ?_
    refine za (r := oref 1 (u20 + 1) 0 (L22.length + 1)) ?_
    refine zN ?_
    refine RunC.wl (τ' := [(0, optr 0 0 0), (1, i64 v25), (5, oref 1 (u20 + 1) 0 (L22.length + 1)), (6, b false)]) (Γ' := [⟨0, some [sl a1.length (a1.map (ik .u8)), i64 r28, ik .u64 r29]⟩, ⟨(u20 + 1), some ((L22 ++ ([(r26, r27)] : List (F × F))).map (cp .f32))⟩, ⟨(u21 + 1), none⟩]) ⟨aR, aR, aR, aR, trivial⟩ ⟨⟨rfl, .inr rfl⟩, ⟨rfl, .inr rfl⟩, ⟨rfl, .inl rfl⟩, trivial⟩ ?_
    obtain ⟨x30, hx10, h5_⟩ := olet_some h5_
    refine RunC.regionW ?_
    refine zm (r := i64 v25) ?_
    refine zl (r := i64 x30) (LOp.eqr (LOp.sub rfl rfl rfl) (congrArg (ik .i64) hx10)) ?_
    refine za (r := i64 x30) ?_
    refine zN ?_
    cases Option.some.inj h5_
    exact ⟨_, rfl, (u20 + 1), (u21 + 1), ⟨aR, aR, (ALe.eq (by rw [(app_len rfl rfl)] <;> rfl)), aR, trivial⟩, ⟨⟨rfl, .inr rfl⟩, ⟨rfl, .inr rfl⟩, ⟨rfl, .inl rfl⟩, trivial⟩⟩
   ·refine RunC.regionW ?_
    refine zm (r := i64 v25) ?_
    refine zl (r := b false) (LOp.eqb (LOp.gtr rfl rfl rfl) hc7) ?_
    refine zN ?_
    refine RunC.cond_false rfl rfl ?_
    refine RunC.exit ?_
    cases Option.some.inj h5_
    have hx := ho5 _ rfl
    exact ⟨L22, v23, v24, u20, u21, ⟨aR, trivial⟩, ⟨⟨rfl, .inr rfl⟩, ⟨rfl, .inr rfl⟩, ⟨rfl, .inl rfl⟩, trivial⟩, hx⟩
  ·rintro τ6 Γ6 ⟨L33, v34, v35, u31, u32, hw6, hd6, rfl⟩
   refine RunC.wl hw6 hd6 ?_
   replace h : s_l01DrawComplexes_0p0_C0_k2 L33 v34 v35 = some (q0, q1, q2) := h
   unfold s_l01DrawComplexes_0p0_C0_k2 at h
   refine zQ ?_
   refine zm (r := oref 1 u31 0 L33.length) ?_
   refine za (r := oref 1 u31 0 L33.length) ?_
   refine zN ?_
   refine RunC.ret ?_
   have hq := Option.some.inj h
   obtain ⟨hq0, hq⟩ := Prod.mk.inj hq
   obtain ⟨hq1, hq⟩ := Prod.mk.inj hq
   subst q0
   subst q1
   subst q2
   exact bodyQ.mk (r' := oref 1 u31 0 L33.length) [(0, 0), (1, u31)] (.inr rfl) rfl (show List.Nodup [0, 1] from by decide) (by simp [ren, rens, sigma]) rfl (Res.one rfl (RV.tmp rfl)) (SelL.cells rfl (by first | rfl | simp [ren, rens, sigma, rens_f32, rens_f64, rens_i64, rens_ik, rens_str, rens_cp]) (lts_cons (lt_slk (fun _ => rfl)) (lts_cons rfl (lts_cons rfl lts_nil))) (SelL.arr0 (f := (cp .f32)) (fun _ => rfl) rfl trivial))
noncomputable def s_B10Any (a0 : List Int) (a1 : Int) : Option ((List (F × F))) :=
 obind3 (s_l00From a0) fun (r1 : List Int) (r2 : Int) (r3 : Int) =>
 obind3 (s_l01DrawComplexes_0p0_C0 a1 r1 r2 r3) fun (r4 : Int) (r5 : Int) (r6 : List (F × F)) =>
 some r6
theorem s_B10Any_ok (a0 : List Int) (a1 : Int) (q0 : List (F × F)) (h : s_B10Any a0 a1 = some q0) : Ev Tryz.prog 15 [sl a0.length (a0.map (ik .u8)), i64 a1] [] (oref 0 0 0 q0.length) [⟨0, some (q0.map (cp .f32))⟩] := by
 refine Ev.start Tryz.func15 rfl rfl 2 (τ := [(0, sl a0.length (a0.map (ik .u8))), (1, i64 a1)]) rfl (Γ' := [⟨0, none⟩, ⟨0, none⟩]) rfl (n := 23) rfl (g := 0) rfl (fun _ => rfl) ?_
 unfold s_B10Any at h
 refine zQ ?_
 refine za (r := nilsl) ?_
 refine zN ?_
 refine RunC.seq ?_
 obtain ⟨r1, r2, r3, hf1, h⟩ := obind3_some h
 refine RunC.regionW ?_
 refine zm (r := sl a0.length (a0.map (ik .u8))) ?_
 refine ROps.d (r := optr 0 1 0) (fs := [(0, [sl r1.length (r1.map (ik .u8)), i64 r2, ik .u64 r3])]) (Γ' := [⟨1, some [sl r1.length (r1.map (ik .u8)), i64 r2, ik .u64 r3]⟩, ⟨0, none⟩]) rfl rfl rfl (TOp.callN (A := [sl a0.length (a0.map (ik .u8))]) (ls := [[sl r1.length (r1.map (ik .u8)), i64 r2, ik .u64 r3]]) [0] (by exact (CallAs.func ent38 rfl rfl)) (lts_cons (lt_sl (fun _ => rfl)) lts_nil) (s_l00From_ok a0 r1 r2 r3 hf1) (and_all (lts_cons (lt_sl (fun _ => rfl)) (lts_cons rfl (lts_cons rfl lts_nil))) rfl) rfl (by decide) (ns_of ⟨⟨_, rfl⟩, trivial⟩)) rfl ?_
 refine za (r := optr 0 1 0) ?_
 refine zN ?_
 refine RunC.seq ?_
 obtain ⟨r4, r5, r6, hf2, h⟩ := obind3_some h
 refine RunC.regionW ?_
 refine zm (r := optr 0 1 0) ?_
 refine zm (r := i64 a1) ?_
 refine ROps.callO (A := [optr 0 1 0, i64 a1]) (args := [optr 0 0 0, i64 a1]) (Γc := [⟨0, some [sl r1.length (r1.map (ik .u8)), i64 r2, ik .u64 r3]⟩]) (Γc' := [⟨0, some [sl r1.length (r1.map (ik .u8)), i64 r4, ik .u64 r5]⟩, ⟨0, some (r6.map (cp .f32))⟩]) (r' := oref 1 1 0 r6.length) (Γ' := [⟨1, some [sl r1.length (r1.map (ik .u8)), i64 r4, ik .u64 r5]⟩, ⟨1, some (r6.map (cp .f32))⟩]) [(0, 1)] [(1, 1)] rfl (CallAs.func ent46 rfl rfl) rfl rfl (SelOk.of (show List.Nodup [0] from by decide) (SelL.cells0 rfl (by simp [ren, rens, sigma, rens_f32, rens_f64, rens_i64, rens_ik, rens_str, rens_cp]) (lts_cons (lt_slk (fun _ => rfl)) (lts_cons rfl (lts_cons rfl lts_nil))) trivial)) (live_of ⟨⟨_, _, rfl⟩, trivial⟩) (by simp [ren, rens, sigma, rens_f32, rens_f64, rens_i64, rens_ik, rens_str, rens_cp]) rfl (s_l01DrawComplexes_0p0_C0_ok a1 r1 r2 r3 r4 r5 r6 hf2) rfl (news_of ⟨⟨_, rfl, rfl⟩, trivial⟩) (show List.Nodup [0, 1] from by decide) (by simp [ren, rens, sigma]) (by simp [backOb, sigma, ren, rens, rens_f32, rens_f64, rens_i64, rens_ik, rens_str, rens_cp]) ?_
 refine za (r := oref 1 1 0 r6.length) ?_
 refine zN ?_
 refine RunC.ret ?_
 have hq := Option.some.inj h
 subst q0
 exact bodyQ.mk (r' := oref 1 1 0 r6.length) [(1, 1)] (.inr rfl) rfl (show List.Nodup [1] from by decide) rfl rfl (Res.one rfl (RV.tmp rfl)) (SelL.arr0 (f := (cp .f32)) (fun _ => rfl) rfl trivial)
noncomputable def i_isShort_complex64 (a0 : List (F × F)) : Option (Bool) :=
 some (decide ((a0.length : Int) ≤ 256))
theorem i_isShort_complex64_ok (a0 : List (F × F)) (q0 : Bool) (h : i_isShort_complex64 a0 = some q0) : Ev Tryz.prog 47 [sl a0.length (a0.map (cp .f32))] [] (b q0) [] := by
 refine Ev.start Tryz.func47 rfl rfl 0 (τ := [(0, sl a0.length (a0.map (cp .f32)))]) rfl (Γ' := []) rfl (n := 13) rfl (g := 0) rfl (fun _ => rfl) ?_
 unfold i_isShort_complex64 at h
 refine zQ ?_
 refine za (r := b false) ?_
 refine zN ?_
 refine zQ ?_
 refine zm (r := sl a0.length (a0.map (cp .f32))) ?_
 refine zl (r := i64 (a0.length : Int)) (LOp.len_sl und25 rfl rfl) ?_
 refine zl (r := b (decide ((a0.length : Int) ≤ 256))) (LOp.leq rfl rfl rfl) ?_
 refine za (r := b (decide ((a0.length : Int) ≤ 256))) ?_
 refine zN ?_
 refine RunC.ret ?_
 have hq := Option.some.inj h
 subst q0
 exact bodyQ.pure (.inr rfl) rfl (Res.one rfl (RV.tmp rfl))
noncomputable def i_BitsOf (a0 : F) : Option (Int) :=
 bsel (!feq .f32 a0 a0) (
  some 2143289344) (
  obind (a0) fun (b1 : Nat) =>
  olet (IntKind.i64.wrap (b1 : Int)) fun (x2 : Int) =>
  some x2)
theorem i_BitsOf_ok (a0 : F) (q0 : Int) (h : i_BitsOf a0 = some q0) : Ev Tryz.prog 21 [f32 a0] [] (i64 q0) [] := by
 refine Ev.start Tryz.func21 rfl rfl 0 (τ := [(0, f32 a0)]) rfl (Γ' := []) rfl (n := 19) rfl (g := 0) rfl (fun _ => rfl) ?_
 unfold i_BitsOf at h
 refine zQ ?_
 refine za (r := i64 0) ?_
 refine zN ?_
 iterate 2 (refine RunC.seq ?_)
 rcases bsel_some h with ⟨hc1, h⟩ | ⟨hc1, h⟩
 ·refine RunC.regionW ?_
  iterate 2 (refine zm (r := f32 a0) ?_)
  refine zl (r := b true) (LOp.eqb (LOp.fne rfl (OpF.tmp rfl) (OpF.tmp rfl)) hc1) ?_
  refine zN ?_
  refine RunC.cond_true rfl rfl ?_
  refine zQ ?_
  refine za (r := i64 2143289344) ?_
  refine zN ?_
  refine RunC.ret ?_
  have hq := Option.some.inj h
  subst q0
  exact bodyQ.pure (.inr rfl) rfl (Res.one rfl (RV.tmp rfl))
 ·refine RunC.regionW ?_
  iterate 2 (refine zm (r := f32 a0) ?_)
  refine zl (r := b false) (LOp.eqb (LOp.fne rfl (OpF.tmp rfl) (OpF.tmp rfl)) hc1) ?_
  refine zN ?_
  refine RunC.cond_false rfl rfl ?_
  refine RunC.skip ?_
  refine RunC.seq ?_
  obtain ⟨b1, he2, h⟩ := obind_some h
  obtain ⟨x2, hx3, h⟩ := olet_some h
  refine RunC.regionW ?_
  refine zm (r := f32 a0) ?_
  refine zl (r := ik .u32 (b1 : Int)) (LOp.fbx ext57 rfl (OpF.tmp rfl) he2) ?_
  refine zl (r := i64 x2) (LOp.eqr (LOp.i2i (src := 79) (dst := 2) ⟨_, pun79⟩ pun2 rfl rfl) (congrArg (ik .i64) hx3)) ?_
  refine za (r := i64 x2) ?_
  refine zN ?_
  refine RunC.ret ?_
  have hq := Option.some.inj h
  subst q0
  exact bodyQ.pure (.inr rfl) rfl (Res.one rfl (RV.tmp rfl))
noncomputable def x_internal_strconv_isPowerOfTwo (a0 : Int) : Option (Bool) :=
 olet (IntKind.i64.wrap (a0 - 1)) fun (x1 : Int) =>
 olet (iand .i64 a0 x1) fun (x2 : Int) =>
 some (decide (x2 = 0))
theorem x_internal_strconv_isPowerOfTwo_ok (a0 : Int) (q0 : Bool) (h : x_internal_strconv_isPowerOfTwo a0 = some q0) : Ev Tryz.prog 135 [i64 a0] [] (b q0) [] := by
 refine Ev.start Tryz.func135 rfl rfl 0 (τ := [(0, i64 a0)]) rfl (Γ' := []) rfl (n := 17) rfl (g := 0) rfl (fun _ => rfl) ?_
 unfold x_internal_strconv_isPowerOfTwo at h
 refine zQ ?_
 refine za (r := b false) ?_
 refine zN ?_
 refine RunC.seq ?_
 obtain ⟨x1, hx1, h⟩ := olet_some h
 obtain ⟨x2, hx2, h⟩ := olet_some h
 refine RunC.regionW ?_
 iterate 2 (refine zm (r := i64 a0) ?_)
 refine zl (r := i64 x1) (LOp.eqr (LOp.sub rfl rfl rfl) (congrArg (ik .i64) hx1)) ?_
 refine zl (r := i64 x2) (LOp.eqr (LOp.iand rfl rfl rfl) (congrArg (ik .i64) hx2)) ?_
 refine zl (r := b (decide (x2 = 0))) (LOp.eql rfl rfl rfl) ?_
 refine za (r := b (decide (x2 = 0))) ?_
 refine zN ?_
 refine RunC.ret ?_
 have hq := Option.some.inj h
 subst q0
 exact bodyQ.pure (.inr rfl) rfl (Res.one rfl (RV.tmp rfl))
noncomputable def x_math_bits_TrailingZeros64 (a0 : Int) : Option (Int) :=
 bsel (decide (a0 = 0)) (
  some 64) (
  olet (IntKind.u64.wrap (0 - a0)) fun (x1 : Int) =>
  olet (iand .u64 a0 x1) fun (x2 : Int) =>
  olet (IntKind.u64.wrap (x2 * 285870213051353865)) fun (x3 : Int) =>
  need (decide ((0 : Int) ≤ 58)) <|
  olet (ishr .u64 x3 58) fun (x4 : Int) =>
  obind (at? deB64 x4) fun (e5 : Int) =>
  olet (IntKind.i64.wrap e5) fun (x6 : Int) =>
  some x6)
theorem x_math_bits_TrailingZeros64_ok (a0 : Int) (q0 : Int) (h : x_math_bits_TrailingZeros64 a0 = some q0) : Ev Tryz.prog 148 [ik .u64 a0] [] (i64 q0) [] := by
 refine Ev.start Tryz.func148 rfl rfl 0 (τ := [(0, ik .u64 a0)]) rfl (Γ' := []) rfl (n := 29) rfl (g := 0) rfl (fun _ => rfl) ?_
 unfold x_math_bits_TrailingZeros64 at h
 refine zQ ?_
 refine za (r := i64 0) ?_
 refine zN ?_
 iterate 2 (refine RunC.seq ?_)
 rcases bsel_some h with ⟨hc1, h⟩ | ⟨hc1, h⟩
 ·refine RunC.regionW ?_
  refine zm (r := ik .u64 a0) ?_
  refine zl (r := b true) (LOp.eqb (LOp.eql rfl rfl rfl) hc1) ?_
  refine zN ?_
  refine RunC.cond_true rfl rfl ?_
  refine zQ ?_
  refine za (r := i64 64) ?_
  refine zN ?_
  refine RunC.ret ?_
  have hq := Option.some.inj h
  subst q0
  exact bodyQ.pure (.inr rfl) rfl (Res.one rfl (RV.tmp rfl))
 ·refine RunC.regionW ?_
  refine zm (r := ik .u64 a0) ?_
  refine zl (r := b false) (LOp.eqb (LOp.eql rfl rfl rfl) hc1) ?_
  refine zN ?_
  refine RunC.cond_false rfl rfl ?_
  refine RunC.skip ?_
  refine RunC.seq ?_
  obtain ⟨x1, hx2, h⟩ := olet_some h
  obtain ⟨x2, hx3, h⟩ := olet_some h
  obtain ⟨x3, hx4, h⟩ := olet_some h
  obtain ⟨hz5, h⟩ := need_some h
  obtain ⟨x4, hx6, h⟩ := olet_some h
  obtain ⟨e5, he7, h⟩ := obind_some h
  obtain ⟨x6, hx8, h⟩ := olet_some h
  refine RunC.regionW ?_
  iterate 2 (refine zm (r := ik .u64 a0) ?_)
  refine zl (r := ik .u64 x1) (LOp.eqr (LOp.neg_int rfl rfl) (congrArg (ik .u64) hx2)) ?_
  refine zl (r := ik .u64 x2) (LOp.eqr (LOp.iand rfl rfl rfl) (congrArg (ik .u64) hx3)) ?_
  refine zl (r := ik .u64 x3) (LOp.eqr (LOp.mul rfl rfl rfl) (congrArg (ik .u64) hx4)) ?_
  refine zl (r := ik .u64 x4) (LOp.eqr (LOp.shr rfl rfl rfl (of_decide_eq_true hz5)) (congrArg (ik .u64) hx6)) ?_
  refine zl (r := ptr [ik .u8 e5]) (LOp.gix (zs := deB64) und169 siz5 rfl rfl (by unfold globs; simp) (by rfl) he7) ?_
  refine zl (r := ik .u8 e5) (LOp.load1 agg5 rfl rfl) ?_
  refine zl (r := i64 x6) (LOp.eqr (LOp.i2i (src := 5) (dst := 3) ⟨_, pun5⟩ pun3 rfl rfl) (congrArg (ik .i64) hx8)) ?_
  refine za (r := i64 x6) ?_
  refine zN ?_
  refine RunC.ret ?_
  have hq := Option.some.inj h
  subst q0
  exact bodyQ.pure (.inr rfl) rfl (Res.one rfl (RV.tmp rfl))
noncomputable def x_math_bits_TrailingZeros (a0 : Int) : Option (Int) :=
 obind (x_math_bits_TrailingZeros64 a0) fun (r1 : Int) =>
 some r1
theorem x_math_bits_TrailingZeros_ok (a0 : Int) (q0 : Int) (h : x_math_bits_TrailingZeros a0 = some q0) : Ev Tryz.prog 136 [ik .u64 a0] [] (i64 q0) [] := by
 refine Ev.start Tryz.func136 rfl rfl 0 (τ := [(0, ik .u64 a0)]) rfl (Γ' := []) rfl (n := 17) rfl (g := 0) rfl (fun _ => rfl) ?_
 unfold x_math_bits_TrailingZeros at h
 refine zQ ?_
 refine za (r := i64 0) ?_
 refine zN ?_
 refine RunC.seq ?_
 refine RunC.cond_false rfl rfl ?_
 refine RunC.skip ?_
 refine RunC.seq ?_
 obtain ⟨r1, hf1, h⟩ := obind_some h
 refine RunC.regionW ?_
 refine zm (r := ik .u64 a0) ?_
 refine ROps.d (r := i64 r1) (fs := []) (Γ' := []) rfl rfl rfl (TOp.callB (CallAs.func ent148 rfl rfl) (Bors.cons (Bor.pure rfl) Bors.nil) rfl rfl (x_math_bits_TrailingZeros64_ok a0 r1 hf1)) rfl ?_
 refine za (r := i64 r1) ?_
 refine zN ?_
 refine RunC.ret ?_
 have hq := Option.some.inj h
 subst q0
 exact bodyQ.pure (.inr rfl) rfl (Res.one rfl (RV.tmp rfl))
noncomputable def x_internal_strconv_formatBits_k5 (a4 : Bool) (L50 : List Int) (v52 : Int) : Option (ByteArray × (List Int)) :=
 bsel a4 (
  need (decide (0 ≤ v52) && decide (v52 < ((65 : Nat) : Int))) <|
  none) (
  need (decide (0 ≤ v52) && decide (v52 < ((65 : Nat) : Int))) <|
  some ((strOfNums (L50.drop v52.toNat)), ([] : List Int)))
noncomputable def x_internal_strconv_formatBits_k4 (a3 : Bool) (a4 : Bool) (L45 : List Int) (v47 : Int) : Option (ByteArray × (List Int)) :=
 bsel a3 (
  olet (IntKind.i64.wrap (v47 - 1)) fun (x48 : Int) =>
  obind (setAt? L45 x48 45) fun (L49 : List Int) =>
  x_internal_strconv_formatBits_k5 a4 L49 x48) (
  x_internal_strconv_formatBits_k5 a4 L45 v47)
noncomputable def x_internal_strconv_formatBits_b2 (x7 : Int) (x8 : Int) (x10 : Int) (L11 : List Int) (v13 : Int) (v14 : Int) : Option (LR ((List Int) × Int × Int) ((List Int) × Int × Int) (ByteArray × (List Int))) :=
 bsel (decide (x8 ≤ v13)) (
  olet (IntKind.i64.wrap (v14 - 1)) fun (x15 : Int) =>
  olet (iand .u64 v13 x10) fun (x16 : Int) =>
  obind (sat? lit_b1892504 x16) fun (e17 : Int) =>
  obind (setAt? L11 x15 e17) fun (L18 : List Int) =>
  need (decide ((0 : Int) ≤ x7)) <|
  olet (ishr .u64 v13 x7) fun (x19 : Int) =>
  some (LR.next (L18, x19, x15))) (
  some (LR.out (L11, v13, v14)))
noncomputable def x_internal_strconv_formatBits_s2 (x7 : Int) (x8 : Int) (x10 : Int) : ((List Int) × Int × Int) → Option (LR ((List Int) × Int × Int) ((List Int) × Int × Int) (ByteArray × (List Int))) := fun s => x_internal_strconv_formatBits_b2 x7 x8 x10 s.1 s.2.1 s.2.2
noncomputable def x_internal_strconv_formatBits_k2 (a3 : Bool) (a4 : Bool) (L20 : List Int) (v22 : Int) (v23 : Int) : Option (ByteArray × (List Int)) :=
 olet (IntKind.i64.wrap (v23 - 1)) fun (x24 : Int) =>
 obind (sat? lit_b1892504 v22) fun (e25 : Int) =>
 obind (setAt? L20 x24 e25) fun (L26 : List Int) =>
 x_internal_strconv_formatBits_k4 a3 a4 L26 x24
noncomputable def x_internal_strconv_formatBits_b3 (x27 : Int) (L28 : List Int) (v30 : Int) (v31 : Int) : Option (LR ((List Int) × Int × Int) ((List Int) × Int × Int) (ByteArray × (List Int))) :=
 bsel (decide (x27 ≤ v30)) (
  olet (IntKind.i64.wrap (v31 - 1)) fun (x32 : Int) =>
  need (!decide (x27 = 0)) <|
  olet (IntKind.u64.wrap (v30.tdiv x27)) fun (x33 : Int) =>
  olet (IntKind.u64.wrap (x33 * x27)) fun (x34 : Int) =>
  olet (IntKind.u64.wrap (v30 - x34)) fun (x35 : Int) =>
  obind (sat? lit_b1892504 x35) fun (e36 : Int) =>
  obind (setAt? L28 x32 e36) fun (L37 : List Int) =>
  some (LR.next (L37, x33, x32))) (
  some (LR.out (L28, v30, v31)))
noncomputable def x_internal_strconv_formatBits_s3 (x27 : Int) : ((List Int) × Int × Int) → Option (LR ((List Int) × Int × Int) ((List Int) × Int × Int) (ByteArray × (List Int))) := fun s => x_internal_strconv_formatBits_b3 x27 s.1 s.2.1 s.2.2
noncomputable def x_internal_strconv_formatBits_k3 (a3 : Bool) (a4 : Bool) (L38 : List Int) (v40 : Int) (v41 : Int) : Option (ByteArray × (List Int)) :=
 olet (IntKind.i64.wrap (v41 - 1)) fun (x42 : Int) =>
 obind (sat? lit_b1892504 v40) fun (e43 : Int) =>
 obind (setAt? L38 x42 e43) fun (L44 : List Int) =>
 x_internal_strconv_formatBits_k4 a3 a4 L44 x42
noncomputable def x_internal_strconv_formatBits_k1 (a2 : Int) (a3 : Bool) (a4 : Bool) (v2 : Int) : Option (ByteArray × (List Int)) :=
 obind (x_internal_strconv_isPowerOfTwo a2) fun (r4 : Bool) =>
 bsel r4 (
  olet (IntKind.u64.wrap a2) fun (x5 : Int) =>
  obind (x_math_bits_TrailingZeros x5) fun (r6 : Int) =>
  olet (IntKind.u64.wrap r6) fun (x7 : Int) =>
  olet (IntKind.u64.wrap a2) fun (x8 : Int) =>
  olet (IntKind.u64.wrap a2) fun (x9 : Int) =>
  olet (IntKind.u64.wrap (x9 - 1)) fun (x10 : Int) =>
  obind (loopM (x_internal_strconv_formatBits_s2 x7 x8 x10) ((List.replicate 65 (0 : Int)), v2, 65)) fun z => osum z (fun e => x_internal_strconv_formatBits_k2 a3 a4 e.1 e.2.1 e.2.2) (fun r => some r)) (
  olet (IntKind.u64.wrap a2) fun (x27 : Int) =>
  obind (loopM (x_internal_strconv_formatBits_s3 x27) ((List.replicate 65 (0 : Int)), v2, 65)) fun z => osum z (fun e => x_internal_strconv_formatBits_k3 a3 a4 e.1 e.2.1 e.2.2) (fun r => some r))
noncomputable def x_internal_strconv_formatBits (a0 : List Int) (a1 : Int) (a2 : Int) (a3 : Bool) (a4 : Bool) : Option (ByteArray × (List Int)) :=
 bsel (decide (a2 < 2)) (
  none) (
  bsel (decide (a2 = 10)) (
   none) (
   bsel (decide (36 < a2)) (
    none) (
    bsel a3 (
     olet (IntKind.u64.wrap (0 - a1)) fun (x1 : Int) =>
     x_internal_strconv_formatBits_k1 a2 a3 a4 x1) (
     x_internal_strconv_formatBits_k1 a2 a3 a4 a1))))
theorem x_internal_strconv_formatBits_ok (a0 : List Int) (a1 : Int) (a2 : Int) (a3 : Bool) (a4 : Bool) (q0 : ByteArray) (q1 : List Int) (h : x_internal_strconv_formatBits a0 a1 a2 a3 a4 = some (q0, q1)) : Ev Tryz.prog 114 [sl a0.length (a0.map (ik .u8)), ik .u64 a1, i64 a2, b a3, b a4] [] (tup [oref 0 0 0 q1.length, str q0]) [⟨0, some (q1.map (ik .u8))⟩] := by
 refine Ev.start Tryz.func114 rfl rfl 1 (τ := [(0, sl a0.length (a0.map (ik .u8))), (1, ik .u64 a1), (2, i64 a2), (3, b a3), (4, b a4)]) rfl (Γ' := [⟨0, none⟩]) rfl (n := 205) rfl (g := 0) rfl (fun _ => rfl) ?_
 unfold x_internal_strconv_formatBits at h
 refine zQ ?_
 refine za (r := nilsl) ?_
 refine za (r := str lit_99ba06bc) ?_
 refine zN ?_
 iterate 2 (refine RunC.seq ?_)
 rcases bsel_some h with ⟨hc1, h⟩ | ⟨hc1, h⟩
 ·refine RunC.regionW ?_
  refine zm (r := i64 a2) ?_
  refine zl (r := b true) (LOp.eqb (LOp.lss rfl rfl rfl) hc1) ?_
  iterate 2 (refine zm (r := b true) ?_; refine ROps.s rfl rfl rfl ?_; refine ROps.s rfl rfl rfl ?_; refine zl (r := b true) (LOp.pick_true rfl rfl rfl) ?_)
  refine zN ?_
  refine RunC.cond_true rfl rfl ?_
  cases h
 ·rcases bsel_some h with ⟨hc2, h⟩ | ⟨hc2, h⟩
  ·refine RunC.regionW ?_
   refine zm (r := i64 a2) ?_
   refine zl (r := b false) (LOp.eqb (LOp.lss rfl rfl rfl) hc1) ?_
   refine zm (r := b false) ?_
   refine zm (r := i64 a2) ?_
   refine zl (r := b true) (LOp.eqb (LOp.eql rfl rfl rfl) hc2) ?_
   refine zl (r := b true) (LOp.pick_false rfl rfl rfl) ?_
   refine zm (r := b true) ?_
   iterate 2 (refine ROps.s rfl rfl rfl ?_)
   refine zl (r := b true) (LOp.pick_true rfl rfl rfl) ?_
   refine zN ?_
   refine RunC.cond_true rfl rfl ?_
   cases h
  ·rcases bsel_some h with ⟨hc3, h⟩ | ⟨hc3, h⟩
   ·refine RunC.regionW ?_
    refine zm (r := i64 a2) ?_
    refine zl (r := b false) (LOp.eqb (LOp.lss rfl rfl rfl) hc1) ?_
    refine zm (r := b false) ?_
    refine zm (r := i64 a2) ?_
    refine zl (r := b false) (LOp.eqb (LOp.eql rfl rfl rfl) hc2) ?_
    refine zl (r := b false) (LOp.pick_false rfl rfl rfl) ?_
    refine zm (r := b false) ?_
    refine zm (r := i64 a2) ?_
    refine zl (r := b true) (LOp.eqb (LOp.gtr rfl rfl rfl) hc3) ?_
    refine zl (r := b true) (LOp.pick_false rfl rfl rfl) ?_
    refine zN ?_
    refine RunC.cond_true rfl rfl ?_
    cases h
   ·refine RunC.regionW ?_
    refine zm (r := i64 a2) ?_
    refine zl (r := b false) (LOp.eqb (LOp.lss rfl rfl rfl) hc1) ?_
    refine zm (r := b false) ?_
    refine zm (r := i64 a2) ?_
    refine zl (r := b false) (LOp.eqb (LOp.eql rfl rfl rfl) hc2) ?_
    refine zl (r := b false) (LOp.pick_false rfl rfl rfl) ?_
    refine zm (r := b false) ?_
    refine zm (r := i64 a2) ?_
    refine zl (r := b false) (LOp.eqb (LOp.gtr rfl rfl rfl) hc3) ?_
    refine zl (r := b false) (LOp.pick_false rfl rfl rfl) ?_
    refine zN ?_
    refine RunC.cond_false rfl rfl ?_
    refine RunC.skip ?_
    refine zQ ?_
    refine ROps.d (r := optr 0 1 0) (fs := [(0, ((List.replicate 65 (0 : Int)).map (ik .u8)))]) (Γ' := [⟨1, some ((List.replicate 65 (0 : Int)).map (ik .u8))⟩]) rfl rfl rfl (TOp.alloc_o (l := ((List.replicate 65 (0 : Int)).map (ik .u8))) (g := ⟨0, none⟩) 0 rfl zer149 zok149 rfl) rfl ?_
    refine zN ?_
    refine zQ ?_
    refine za (r := i64 65) ?_
    refine zN ?_
    refine RunC.seq ?_
    refine RunC.cutN (fun τ Γ => ∃ (v2 : Int), (List.replicate 65 (0 : Int)).length = 65 ∧ WeakLe τ [(0, sl a0.length (a0.map (ik .u8))), (1, ik .u64 v2), (2, i64 a2), (3, b a3), (4, b a4), (10, nilsl), (11, str lit_99ba06bc), (12, optr 0 1 0), (13, i64 65)] ∧ DeadLe Γ [⟨1, some ((List.replicate 65 (0 : Int)).map (ik .u8))⟩] ∧ x_internal_strconv_formatBits_k1 a2 a3 a4 v2 = some (q0, q1)) ?_ ?_
    ·refine RunC.seq ?_
     rcases bsel_some h with ⟨hc4, h⟩ | ⟨hc4, h⟩
     ·refine RunC.regionW ?_
      refine zl (r := b true) (LOp.eqb (LOp.move rfl rfl) hc4) ?_
      refine zN ?_
      refine RunC.cond_true rfl rfl ?_
      obtain ⟨x1, hx5, h⟩ := olet_some h
      refine RunC.regionW ?_
      refine zm (r := ik .u64 a1) ?_
      refine zl (r := ik .u64 x1) (LOp.eqr (LOp.neg_int rfl rfl) (congrArg (ik .u64) hx5)) ?_
      refine za (r := ik .u64 x1) ?_
      refine zN ?_
      exact ⟨x1, List.length_replicate, ⟨aR, aR, aR, aR, aR, aR, aR, aR, aR, trivial⟩, ⟨⟨rfl, .inr rfl⟩, trivial⟩, h⟩
     ·refine RunC.regionW ?_
      refine zl (r := b false) (LOp.eqb (LOp.move rfl rfl) hc4) ?_
      refine zN ?_
      refine RunC.cond_false rfl rfl ?_
      refine RunC.skip ?_
      exact ⟨a1, List.length_replicate, ⟨aR, aR, aR, aR, aR, aR, aR, aR, aR, trivial⟩, ⟨⟨rfl, .inr rfl⟩, trivial⟩, h⟩
    ·rintro τ6 Γ6 ⟨v2, hl3, hw6, hd6, h⟩
     refine RunC.wl hw6 hd6 ?_
     unfold x_internal_strconv_formatBits_k1 at h
     refine RunC.seq ?_
     refine RunC.cutN (fun τ Γ => ∃ (L45 : List Int) (v47 : Int), L45.length = 65 ∧ WeakLe τ [(0, sl a0.length (a0.map (ik .u8))), (3, b a3), (4, b a4), (10, nilsl), (11, str lit_99ba06bc), (12, optr 0 1 0), (13, i64 v47)] ∧ DeadLe Γ [⟨1, some (L45.map (ik .u8))⟩] ∧ x_internal_strconv_formatBits_k4 a3 a4 L45 v47 = some (q0, q1)) ?_ ?_
     ·refine RunC.seq ?_
      obtain ⟨r4, hf6, h⟩ := obind_some h
      rcases bsel_some h with ⟨hc7, h⟩ | ⟨hc7, h⟩
      ·refine RunC.regionW ?_
       refine zm (r := i64 a2) ?_
       refine ROps.d (r := b true) (fs := []) (Γ' := [⟨1, some ((List.replicate 65 (0 : Int)).map (ik .u8))⟩]) rfl rfl rfl (TOp.eqb (TOp.callB (CallAs.func ent135 rfl rfl) (Bors.cons (Bor.pure rfl) Bors.nil) rfl rfl (x_internal_strconv_isPowerOfTwo_ok a2 r4 hf6)) hc7) rfl ?_
       refine zN ?_
       refine RunC.cond_true rfl rfl ?_
       refine RunC.seq ?_
       obtain ⟨x5, hx8, h⟩ := olet_some h
       obtain ⟨r6, hf9, h⟩ := obind_some h
       obtain ⟨x7, hx10, h⟩ := olet_some h
       refine RunC.regionW ?_
       refine zm (r := i64 a2) ?_
       refine zl (r := ik .u64 x5) (LOp.eqr (LOp.i2i (src := 3) (dst := 106) ⟨_, pun3⟩ pun106 rfl rfl) (congrArg (ik .u64) hx8)) ?_
       refine ROps.d (r := i64 r6) (fs := []) (Γ' := [⟨1, some ((List.replicate 65 (0 : Int)).map (ik .u8))⟩]) rfl rfl rfl (TOp.callB (CallAs.func ent136 rfl rfl) (Bors.cons (Bor.pure rfl) Bors.nil) rfl rfl (x_math_bits_TrailingZeros_ok x5 r6 hf9)) rfl ?_
       refine zl (r := ik .u64 x7) (LOp.eqr (LOp.i2i (src := 3) (dst := 106) ⟨_, pun3⟩ pun106 rfl rfl) (congrArg (ik .u64) hx10)) ?_
       refine za (r := ik .u64 x7) ?_
       refine zN ?_
       refine RunC.seq ?_
       obtain ⟨x8, hx11, h⟩ := olet_some h
       refine RunC.regionW ?_
       refine zm (r := i64 a2) ?_
       refine zl (r := ik .u64 x8) (LOp.eqr (LOp.i2i (src := 3) (dst := 90) ⟨_, pun3⟩ pun90 rfl rfl) (congrArg (ik .u64) hx11)) ?_
       refine za (r := ik .u64 x8) ?_
       refine zN ?_
       refine RunC.seq ?_
       obtain ⟨x9, hx12, h⟩ := olet_some h
       obtain ⟨x10, hx13, h⟩ := olet_some h
       refine RunC.regionW ?_
       refine zm (r := i64 a2) ?_
       refine zl (r := ik .u64 x9) (LOp.eqr (LOp.i2i (src := 3) (dst := 106) ⟨_, pun3⟩ pun106 rfl rfl) (congrArg (ik .u64) hx12)) ?_
       refine zl (r := ik .u64 x10) (LOp.eqr (LOp.sub rfl rfl rfl) (congrArg (ik .u64) hx13)) ?_
       refine za (r := ik .u64 x10) ?_
       refine zN ?_
       refine RunC.seq ?_
       obtain ⟨z7, hz_7, h⟩ := obind_some h
       refine RunC.cutN (fun τ Γ => ∃ (L20 : List Int) (v22 : Int) (v23 : Int), L20.length = 65 ∧ WeakLe τ [(0, sl a0.length (a0.map (ik .u8))), (1, ik .u64 v22), (3, b a3), (4, b a4), (10, nilsl), (11, str lit_99ba06bc), (12, optr 0 1 0), (13, i64 v23)] ∧ DeadLe Γ [⟨1, some (L20.map (ik .u8))⟩] ∧ z7 = .inl (L20, v22, v23)) ?_ ?_
       ·refine RunC.block (RunC.loop (RunL.loopM (x := z7) (x_internal_strconv_formatBits_s2 x7 x8 x10) (fun (s : (List Int) × Int × Int) τ Γ => s.1.length = 65 ∧ WeakLe τ [(0, sl a0.length (a0.map (ik .u8))), (1, ik .u64 s.2.1), (3, b a3), (4, b a4), (10, nilsl), (11, str lit_99ba06bc), (12, optr 0 1 0), (13, i64 s.2.2), (14, ik .u64 x7), (15, ik .u64 x8), (16, ik .u64 x10)] ∧ DeadLe Γ [⟨1, some (s.1.map (ik .u8))⟩]) ?_ _ _ _ hz_7 ⟨hl3, ⟨aR, aR, aR, aR, aR, aR, aR, aR, aR, aR, aR, trivial⟩, ⟨⟨rfl, .inr rfl⟩, trivial⟩⟩))
        rintro ⟨L11, v13, v14⟩ τ7 Γ7 y7_ ⟨hl12, hw7, hd7⟩ h7_ ho7 hr7
        refine RunC.wl (τ' := [(0, sl a0.length (a0.map (ik .u8))), (1, ik .u64 v13), (3, b a3), (4, b a4), (10, nilsl), (11, str lit_99ba06bc), (12, optr 0 1 0), (13, i64 v14), (14, ik .u64 x7), (15, ik .u64 x8), (16, ik .u64 x10)]) (Γ' := [⟨1, some (L11.map (ik .u8))⟩]) hw7 hd7 ?_
        replace hl12 : L11.length = 65 := hl12
        replace h7_ : x_internal_strconv_formatBits_b2 x7 x8 x10 L11 v13 v14 = some y7_ := h7_
        unfold x_internal_strconv_formatBits_b2 at h7_
        iterate 2 (refine RunC.seq ?_)
        rcases bsel_some h7_ with ⟨hc14, h7_⟩ | ⟨hc14, h7_⟩
        ·refine RunC.regionW ?_
         refine zm (r := ik .u64 v13) ?_
         refine zm (r := ik .u64 x8) ?_
         refine zl (r := b true) (LOp.eqb (LOp.geq rfl rfl rfl) hc14) ?_
         refine zN ?_
         refine RunC.cond_true rfl rfl ?_
         refine RunC.skip ?_
         refine RunC.block ?_
         refine RunC.seq ?_
         obtain ⟨x15, hx15, h7_⟩ := olet_some h7_
         refine RunC.regionW ?_
         refine zm (r := i64 v14) ?_
         refine zl (r := i64 x15) (LOp.eqr (LOp.sub rfl rfl rfl) (congrArg (ik .i64) hx15)) ?_
         refine za (r := i64 x15) ?_
         refine zN ?_
         refine RunC.seq ?_
         obtain ⟨x16, hx16, h7_⟩ := olet_some h7_
         obtain ⟨e17, he17, h7_⟩ := obind_some h7_
         obtain ⟨L18, he18, h7_⟩ := obind_some h7_
         refine RunC.regionW ?_
         refine zm (r := i64 x15) ?_
         refine zm (r := ik .u64 v13) ?_
         refine zm (r := ik .u64 x10) ?_
         refine zl (r := ik .u64 x16) (LOp.eqr (LOp.iand rfl rfl rfl) (congrArg (ik .u64) hx16)) ?_
         refine zl (r := ik .u8 e17) (LOp.index_str und9 rfl rfl rfl he17) ?_
         refine ROps.d (r := optr 0 1 x15.toNat) (fs := []) (Γ' := [⟨1, some (L11.map (ik .u8))⟩]) rfl rfl rfl (TOp.ixa und149 siz5 rfl rfl rfl (set_in he18 hl12) rfl) rfl ?_
         refine ROps.st (f := (ik .u8)) (i := x15) (Γ' := [⟨1, some (L18.map (ik .u8))⟩]) rfl siz5 rfl rfl rfl aR rfl rfl rfl he18 rfl ?_
         refine zN ?_
         obtain ⟨hz19, h7_⟩ := need_some h7_
         obtain ⟨x19, hx20, h7_⟩ := olet_some h7_
         refine RunC.regionW ?_
         refine zm (r := ik .u64 v13) ?_
         refine zm (r := ik .u64 x7) ?_
         refine zl (r := ik .u64 x19) (LOp.eqr (LOp.shr rfl rfl rfl (of_decide_eq_true hz19)) (congrArg (ik .u64) hx20)) ?_
         refine za (r := ik .u64 x19) ?_
         refine zN ?_
         cases Option.some.inj h7_
         exact ⟨_, rfl, ((setAt?_len he18).trans hl12), ⟨aR, aR, aR, aR, aR, aR, aR, aR, aR, aR, aR, trivial⟩, ⟨⟨rfl, .inr rfl⟩, trivial⟩⟩
        ·refine RunC.regionW ?_
         refine zm (r := ik .u64 v13) ?_
         refine zm (r := ik .u64 x8) ?_
         refine zl (r := b false) (LOp.eqb (LOp.geq rfl rfl rfl) hc14) ?_
         refine zN ?_
         refine RunC.cond_false rfl rfl ?_
         refine RunC.exit ?_
         cases Option.some.inj h7_
         have hx := ho7 _ rfl
         exact ⟨L11, v13, v14, hl12, ⟨aR, aR, aR, aR, aR, aR, aR, aR, trivial⟩, ⟨⟨rfl, .inr rfl⟩, trivial⟩, hx⟩
       ·rintro τ8 Γ8 ⟨L20, v22, v23, hl21, hw8, hd8, rfl⟩
        refine RunC.wl hw8 hd8 ?_
        replace h : x_internal_strconv_formatBits_k2 a3 a4 L20 v22 v23 = some (q0, q1) := h
        unfold x_internal_strconv_formatBits_k2 at h
        refine RunC.seq ?_
        obtain ⟨x24, hx21, h⟩ := olet_some h
        refine RunC.regionW ?_
        refine zm (r := i64 v23) ?_
        refine zl (r := i64 x24) (LOp.eqr (LOp.sub rfl rfl rfl) (congrArg (ik .i64) hx21)) ?_
        refine za (r := i64 x24) ?_
        refine zN ?_
        obtain ⟨e25, he22, h⟩ := obind_some h
        obtain ⟨L26, he23, h⟩ := obind_some h
        refine RunC.regionW ?_
        refine zm (r := i64 x24) ?_
        refine zm (r := ik .u64 v22) ?_
        refine zl (r := ik .u8 e25) (LOp.index_str und9 rfl rfl rfl he22) ?_
        refine ROps.d (r := optr 0 1 x24.toNat) (fs := []) (Γ' := [⟨1, some (L20.map (ik .u8))⟩]) rfl rfl rfl (TOp.ixa und149 siz5 rfl rfl rfl (set_in he23 hl21) rfl) rfl ?_
        refine ROps.st (f := (ik .u8)) (i := x24) (Γ' := [⟨1, some (L26.map (ik .u8))⟩]) rfl siz5 rfl rfl rfl aR rfl rfl rfl he23 rfl ?_
        refine zN ?_
        exact ⟨L26, x24, ((setAt?_len he23).trans hl21), ⟨aR, aR, aR, aR, aR, aR, aR, trivial⟩, ⟨⟨rfl, .inr rfl⟩, trivial⟩, h⟩
      ·refine RunC.regionW ?_
       refine zm (r := i64 a2) ?_
       refine ROps.d (r := b false) (fs := []) (Γ' := [⟨1, some ((List.replicate 65 (0 : Int)).map (ik .u8))⟩]) rfl rfl rfl (TOp.eqb (TOp.callB (CallAs.func ent135 rfl rfl) (Bors.cons (Bor.pure rfl) Bors.nil) rfl rfl (x_internal_strconv_isPowerOfTwo_ok a2 r4 hf6)) hc7) rfl ?_
       refine zN ?_
       refine RunC.cond_false rfl rfl ?_
       refine RunC.seq ?_
       obtain ⟨x27, hx24, h⟩ := olet_some h
       refine RunC.regionW ?_
       refine zm (r := i64 a2) ?_
       refine zl (r := ik .u64 x27) (LOp.eqr (LOp.i2i (src := 3) (dst := 90) ⟨_, pun3⟩ pun90 rfl rfl) (congrArg (ik .u64) hx24)) ?_
       refine za (r := ik .u64 x27) ?_
       refine zN ?_
       refine RunC.seq ?_
       obtain ⟨z9, hz_9, h⟩ := obind_some h
       refine RunC.cutN (fun τ Γ => ∃ (L38 : List Int) (v40 : Int) (v41 : Int), L38.length = 65 ∧ WeakLe τ [(0, sl a0.length (a0.map (ik .u8))), (1, ik .u64 v40), (3, b a3), (4, b a4), (10, nilsl), (11, str lit_99ba06bc), (12, optr 0 1 0), (13, i64 v41)] ∧ DeadLe Γ [⟨1, some (L38.map (ik .u8))⟩] ∧ z9 = .inl (L38, v40, v41)) ?_ ?_
       ·refine RunC.block (RunC.loop (RunL.loopM (x := z9) (x_internal_strconv_formatBits_s3 x27) (fun (s : (List Int) × Int × Int) τ Γ => s.1.length = 65 ∧ WeakLe τ [(0, sl a0.length (a0.map (ik .u8))), (1, ik .u64 s.2.1), (3, b a3), (4, b a4), (10, nilsl), (11, str lit_99ba06bc), (12, optr 0 1 0), (13, i64 s.2.2), (17, ik .u64 x27)] ∧ DeadLe Γ [⟨1, some (s.1.map (ik .u8))⟩]) ?_ _ _ _ hz_9 ⟨hl3, ⟨aR, aR, aR, aR, aR, aR, aR, aR, aR, trivial⟩, ⟨⟨rfl, .inr rfl⟩, trivial⟩⟩))
        rintro ⟨L28, v30, v31⟩ τ9 Γ9 y9_ ⟨hl29, hw9, hd9⟩ h9_ ho9 hr9
        refine RunC.wl (τ' := [(0, sl a0.length (a0.map (ik .u8))), (1, ik .u64 v30), (3, b a3), (4, b a4), (10, nilsl), (11, str lit_99ba06bc), (12, optr 0 1 0), (13, i64 v31), (17, ik .u64 x27)]) (Γ' := [⟨1, some (L28.map (ik .u8))⟩]) hw9 hd9 ?_
        replace hl29 : L28.length = 65 := hl29
        replace h9_ : x_internal_strconv_formatBits_b3 x27 L28 v30 v31 = some y9_ := h9_
        unfold x_internal_strconv_formatBits_b3 at h9_
        iterate 2 (refine RunC.seq ?_)
        rcases bsel_some h9_ with ⟨hc25, h9_⟩ | ⟨hc25, h9_⟩
        ·refine RunC.regionW ?_
         refine zm (r := ik .u64 v30) ?_
         refine zm (r := ik .u64 x27) ?_
         refine zl (r := b true) (LOp.eqb (LOp.geq rfl rfl rfl) hc25) ?_
         refine zN ?_
         refine RunC.cond_true rfl rfl ?_
         refine RunC.skip ?_
         refine RunC.block ?_
         refine RunC.seq ?_
         obtain ⟨x32, hx26, h9_⟩ := olet_some h9_
         refine RunC.regionW ?_
         refine zm (r := i64 v31) ?_
         refine zl (r := i64 x32) (LOp.eqr (LOp.sub rfl rfl rfl) (congrArg (ik .i64) hx26)) ?_
         refine za (r := i64 x32) ?_
         refine zN ?_
         refine RunC.seq ?_
         obtain ⟨hz27, h9_⟩ := need_some h9_
         obtain ⟨x33, hx28, h9_⟩ := olet_some h9_
         refine RunC.regionW ?_
         refine zm (r := ik .u64 v30) ?_
         refine zm (r := ik .u64 x27) ?_
         refine zl (r := ik .u64 x33) (LOp.eqr (LOp.quo rfl rfl rfl (nz hz27)) (congrArg (ik .u64) hx28)) ?_
         refine za (r := ik .u64 x33) ?_
         refine zN ?_
         refine RunC.seq ?_
         obtain ⟨x34, hx29, h9_⟩ := olet_some h9_
         obtain ⟨x35, hx30, h9_⟩ := olet_some h9_
         obtain ⟨e36, he31, h9_⟩ := obind_some h9_
         obtain ⟨L37, he32, h9_⟩ := obind_some h9_
         refine RunC.regionW ?_
         refine zm (r := i64 x32) ?_
         refine zm (r := ik .u64 v30) ?_
         refine zm (r := ik .u64 x33) ?_
         refine zm (r := ik .u64 x27) ?_
         refine zl (r := ik .u64 x34) (LOp.eqr (LOp.mul rfl rfl rfl) (congrArg (ik .u64) hx29)) ?_
         refine zl (r := ik .u64 x35) (LOp.eqr (LOp.sub rfl rfl rfl) (congrArg (ik .u64) hx30)) ?_
         refine zl (r := ik .u8 e36) (LOp.index_str und9 rfl rfl rfl he31) ?_
         refine ROps.d (r := optr 0 1 x32.toNat) (fs := []) (Γ' := [⟨1, some (L28.map (ik .u8))⟩]) rfl rfl rfl (TOp.ixa und149 siz5 rfl rfl rfl (set_in he32 hl29) rfl) rfl ?_
         refine ROps.st (f := (ik .u8)) (i := x32) (Γ' := [⟨1, some (L37.map (ik .u8))⟩]) rfl siz5 rfl rfl rfl aR rfl rfl rfl he32 rfl ?_
         refine zN ?_
         refine RunC.wl (τ' := [(0, sl a0.length (a0.map (ik .u8))), (3, b a3), (4, b a4), (10, nilsl), (11, str lit_99ba06bc), (12, optr 0 1 0), (13, i64 x32), (17, ik .u64 x27), (18, ik .u64 x33)]) (Γ' := [⟨1, some (L37.map (ik .u8))⟩]) ⟨aR, aR, aR, aR, aR, aR, aR, aR, aR, trivial⟩ ⟨⟨rfl, .inr rfl⟩, trivial⟩ ?_
         refine RunC.regionW ?_
         refine zm (r := ik .u64 x33) ?_
         refine za (r := ik .u64 x33) ?_
         refine zN ?_
         cases Option.some.inj h9_
         exact ⟨_, rfl, ((setAt?_len he32).trans hl29), ⟨aR, aR, aR, aR, aR, aR, aR, aR, aR, trivial⟩, ⟨⟨rfl, .inr rfl⟩, trivial⟩⟩
        ·refine RunC.regionW ?_
         refine zm (r := ik .u64 v30) ?_
         refine zm (r := ik .u64 x27) ?_
         refine zl (r := b false) (LOp.eqb (LOp.geq rfl rfl rfl) hc25) ?_
         refine zN ?_
         refine RunC.cond_false rfl rfl ?_
         refine RunC.exit ?_
         cases Option.some.inj h9_
         have hx := ho9 _ rfl
         exact ⟨L28, v30, v31, hl29, ⟨aR, aR, aR, aR, aR, aR, aR, aR, trivial⟩, ⟨⟨rfl, .inr rfl⟩, trivial⟩, hx⟩
       ·rintro τ10 Γ10 ⟨L38, v40, v41, hl39, hw10, hd10, rfl⟩
        refine RunC.wl hw10 hd10 ?_
        replace h : x_internal_strconv_formatBits_k3 a3 a4 L38 v40 v41 = some (q0, q1) := h
        unfold x_internal_strconv_formatBits_k3 at h
        refine RunC.seq ?_
        obtain ⟨x42, hx33, h⟩ := olet_some h
        refine RunC.regionW ?_
        refine zm (r := i64 v41) ?_
        refine zl (r := i64 x42) (LOp.eqr (LOp.sub rfl rfl rfl) (congrArg (ik .i64) hx33)) ?_
        refine za (r := i64 x42) ?_
        refine zN ?_
        obtain ⟨e43, he34, h⟩ := obind_some h
        obtain ⟨L44, he35, h⟩ := obind_some h
        refine RunC.regionW ?_
        refine zm (r := i64 x42) ?_
        refine zm (r := ik .u64 v40) ?_
        refine zl (r := ik .u8 e43) (LOp.index_str und9 rfl rfl rfl he34) ?_
        refine ROps.d (r := optr 0 1 x42.toNat) (fs := []) (Γ' := [⟨1, some (L38.map (ik .u8))⟩]) rfl rfl rfl (TOp.ixa und149 siz5 rfl rfl rfl (set_in he35 hl39) rfl) rfl ?_
        refine ROps.st (f := (ik .u8)) (i := x42) (Γ' := [⟨1, some (L44.map (ik .u8))⟩]) rfl siz5 rfl rfl rfl aR rfl rfl rfl he35 rfl ?_
        refine zN ?_
        exact ⟨L44, x42, ((setAt?_len he35).trans hl39), ⟨aR, aR, aR, aR, aR, aR, aR, trivial⟩, ⟨⟨rfl, .inr rfl⟩, trivial⟩, h⟩
     ·rintro τ11 Γ11 ⟨L45, v47, hl46, hw11, hd11, h⟩
      refine RunC.wl hw11 hd11 ?_
      unfold x_internal_strconv_formatBits_k4 at h
      refine RunC.seq ?_
      refine RunC.cutN (fun τ Γ => ∃ (L50 : List Int) (v52 : Int), L50.length = 65 ∧ WeakLe τ [(0, sl a0.length (a0.map (ik .u8))), (4, b a4), (10, nilsl), (11, str lit_99ba06bc), (12, optr 0 1 0), (13, i64 v52)] ∧ DeadLe Γ [⟨1, some (L50.map (ik .u8))⟩] ∧ x_internal_strconv_formatBits_k5 a4 L50 v52 = some (q0, q1)) ?_ ?_
      ·refine RunC.seq ?_
       rcases bsel_some h with ⟨hc36, h⟩ | ⟨hc36, h⟩
       ·refine RunC.regionW ?_
        refine zl (r := b true) (LOp.eqb (LOp.move rfl rfl) hc36) ?_
        refine zN ?_
        refine RunC.cond_true rfl rfl ?_
        refine RunC.seq ?_
        obtain ⟨x48, hx37, h⟩ := olet_some h
        refine RunC.regionW ?_
        refine zm (r := i64 v47) ?_
        refine zl (r := i64 x48) (LOp.eqr (LOp.sub rfl rfl rfl) (congrArg (ik .i64) hx37)) ?_
        refine za (r := i64 x48) ?_
        refine zN ?_
        obtain ⟨L49, he38, h⟩ := obind_some h
        refine RunC.regionW ?_
        refine zm (r := i64 x48) ?_
        refine ROps.d (r := optr 0 1 x48.toNat) (fs := []) (Γ' := [⟨1, some (L45.map (ik .u8))⟩]) rfl rfl rfl (TOp.ixa und149 siz5 rfl rfl rfl (set_in he38 hl46) rfl) rfl ?_
        refine ROps.st (f := (ik .u8)) (i := x48) (Γ' := [⟨1, some (L49.map (ik .u8))⟩]) rfl siz5 rfl rfl rfl aR rfl rfl rfl he38 rfl ?_
        refine zN ?_
        exact ⟨L49, x48, ((setAt?_len he38).trans hl46), ⟨aR, aR, aR, aR, aR, aR, trivial⟩, ⟨⟨rfl, .inr rfl⟩, trivial⟩, h⟩
       ·refine RunC.regionW ?_
        refine zl (r := b false) (LOp.eqb (LOp.move rfl rfl) hc36) ?_
        refine zN ?_
        refine RunC.cond_false rfl rfl ?_
        refine RunC.skip ?_
        exact ⟨L45, v47, hl46, ⟨aR, aR, aR, aR, aR, aR, trivial⟩, ⟨⟨rfl, .inr rfl⟩, trivial⟩, h⟩
      ·rintro τ12 Γ12 ⟨L50, v52, hl51, hw12, hd12, h⟩
       refine RunC.wl hw12 hd12 ?_
       unfold x_internal_strconv_formatBits_k5 at h
       iterate 2 (refine RunC.seq ?_)
       rcases bsel_some h with ⟨hc39, h⟩ | ⟨hc39, h⟩
       ·refine RunC.regionW ?_
        refine zl (r := b true) (LOp.eqb (LOp.move rfl rfl) hc39) ?_
        refine zN ?_
        refine RunC.cond_true rfl rfl ?_
        refine RunC.seq ?_
        refine RunC.le (Le.settle 0 [(0, sl a0.length (a0.map (ik .u8))), (4, b a4), (10, nilsl), (11, str lit_99ba06bc), (12, ptr (L50.map (ik .u8))), (13, i64 v52), (94, b true)] rfl rfl rfl ⟨.inl rfl, .inl rfl, .inl rfl, .inl rfl, .inr (Bor.arr (f := (ik .u8)) (fun _ => rfl) rfl), .inl rfl, .inl rfl, trivial⟩) ?_
        obtain ⟨hp40, h⟩ := need_some h
        cases h
       ·refine RunC.regionW ?_
        refine zl (r := b false) (LOp.eqb (LOp.move rfl rfl) hc39) ?_
        refine zN ?_
        refine RunC.cond_false rfl rfl ?_
        refine RunC.skip ?_
        refine RunC.seq ?_
        refine RunC.le (Le.settle 0 [(0, sl a0.length (a0.map (ik .u8))), (4, b a4), (10, nilsl), (11, str lit_99ba06bc), (12, ptr (L50.map (ik .u8))), (13, i64 v52), (94, b false)] rfl rfl rfl ⟨.inl rfl, .inl rfl, .inl rfl, .inl rfl, .inr (Bor.arr (f := (ik .u8)) (fun _ => rfl) rfl), .inl rfl, .inl rfl, trivial⟩) ?_
        obtain ⟨hp41, h⟩ := need_some h
        refine RunC.regionW ?_
        refine zm (r := i64 v52) ?_
        refine zl (r := sl (L50.drop v52.toNat).length ((L50.drop v52.toNat).map (ik .u8))) (LOp.sla (f := (ik .u8)) und149 siz5 rfl rfl rfl hl51 (par_in hp41)) ?_
        refine ROps.d (r := str (strOfNums (L50.drop v52.toNat))) (fs := []) (Γ' := [⟨1, none⟩]) rfl rfl rfl (TOp.b2s (xs := (L50.drop v52.toNat)) pun22 pun5 pun9 rfl (fun _ _ => ReadAs.sl (by simp))) rfl ?_
        refine za (r := str (strOfNums (L50.drop v52.toNat))) ?_
        refine zN ?_
        refine RunC.nil_slot (Γ' := [⟨2, some (([] : List Int).map (ik .u8))⟩]) 10 0 rfl rfl rfl ?_
        refine RunC.ret ?_
        have hq := Option.some.inj h
        obtain ⟨hq0, hq⟩ := Prod.mk.inj hq
        subst q0
        subst q1
        exact bodyQ.mk (r' := tup [oref 0 2 0 (([] : List Int).length), str (strOfNums (L50.drop v52.toNat))]) [(0, 2)] (.inr rfl) rfl (show List.Nodup [0] from by decide) rfl rfl (Res.eq (Res.two rfl (RV.tmp rfl) (RV.tmp rfl)) (by rw [(show ([] : List Int).length = 0 from rfl)] <;> rfl)) (SelL.arr0 (f := (ik .u8)) (fun _ => rfl) rfl trivial)
noncomputable def x_internal_strconv_FormatInt_k2 (v3 : Int) : Option (ByteArray) :=
 none
noncomputable def x_internal_strconv_FormatInt_k1 (a0 : Int) : Option (ByteArray) :=
 olet (IntKind.u64.wrap a0) fun (x1 : Int) =>
 bsel (decide (a0 < 0)) (
  olet (IntKind.u64.wrap (0 - x1)) fun (x2 : Int) =>
  x_internal_strconv_FormatInt_k2 x2) (
  x_internal_strconv_FormatInt_k2 x1)
noncomputable def x_internal_strconv_FormatInt (a0 : Int) (a1 : Int) : Option (ByteArray) :=
 bsel (decide (a1 = 10)) (
  bsel (decide (0 ≤ a0)) (
   bsel (decide (a0 < 100)) (
    none) (
    x_internal_strconv_FormatInt_k1 a0)) (
   x_internal_strconv_FormatInt_k1 a0)) (
  olet (IntKind.u64.wrap a0) fun (x5 : Int) =>
  obind2 (x_internal_strconv_formatBits ([] : List Int) x5 a1 (decide (a0 < 0)) false) fun (r6 : ByteArray) (r7 : List Int) =>
  some r6)
theorem x_internal_strconv_FormatInt_ok (a0 : Int) (a1 : Int) (q0 : ByteArray) (h : x_internal_strconv_FormatInt a0 a1 = some q0) : Ev Tryz.prog 94 [i64 a0, i64 a1] [] (str q0) [] := by
 refine Ev.start Tryz.func94 rfl rfl 1 (τ := [(0, i64 a0), (1, i64 a1)]) rfl (Γ' := [⟨0, none⟩]) rfl (n := 109) rfl (g := 0) rfl (fun _ => rfl) ?_
 unfold x_internal_strconv_FormatInt at h
 refine zQ ?_
 refine za (r := str lit_99ba06bc) ?_
 refine zN ?_
 iterate 2 (refine RunC.seq ?_)
 rcases bsel_some h with ⟨hc1, h⟩ | ⟨hc1, h⟩
 ·refine RunC.regionW ?_
  refine zm (r := i64 a1) ?_
  refine zl (r := b true) (LOp.eqb (LOp.eql rfl rfl rfl) hc1) ?_
  refine zN ?_
  refine RunC.cond_true rfl rfl ?_
  refine RunC.seq ?_
  refine RunC.cutN (fun τ Γ =>  WeakLe τ [(0, i64 a0)] ∧ DeadLe Γ [⟨0, none⟩] ∧ x_internal_strconv_FormatInt_k1 a0 = some q0) ?_ ?_
  ·refine RunC.seq ?_
   rcases bsel_some h with ⟨hc2, h⟩ | ⟨hc2, h⟩
   ·rcases bsel_some h with ⟨hc3, h⟩ | ⟨hc3, h⟩
    ·refine RunC.regionW ?_
     refine zm (r := i64 a0) ?_
     refine zl (r := b true) (LOp.eqb (LOp.leq rfl rfl rfl) hc2) ?_
     refine zm (r := b true) ?_
     refine zm (r := i64 a0) ?_
     refine zl (r := b true) (LOp.eqb (LOp.lss rfl rfl rfl) hc3) ?_
     refine zl (r := b true) (LOp.pick_true rfl rfl rfl) ?_
     refine zN ?_
     refine RunC.cond_true rfl rfl ?_
     refine RunC.seq ?_
     cases h
    ·refine RunC.regionW ?_
     refine zm (r := i64 a0) ?_
     refine zl (r := b true) (LOp.eqb (LOp.leq rfl rfl rfl) hc2) ?_
     refine zm (r := b true) ?_
     refine zm (r := i64 a0) ?_
     refine zl (r := b false) (LOp.eqb (LOp.lss rfl rfl rfl) hc3) ?_
     refine zl (r := b false) (LOp.pick_true rfl rfl rfl) ?_
     refine zN ?_
     refine RunC.cond_false rfl rfl ?_
     refine RunC.skip ?_
     exact ⟨⟨aR, trivial⟩, ⟨⟨rfl, .inr rfl⟩, trivial⟩, h⟩
   ·refine RunC.regionW ?_
    refine zm (r := i64 a0) ?_
    refine zl (r := b false) (LOp.eqb (LOp.leq rfl rfl rfl) hc2) ?_
    refine zm (r := b false) ?_
    iterate 2 (refine ROps.s rfl rfl rfl ?_)
    refine zl (r := b false) (LOp.pick_false rfl rfl rfl) ?_
    refine zN ?_
    refine RunC.cond_false rfl rfl ?_
    refine RunC.skip ?_
    exact ⟨⟨aR, trivial⟩, ⟨⟨rfl, .inr rfl⟩, trivial⟩, h⟩
  ·rintro τ3 Γ3 ⟨hw3, hd3, h⟩
   refine RunC.wl hw3 hd3 ?_
   unfold x_internal_strconv_FormatInt_k1 at h
   refine zQ ?_
   refine ROps.d (r := optr 0 1 0) (fs := [(0, ((List.replicate 24 (0 : Int)).map (ik .u8)))]) (Γ' := [⟨1, some ((List.replicate 24 (0 : Int)).map (ik .u8))⟩]) rfl rfl rfl (TOp.alloc_o (l := ((List.replicate 24 (0 : Int)).map (ik .u8))) (g := ⟨0, none⟩) 0 rfl zer126 zok126 rfl) rfl ?_
   refine zN ?_
   refine RunC.seq ?_
   obtain ⟨x1, hx4, h⟩ := olet_some h
   refine RunC.regionW ?_
   refine zm (r := i64 a0) ?_
   refine zl (r := ik .u64 x1) (LOp.eqr (LOp.i2i (src := 2) (dst := 90) ⟨_, pun2⟩ pun90 rfl rfl) (congrArg (ik .u64) hx4)) ?_
   refine za (r := ik .u64 x1) ?_
   refine zN ?_
   refine RunC.seq ?_
   refine RunC.cutN (fun τ Γ => ∃ (v3 : Int), (List.replicate 24 (0 : Int)).length = 24 ∧ WeakLe τ [(0, i64 a0), (5, optr 0 1 0), (6, ik .u64 v3)] ∧ DeadLe Γ [⟨1, some ((List.replicate 24 (0 : Int)).map (ik .u8))⟩] ∧ x_internal_strconv_FormatInt_k2 v3 = some q0) ?_ ?_
   ·refine RunC.seq ?_
    rcases bsel_some h with ⟨hc5, h⟩ | ⟨hc5, h⟩
    ·refine RunC.regionW ?_
     refine zm (r := i64 a0) ?_
     refine zl (r := b true) (LOp.eqb (LOp.lss rfl rfl rfl) hc5) ?_
     refine zN ?_
     refine RunC.cond_true rfl rfl ?_
     obtain ⟨x2, hx6, h⟩ := olet_some h
     refine RunC.regionW ?_
     refine zm (r := ik .u64 x1) ?_
     refine zl (r := ik .u64 x2) (LOp.eqr (LOp.neg_int rfl rfl) (congrArg (ik .u64) hx6)) ?_
     refine za (r := ik .u64 x2) ?_
     refine zN ?_
     exact ⟨x2, List.length_replicate, ⟨aR, aR, aR, trivial⟩, ⟨⟨rfl, .inr rfl⟩, trivial⟩, h⟩
    ·refine RunC.regionW ?_
     refine zm (r := i64 a0) ?_
     refine zl (r := b false) (LOp.eqb (LOp.lss rfl rfl rfl) hc5) ?_
     refine zN ?_
     refine RunC.cond_false rfl rfl ?_
     refine RunC.skip ?_
     exact ⟨x1, List.length_replicate, ⟨aR, aR, aR, trivial⟩, ⟨⟨rfl, .inr rfl⟩, trivial⟩, h⟩
   ·rintro τ4 Γ4 ⟨v3, hl4, hw4, hd4, h⟩
    refine RunC.wl hw4 hd4 ?_
    unfold x_internal_strconv_FormatInt_k2 at h
    refine RunC.seq ?_
    cases h
 ·refine RunC.regionW ?_
  refine zm (r := i64 a1) ?_
  refine zl (r := b false) (LOp.eqb (LOp.eql rfl rfl rfl) hc1) ?_
  refine zN ?_
  refine RunC.cond_false rfl rfl ?_
  refine RunC.skip ?_
  refine RunC.seq ?_
  obtain ⟨x5, hx7, h⟩ := olet_some h
  obtain ⟨r6, r7, hf8, h⟩ := obind2_some h
  refine RunC.regionW ?_
  refine zm (r := i64 a0) ?_
  refine zl (r := ik .u64 x5) (LOp.eqr (LOp.i2i (src := 2) (dst := 90) ⟨_, pun2⟩ pun90 rfl rfl) (congrArg (ik .u64) hx7)) ?_
  refine zm (r := i64 a1) ?_
  refine zm (r := i64 a0) ?_
  refine zl (r := b (decide (a0 < 0))) (LOp.lss rfl rfl rfl) ?_
  refine ROps.d (r := tup [oref 0 1 0 r7.length, str r6]) (fs := [(0, (r7.map (ik .u8)))]) (Γ' := [⟨1, some (r7.map (ik .u8))⟩]) rfl rfl rfl (TOp.callBN (ls := [(r7.map (ik .u8))]) [0] (CallAs.func ent114 rfl rfl) (Bors.cons Bor.nilsl (Bors.cons (Bor.pure rfl) (Bors.cons (Bor.pure rfl) (Bors.cons (Bor.pure rfl) (Bors.cons (Bor.pure rfl) Bors.nil))))) rfl (x_internal_strconv_formatBits_ok ([] : List Int) x5 a1 (decide (a0 < 0)) false r6 r7 hf8) (and_all (lts0_map (f := (ik .u8)) (fun _ => rfl) _) rfl) (and_all (noss_map (f := (ik .u8)) (fun _ => rfl) _) rfl) rfl (by decide) (ns_of ⟨⟨_, rfl⟩, trivial⟩)) rfl ?_
  refine zm (r := tup [oref 0 1 0 r7.length, str r6]) ?_
  refine zl (r := oref 0 1 0 r7.length) (LOp.extract rfl rfl rfl) ?_
  refine zl (r := str r6) (LOp.extract rfl rfl rfl) ?_
  refine za (r := oref 0 1 0 r7.length) ?_
  refine za (r := str r6) ?_
  refine zN ?_
  refine RunC.wl (τ' := [(9, str r6)]) (Γ' := [⟨1, none⟩]) ⟨aR, trivial⟩ ⟨⟨rfl, .inl rfl⟩, trivial⟩ ?_
  refine zQ ?_
  refine zm (r := str r6) ?_
  refine za (r := str r6) ?_
  refine zN ?_
  refine RunC.ret ?_
  have hq := Option.some.inj h
  subst q0
  exact bodyQ.pure (.inr rfl) rfl (Res.one rfl (RV.tmp rfl))
noncomputable def x_strconv_FormatInt_16 (a0 : Int) (a1 : Int) : Option (ByteArray) :=
 obind (x_internal_strconv_FormatInt a0 a1) fun (r1 : ByteArray) =>
 some r1
theorem x_strconv_FormatInt_16_ok (a0 : Int) (a1 : Int) (q0 : ByteArray) (h : x_strconv_FormatInt_16 a0 a1 = some q0) : Ev Tryz.prog 79 [i64 a0, i64 a1] [] (str q0) [] := by
 refine Ev.start Tryz.func79 rfl rfl 0 (τ := [(0, i64 a0), (1, i64 a1)]) rfl (Γ' := []) rfl (n := 17) rfl (g := 0) rfl (fun _ => rfl) ?_
 unfold x_strconv_FormatInt_16 at h
 refine zQ ?_
 refine za (r := str lit_99ba06bc) ?_
 refine zN ?_
 refine RunC.seq ?_
 obtain ⟨r1, hf1, h⟩ := obind_some h
 refine RunC.regionW ?_
 refine zm (r := i64 a0) ?_
 refine zm (r := i64 a1) ?_
 refine ROps.d (r := str r1) (fs := []) (Γ' := []) rfl rfl rfl (TOp.callB (CallAs.func ent94 rfl rfl) (Bors.cons (Bor.pure rfl) (Bors.cons (Bor.pure rfl) Bors.nil)) rfl rfl (x_internal_strconv_FormatInt_ok a0 a1 r1 hf1)) rfl ?_
 refine za (r := str r1) ?_
 refine zN ?_
 refine RunC.ret ?_
 have hq := Option.some.inj h
 subst q0
 exact bodyQ.pure (.inr rfl) rfl (Res.one rfl (RV.tmp rfl))
noncomputable def x_strings_Repeat (a0 : ByteArray) (a1 : Int) : Option ByteArray :=
 need (decide (0 ≤ a1)) <|
 need (decide (a1 ≤ 9223372036854775807)) <|
 need (decide (a0.size * a1.toNat ≤ 140737488355328)) <|
 some ⟨(Go.Lib.repeatL a0.data.toList a1.toNat).toArray⟩
def rep_ren : Go.Shelf.Ren :=
{
 f := fun x =>
  match x with
  | 105 => 80
  | 212 => 95
  | 99 => 96
  | 165 => 97
  | 166 => 98
  | 170 => 99
  | 169 => 100
  | 263 => 115
  | 264 => 116
  | 206 => 117
  | 240 => 118
  | 241 => 119
  | 276 => 137
  | 277 => 138
  | n => n,
 t := fun x =>
  match x with
  | 9 => 9
  | 3 => 3
  | 4 => 4
  | 20 => 20
  | 0 => 0
  | 46 => 106
  | 109 => 107
  | 5 => 5
  | 72 => 112
  | 76 => 114
  | 51 => 79
  | 146 => 131
  | 53 => 90
  | 148 => 133
  | 70 => 110
  | 37 => 22
  | 75 => 99
  | 127 => 135
  | 164 => 152
  | 80 => 117
  | n => n,
 g := fun x =>
  have n := x;
  n }
theorem rep_lays : Go.Proofs.Lays.n105 Tryz.prog rep_ren :=
 {
  f99 := (Eq.trans Tryz.func96 (congrArg some (by kernel_rfl))),
  f105 := (Eq.trans Tryz.func80 (congrArg some (by kernel_rfl))),
  f165 := (Eq.trans Tryz.func97 (congrArg some (by kernel_rfl))),
  f166 := (Eq.trans Tryz.func98 (congrArg some (by kernel_rfl))),
  f169 := (Eq.trans Tryz.func100 (congrArg some (by kernel_rfl))),
  f170 := (Eq.trans Tryz.func99 (congrArg some (by kernel_rfl))),
  f206 := (Eq.trans Tryz.func117 (congrArg some (by kernel_rfl))),
  f212 := (Eq.trans Tryz.func95 (congrArg some (by kernel_rfl))),
  f240 := (Eq.trans Tryz.func118 (congrArg some (by kernel_rfl))),
  f241 := (Eq.trans Tryz.func119 (congrArg some (by kernel_rfl))),
  f263 := (Eq.trans Tryz.func115 (congrArg some (by kernel_rfl))),
  f264 := (Eq.trans Tryz.func116 (congrArg some (by kernel_rfl))),
  f276 := (Eq.trans Tryz.func137 (congrArg some (by kernel_rfl))),
  f277 := (Eq.trans Tryz.func138 (congrArg some (by kernel_rfl))),
  t0 := Tryz.underlying0,
  a0 := Tryz.isAgg0,
  z0 := Tryz.sizeOf0,
  v0 := Tryz.zeroValue0,
  t3 := Tryz.underlying3,
  a3 := Tryz.isAgg3,
  z3 := Tryz.sizeOf3,
  v3 := Tryz.zeroValue3,
  t4 := Tryz.underlying4,
  a4 := Tryz.isAgg4,
  z4 := Tryz.sizeOf4,
  v4 := Tryz.zeroValue4,
  t5 := Tryz.underlying5,
  a5 := Tryz.isAgg5,
  z5 := Tryz.sizeOf5,
  v5 := Tryz.zeroValue5,
  t9 := Tryz.underlying9,
  a9 := Tryz.isAgg9,
  z9 := Tryz.sizeOf9,
  v9 := Tryz.zeroValue9,
  t20 := Tryz.underlying20,
  a20 := Tryz.isAgg20,
  z20 := Tryz.sizeOf20,
  v20 := Tryz.zeroValue20,
  t37 := Tryz.underlying22,
  a37 := Tryz.isAgg22,
  z37 := Tryz.sizeOf22,
  v37 := Tryz.zeroValue22,
  t46 := Tryz.underlying106,
  a46 := Tryz.isAgg106,
  z46 := Tryz.sizeOf106,
  v46 := Tryz.zeroValue106,
  t51 := Tryz.underlying79,
  a51 := Tryz.isAgg79,
  z51 := Tryz.sizeOf79,
  v51 := Tryz.zeroValue79,
  t53 := Tryz.underlying90,
  a53 := Tryz.isAgg90,
  z53 := Tryz.sizeOf90,
  v53 := Tryz.zeroValue90,
  t70 := Tryz.underlying110,
  a70 := Tryz.isAgg110,
  z70 := Tryz.sizeOf110,
  v70 := Tryz.zeroValue110,
  t72 := Tryz.underlying112,
  a72 := Tryz.isAgg112,
  z72 := Tryz.sizeOf112,
  v72 := Tryz.zeroValue112,
  t75 := Tryz.underlying99,
  a75 := Tryz.isAgg99,
  z75 := Tryz.sizeOf99,
  v75 := Tryz.zeroValue99,
  t76 := Tryz.underlying114,
  a76 := Tryz.isAgg114,
  z76 := Tryz.sizeOf114,
  v76 := Tryz.zeroValue114,
  t109 := Tryz.underlying107,
  a109 := Tryz.isAgg107,
  z109 := Tryz.sizeOf107,
  v109 := Tryz.zeroValue107,
  t127 := Tryz.underlying135,
  a127 := Tryz.isAgg135,
  z127 := Tryz.sizeOf135,
  v127 := Tryz.zeroValue135,
  t146 := Tryz.underlying131,
  a146 := Tryz.isAgg131,
  z146 := Tryz.sizeOf131,
  v146 := Tryz.zeroValue131,
  t148 := Tryz.underlying133,
  a148 := Tryz.isAgg133,
  z148 := Tryz.sizeOf133,
  v148 := Tryz.zeroValue133,
  t164 := Tryz.underlying152,
  a164 := Tryz.isAgg152,
  z164 := Tryz.sizeOf152,
  v164 := Tryz.zeroValue152,
  mixed := (by kernel_rfl) }
theorem rep_extra : Go.Proofs.Builder.Extra Tryz.prog rep_ren where
 sizeBuilder := by kernel_rfl
 liesBuilder := by kernel_rfl
 t5 := Tryz.underlying5
 a5 := Tryz.isAgg5
 z5 := Tryz.sizeOf5
 v5 := Tryz.zeroValue5
 infoByte := by kernel_rfl
 cellsByte := by kernel_rfl
 sizeByte := by kernel_rfl
 neB5 := by decide
theorem x_strings_Repeat_ok (a0 : ByteArray) (a1 : Int) (q0 : ByteArray) (h : x_strings_Repeat a0 a1 = some q0) : Ev Tryz.prog 80 [str a0, i64 a1] [] (str q0) [] := by
 unfold x_strings_Repeat at h
 obtain ⟨h1, k1⟩ := need_some h
 obtain ⟨h2, k2⟩ := need_some k1
 obtain ⟨h3, k3⟩ := need_some k2
 have h1 := of_decide_eq_true h1
 have h2 := of_decide_eq_true h2
 have h3 := of_decide_eq_true h3
 have hq := Option.some.inj k3
 subst hq
 refine Ev.ofGrow fun S w vs hs ha => ?_
 obtain ⟨vl⟩ := vs
 match vl, ha with
 | [v0, v1], ha =>
  simp only [VL, V] at ha
  obtain ⟨rfl, rfl, _⟩ := ha
  have e : (Value.int .i64 a1) = .int .i64 (a1.toNat : Int) := by rw [Int.toNat_of_nonneg h1]
  rw [e]
  refine (Go.Proofs.Any.strings_Repeat rep_lays rep_extra a0 a1.toNat w (by omega) h3).mono ?_
  rintro e w' ⟨rfl, hB⟩
  exact ⟨_, rfl, by simp only [V], hB.size, fun k hk => hB.block k hk, hB.os, hB.tape, hB.output⟩
 | [], ha => simp only [VL] at ha
 | [_], ha => simp only [VL] at ha; exact ha.2.elim
 | _ :: _ :: _ :: _, ha => simp only [VL] at ha; exact ha.2.2.elim
noncomputable def i_digitsOf (a0 : F) : Option (ByteArray) :=
 obind (i_BitsOf a0) fun (r1 : Int) =>
 obind (x_strconv_FormatInt_16 r1 16) fun (r2 : ByteArray) =>
 olet (IntKind.i64.wrap (8 - (r2.size : Int))) fun (x3 : Int) =>
 obind (x_strings_Repeat lit_53dfb3bc x3) fun (r4 : ByteArray) =>
 obind (cats? r4 r2) fun (t5 : ByteArray) =>
 some t5
theorem i_digitsOf_ok (a0 : F) (q0 : ByteArray) (h : i_digitsOf a0 = some q0) : Ev Tryz.prog 48 [f32 a0] [] (str q0) [] := by
 refine Ev.start Tryz.func48 rfl rfl 0 (τ := [(0, f32 a0)]) rfl (Γ' := []) rfl (n := 27) rfl (g := 0) rfl (fun _ => rfl) ?_
 unfold i_digitsOf at h
 refine zQ ?_
 refine za (r := str lit_99ba06bc) ?_
 refine zN ?_
 refine RunC.seq ?_
 obtain ⟨r1, hf1, h⟩ := obind_some h
 obtain ⟨r2, hf2, h⟩ := obind_some h
 refine RunC.regionW ?_
 refine zm (r := f32 a0) ?_
 refine ROps.d (r := i64 r1) (fs := []) (Γ' := []) rfl rfl rfl (TOp.callB (CallAs.func ent21 rfl rfl) (Bors.cons (Bor.pure rfl) Bors.nil) rfl rfl (i_BitsOf_ok a0 r1 hf1)) rfl ?_
 refine ROps.d (r := str r2) (fs := []) (Γ' := []) rfl rfl rfl (TOp.callB (CallAs.func ent79 rfl rfl) (Bors.cons (Bor.pure rfl) (Bors.cons (Bor.pure rfl) Bors.nil)) rfl rfl (x_strconv_FormatInt_16_ok r1 16 r2 hf2)) rfl ?_
 refine za (r := str r2) ?_
 refine zN ?_
 refine RunC.seq ?_
 obtain ⟨x3, hx3, h⟩ := olet_some h
 obtain ⟨r4, hf4, h⟩ := obind_some h
 obtain ⟨t5, hs5, h⟩ := obind_some h
 refine RunC.regionW ?_
 refine zm (r := str r2) ?_
 refine zl (r := i64 (r2.size : Int)) (LOp.len_str und9 rfl rfl) ?_
 refine zl (r := i64 x3) (LOp.eqr (LOp.sub rfl rfl rfl) (congrArg (ik .i64) hx3)) ?_
 refine ROps.d (r := str r4) (fs := []) (Γ' := []) rfl rfl rfl (TOp.callB (CallAs.func ent80 rfl rfl) (Bors.cons (Bor.pure rfl) (Bors.cons (Bor.pure rfl) Bors.nil)) rfl rfl (x_strings_Repeat_ok lit_53dfb3bc x3 r4 hf4)) rfl ?_
 refine zm (r := str r2) ?_
 refine zl (r := str t5) (LOp.cats rfl rfl rfl hs5) ?_
 refine za (r := str t5) ?_
 refine zN ?_
 refine RunC.ret ?_
 have hq := Option.some.inj h
 subst q0
 exact bodyQ.pure (.inr rfl) rfl (Res.one rfl (RV.tmp rfl))
noncomputable def x_strings_Join (a0 : List ByteArray) (a1 : ByteArray) : Option ByteArray :=
 need (decide (0 < a0.length)) <|
 need (decide (a0.length ≤ 140737488355328)) <|
 need (decide ((Go.Lib.join (a0.map (·.data.toList)) a1.data.toList).length ≤ 140737488355328)) <|
 some ⟨(Go.Lib.join (a0.map (·.data.toList)) a1.data.toList).toArray⟩
def join_ren : Go.Shelf.Ren :=
{
 f := fun x =>
  match x with
  | 156 => 81
  | 165 => 97
  | 166 => 98
  | 169 => 100
  | 240 => 118
  | 241 => 119
  | 276 => 137
  | 277 => 138
  | n => n,
 t := fun x =>
  match x with
  | 31 => 69
  | 9 => 9
  | 3 => 3
  | 4 => 4
  | 0 => 0
  | 20 => 20
  | 72 => 112
  | 76 => 114
  | 70 => 110
  | 37 => 22
  | 75 => 99
  | 127 => 135
  | 164 => 152
  | 5 => 5
  | 80 => 117
  | n => n,
 g := fun x =>
  have n := x;
  n }
theorem join_lays : Go.Proofs.Lays.n156 Tryz.prog join_ren :=
 {
  f156 := (Eq.trans Tryz.func81 (congrArg some (by kernel_rfl))),
  f165 := (Eq.trans Tryz.func97 (congrArg some (by kernel_rfl))),
  f166 := (Eq.trans Tryz.func98 (congrArg some (by kernel_rfl))),
  f169 := (Eq.trans Tryz.func100 (congrArg some (by kernel_rfl))),
  f240 := (Eq.trans Tryz.func118 (congrArg some (by kernel_rfl))),
  f241 := (Eq.trans Tryz.func119 (congrArg some (by kernel_rfl))),
  f276 := (Eq.trans Tryz.func137 (congrArg some (by kernel_rfl))),
  f277 := (Eq.trans Tryz.func138 (congrArg some (by kernel_rfl))),
  t0 := Tryz.underlying0,
  a0 := Tryz.isAgg0,
  z0 := Tryz.sizeOf0,
  v0 := Tryz.zeroValue0,
  t3 := Tryz.underlying3,
  a3 := Tryz.isAgg3,
  z3 := Tryz.sizeOf3,
  v3 := Tryz.zeroValue3,
  t4 := Tryz.underlying4,
  a4 := Tryz.isAgg4,
  z4 := Tryz.sizeOf4,
  v4 := Tryz.zeroValue4,
  t9 := Tryz.underlying9,
  a9 := Tryz.isAgg9,
  z9 := Tryz.sizeOf9,
  v9 := Tryz.zeroValue9,
  t20 := Tryz.underlying20,
  a20 := Tryz.isAgg20,
  z20 := Tryz.sizeOf20,
  v20 := Tryz.zeroValue20,
  t31 := Tryz.underlying69,
  a31 := Tryz.isAgg69,
  z31 := Tryz.sizeOf69,
  v31 := Tryz.zeroValue69,
  t37 := Tryz.underlying22,
  a37 := Tryz.isAgg22,
  z37 := Tryz.sizeOf22,
  v37 := Tryz.zeroValue22,
  t70 := Tryz.underlying110,
  a70 := Tryz.isAgg110,
  z70 := Tryz.sizeOf110,
  v70 := Tryz.zeroValue110,
  t72 := Tryz.underlying112,
  a72 := Tryz.isAgg112,
  z72 := Tryz.sizeOf112,
  v72 := Tryz.zeroValue112,
  t75 := Tryz.underlying99,
  a75 := Tryz.isAgg99,
  z75 := Tryz.sizeOf99,
  v75 := Tryz.zeroValue99,
  t76 := Tryz.underlying114,
  a76 := Tryz.isAgg114,
  z76 := Tryz.sizeOf114,
  v76 := Tryz.zeroValue114,
  t127 := Tryz.underlying135,
  a127 := Tryz.isAgg135,
  z127 := Tryz.sizeOf135,
  v127 := Tryz.zeroValue135,
  t164 := Tryz.underlying152,
  a164 := Tryz.isAgg152,
  z164 := Tryz.sizeOf152,
  v164 := Tryz.zeroValue152,
  mixed := (by kernel_rfl) }
theorem join_extra : Go.Proofs.Builder.Extra Tryz.prog join_ren where
 sizeBuilder := by kernel_rfl
 liesBuilder := by kernel_rfl
 t5 := Tryz.underlying5
 a5 := Tryz.isAgg5
 z5 := Tryz.sizeOf5
 v5 := Tryz.zeroValue5
 infoByte := by kernel_rfl
 cellsByte := by kernel_rfl
 sizeByte := by kernel_rfl
 neB5 := by decide
theorem x_strings_Join_ok (a0 : List ByteArray) (a1 : ByteArray) (q0 : ByteArray) (h : x_strings_Join a0 a1 = some q0) : Ev Tryz.prog 81 [sl a0.length (a0.map str), str a1] [] (str q0) [] := by
 unfold x_strings_Join at h
 obtain ⟨h1, h⟩ := need_some h
 obtain ⟨h2, h⟩ := need_some h
 obtain ⟨h3, h⟩ := need_some h
 have h1 := of_decide_eq_true h1
 have h2 := of_decide_eq_true h2
 have h3 := of_decide_eq_true h3
 have hq := Option.some.inj h
 subst hq
 refine Ev.ofGrow fun S w vs hs ha => ?_
 obtain ⟨vl⟩ := vs
 match vl, ha with
 | [v0, v1], ha =>
  simp only [VL] at ha
  obtain ⟨ha0, ha1, _⟩ := ha
  simp only [V] at ha0 ha1
  subst ha1
  obtain ⟨a, cap, rfl, hcap, hl⟩ := ha0
  rcases hl with hl | ⟨b, off, cs, rfl, hb, hv⟩
  ·have : a0 = [] := by simpa using hl
   subst this; simp at h1
  ·obtain ⟨T, m, hT⟩ := hs b cs hb
   have hcell : ∀ (j : Nat) x, a0[j]? = some x → w.cell? ⟨b, off + j, none⟩ = some (.string x) := fun j x hj => by
    obtain ⟨v, e1, e2⟩ := hv.get (i := j) (a := str x) (by rw [List.getElem?_map, hj]; rfl)
    simp only [V] at e2
    subst e2
    rw [List.getElem?_drop] at e1
    simp only [World.cell?, hT]
    simpa using e1
   refine (Go.Proofs.Any.strings_Join join_lays join_extra b off cap a0 a1 w hcell (Array.getElem?_eq_some_iff.1 hT).1 h2 hcap h3).mono ?_
   rintro e w' ⟨rfl, hB⟩
   exact ⟨_, rfl, by simp only [V], hB.size, fun k hk => hB.block k hk, hB.os, hB.tape, hB.output⟩
 | [], ha => simp only [VL] at ha
 | [_], ha => simp only [VL] at ha; exact ha.2.elim
 | _ :: _ :: _ :: _, ha => simp only [VL] at ha; exact ha.2.2.elim
noncomputable def i_joined (a0 : List ByteArray) : Option (ByteArray) :=
 bsel (decide ((a0.length : Int) = 0)) (
  some lit_5ac87db9) (
  obind (x_strings_Join a0 lit_be717853) fun (r1 : ByteArray) =>
  some r1)
theorem i_joined_ok (a0 : List ByteArray) (q0 : ByteArray) (h : i_joined a0 = some q0) : Ev Tryz.prog 49 [sl a0.length (a0.map str)] [] (str q0) [] := by
 refine Ev.start Tryz.func49 rfl rfl 0 (τ := [(0, sl a0.length (a0.map str))]) rfl (Γ' := []) rfl (n := 17) rfl (g := 0) rfl (fun _ => rfl) ?_
 unfold i_joined at h
 refine zQ ?_
 refine za (r := str lit_99ba06bc) ?_
 refine zN ?_
 iterate 2 (refine RunC.seq ?_)
 rcases bsel_some h with ⟨hc1, h⟩ | ⟨hc1, h⟩
 ·refine RunC.regionW ?_
  refine zm (r := sl a0.length (a0.map str)) ?_
  refine zl (r := i64 (a0.length : Int)) (LOp.len_sl und69 rfl rfl) ?_
  refine zl (r := b true) (LOp.eqb (LOp.eql rfl rfl rfl) hc1) ?_
  refine zN ?_
  refine RunC.cond_true rfl rfl ?_
  refine zQ ?_
  refine za (r := str lit_5ac87db9) ?_
  refine zN ?_
  refine RunC.ret ?_
  have hq := Option.some.inj h
  subst q0
  exact bodyQ.pure (.inr rfl) rfl (Res.one rfl (RV.tmp rfl))
 ·refine RunC.regionW ?_
  refine zm (r := sl a0.length (a0.map str)) ?_
  refine zl (r := i64 (a0.length : Int)) (LOp.len_sl und69 rfl rfl) ?_
  refine zl (r := b false) (LOp.eqb (LOp.eql rfl rfl rfl) hc1) ?_
  refine zN ?_
  refine RunC.cond_false rfl rfl ?_
  refine RunC.skip ?_
  refine RunC.seq ?_
  obtain ⟨r1, hf2, h⟩ := obind_some h
  refine RunC.regionW ?_
  refine zm (r := sl a0.length (a0.map str)) ?_
  refine ROps.d (r := str r1) (fs := []) (Γ' := []) rfl rfl rfl (TOp.callB (CallAs.func ent81 rfl rfl) (Bors.cons (Bor.sl (fun _ => rfl)) (Bors.cons (Bor.pure rfl) Bors.nil)) rfl rfl (x_strings_Join_ok a0 lit_be717853 r1 hf2)) rfl ?_
  refine za (r := str r1) ?_
  refine zN ?_
  refine RunC.ret ?_
  have hq := Option.some.inj h
  subst q0
  exact bodyQ.pure (.inr rfl) rfl (Res.one rfl (RV.tmp rfl))
noncomputable def i_ComplexText_b1 (a0 : List (F × F)) (L4 : List ByteArray) (v5 : Int) : Option (LR ((List ByteArray) × Int) ((List ByteArray)) (ByteArray × Bool)) :=
 bsel (decide (v5 < (a0.length : Int))) (
  obind (at? a0 v5) fun (e6 : (F × F)) =>
  obind (i_digitsOf e6.1) fun (r7 : ByteArray) =>
  obind (i_digitsOf e6.2) fun (r8 : ByteArray) =>
  obind (cats? r7 r8) fun (t9 : ByteArray) =>
  need (apok 16 L4.length 1) <|
  olet (IntKind.i64.wrap (v5 + 1)) fun (x10 : Int) =>
  some (LR.next ((L4 ++ ([t9] : List ByteArray)), x10))) (
  some (LR.out L4))
noncomputable def i_ComplexText_s1 (a0 : List (F × F)) : ((List ByteArray) × Int) → Option (LR ((List ByteArray) × Int) ((List ByteArray)) (ByteArray × Bool)) := fun s => i_ComplexText_b1 a0 s.1 s.2
noncomputable def i_ComplexText_k1 (L13 : List ByteArray) : Option (ByteArray × Bool) :=
 obind (i_joined L13) fun (r14 : ByteArray) =>
 some (r14, true)
noncomputable def i_ComplexText (a0 : List (F × F)) : Option (ByteArray × Bool) :=
 obind (i_isShort_complex64 a0) fun (r1 : Bool) =>
 bsel r1 (
  obind (loopM (i_ComplexText_s1 a0) (([] : List ByteArray), 0)) fun z => osum z (fun e => i_ComplexText_k1 e) (fun r => some r)) (
  some (lit_99ba06bc, false))
theorem i_ComplexText_ok (a0 : List (F × F)) (q0 : ByteArray) (q1 : Bool) (h : i_ComplexText a0 = some (q0, q1)) : Ev Tryz.prog 17 [sl a0.length (a0.map (cp .f32))] [] (tup [str q0, b q1]) [] := by
 refine Ev.start Tryz.func17 rfl rfl 2 (τ := [(0, sl a0.length (a0.map (cp .f32)))]) rfl (Γ' := [⟨0, none⟩, ⟨0, none⟩]) rfl (n := 61) rfl (g := 0) rfl (fun _ => rfl) ?_
 unfold i_ComplexText at h
 refine zQ ?_
 refine za (r := str lit_99ba06bc) ?_
 refine za (r := b false) ?_
 refine zN ?_
 iterate 2 (refine RunC.seq ?_)
 obtain ⟨r1, hf1, h⟩ := obind_some h
 rcases bsel_some h with ⟨hc2, h⟩ | ⟨hc2, h⟩
 ·refine RunC.regionW ?_
  refine zm (r := sl a0.length (a0.map (cp .f32))) ?_
  refine ROps.d (r := b true) (fs := []) (Γ' := [⟨0, none⟩, ⟨0, none⟩]) rfl rfl rfl (TOp.eqb (TOp.callB (CallAs.func ent47 rfl rfl) (Bors.cons (Bor.sl (fun _ => rfl)) Bors.nil) rfl rfl (i_isShort_complex64_ok a0 r1 hf1)) hc2) rfl ?_
  refine zl (r := b false) (LOp.eqb (LOp.not rfl rfl) rfl) ?_
  refine zN ?_
  refine RunC.cond_false rfl rfl ?_
  refine RunC.skip ?_
  refine zQ ?_
  refine ROps.d (r := oref 0 1 0 0) (fs := [(0, (([] : List ByteArray).map str))]) (Γ' := [⟨1, some (([] : List ByteArray).map str)⟩, ⟨0, none⟩]) rfl rfl rfl (TOp.buildSlice_o (g := ⟨0, none⟩) (za := str lit_99ba06bc) (qs := []) 0 rfl und69 siz9 zer9 rfl zel9 rfl rfl trivial rfl) rfl ?_
  refine za (r := oref 0 1 0 0) ?_
  refine zN ?_
  refine RunC.seq ?_
  refine zQ ?_
  refine zm (r := sl a0.length (a0.map (cp .f32))) ?_
  refine zl (r := i64 (a0.length : Int)) (LOp.len_sl und25 rfl rfl) ?_
  refine zm (r := i64 0) ?_
  refine zN ?_
  obtain ⟨z2, hz_2, h⟩ := obind_some h
  refine RunC.cutN (fun τ Γ => ∃ (L13 : List ByteArray) (u11 : Nat) (u12 : Nat), WeakLe τ [(4, oref 0 u11 0 L13.length)] ∧ DeadLe Γ [⟨u11, some (L13.map str)⟩, ⟨u12, none⟩] ∧ z2 = .inl L13) ?_ ?_
  ·refine RunC.block (RunC.loop (RunL.loopM (x := z2) (i_ComplexText_s1 a0) (fun (s : (List ByteArray) × Int) τ Γ => ∃ (u2 : Nat) (u3 : Nat), WeakLe τ [(4, oref 0 u2 0 s.1.length), (11, sl a0.length (a0.map (cp .f32))), (12, i64 (a0.length : Int)), (13, i64 s.2)] ∧ DeadLe Γ [⟨u2, some (s.1.map str)⟩, ⟨u3, none⟩]) ?_ _ _ _ hz_2 ⟨1, 0, ⟨aR, aR, aR, aR, trivial⟩, ⟨⟨rfl, .inr rfl⟩, ⟨rfl, .inl rfl⟩, trivial⟩⟩))
   rintro ⟨L4, v5⟩ τ2 Γ2 y2_ ⟨u2, u3, hw2, hd2⟩ h2_ ho2 hr2
   refine RunC.wl (τ' := [(4, oref 0 u2 0 L4.length), (11, sl a0.length (a0.map (cp .f32))), (12, i64 (a0.length : Int)), (13, i64 v5)]) (Γ' := [⟨u2, some (L4.map str)⟩, ⟨u3, none⟩]) hw2 hd2 ?_
   replace h2_ : i_ComplexText_b1 a0 L4 v5 = some y2_ := h2_
   unfold i_ComplexText_b1 at h2_
   refine RunC.seq ?_
   rcases bsel_some h2_ with ⟨hc3, h2_⟩ | ⟨hc3, h2_⟩
   ·refine RunC.regionW ?_
    refine zl (r := b true) (LOp.eqb (LOp.lss rfl rfl rfl) hc3) ?_
    refine zN ?_
    refine RunC.seq ?_
    refine RunC.cond_true rfl rfl ?_
    refine RunC.skip ?_
    refine RunC.seq ?_
    refine RunC.block ?_
    refine RunC.seq ?_
    obtain ⟨e6, he4, h2_⟩ := obind_some h2_
    refine RunC.regionW ?_
    refine zl (r := ptr [cx .f32 e6.1 e6.2]) (LOp.le (LOp.ix (f := (cp .f32)) und25 siz24 rfl rfl rfl rfl he4) ALe.ptr) ?_
    refine zl (r := cx .f32 e6.1 e6.2) (LOp.load1 agg24 rfl rfl) ?_
    refine za (r := cx .f32 e6.1 e6.2) ?_
    refine zN ?_
    obtain ⟨r7, hf5, h2_⟩ := obind_some h2_
    obtain ⟨r8, hf6, h2_⟩ := obind_some h2_
    obtain ⟨t9, hs7, h2_⟩ := obind_some h2_
    obtain ⟨hm8, h2_⟩ := need_some h2_
    refine RunC.regionW ?_
    refine zm (r := oref 0 u2 0 L4.length) ?_
    refine zm (r := cx .f32 e6.1 e6.2) ?_
    refine zl (r := f32 e6.1) (LOp.real rfl rfl) ?_
    refine ROps.d (r := str r7) (fs := []) (Γ' := [⟨u2, some (L4.map str)⟩, ⟨u3, none⟩]) rfl rfl rfl (TOp.callB (CallAs.func ent48 rfl rfl) (Bors.cons (Bor.pure rfl) Bors.nil) rfl rfl (i_digitsOf_ok e6.1 r7 hf5)) rfl ?_
    refine zm (r := cx .f32 e6.1 e6.2) ?_
    refine zl (r := f32 e6.2) (LOp.imag rfl rfl) ?_
    refine ROps.d (r := str r8) (fs := []) (Γ' := [⟨u2, some (L4.map str)⟩, ⟨u3, none⟩]) rfl rfl rfl (TOp.callB (CallAs.func ent48 rfl rfl) (Bors.cons (Bor.pure rfl) Bors.nil) rfl rfl (i_digitsOf_ok e6.2 r8 hf6)) rfl ?_
    refine zl (r := str t9) (LOp.cats rfl rfl rfl hs7) ?_
    refine ROps.d (r := oref 1 (u3 + 1) 0 1) (fs := [(1, (([t9] : List ByteArray).map str))]) (Γ' := [⟨u2, some (L4.map str)⟩, ⟨(u3 + 1), some (([t9] : List ByteArray).map str)⟩]) rfl rfl rfl (TOp.buildSlice_o (g := ⟨u3, none⟩) (za := str lit_99ba06bc) (qs := [(0, [str t9])]) 1 rfl und69 siz9 zer9 rfl zel9 rfl rfl ⟨rfl, ⟨_, ALe.refl _, rfl⟩, trivial⟩ rfl) rfl ?_
    refine ROps.app (f := str) (xs := L4) (ys := ([t9] : List ByteArray)) (Γ' := [⟨(u2 + 1), some ((L4 ++ ([t9] : List ByteArray)).map str)⟩, ⟨(u3 + 1), some (([t9] : List ByteArray).map str)⟩]) rfl pun69 inf9 rfl rfl rfl rfl rfl rfl rfl rfl rfl (by simp) (ReadAs.own rfl (by simp)) (ones_map (fun _ => rfl)) (ap_by hm8) (ap_mx hm8) rfl ?_
    refine za (r := oref 0 (u2 + 1) 0 (L4.length + 1)) ?_
    refine zN ?_
    refine RunC.wl (τ' := [(4, oref 0 (u2 + 1) 0 (L4.length + 1)), (11, sl a0.length (a0.map (cp .f32))), (12, i64 (a0.length : Int)), (13, i64 v5)]) (Γ' := [⟨(u2 + 1), some ((L4 ++ ([t9] : List ByteArray)).map str)⟩, ⟨(u3 + 1), none⟩]) ⟨aR, aR, aR, aR, trivial⟩ ⟨⟨rfl, .inr rfl⟩, ⟨rfl, .inl rfl⟩, trivial⟩ ?_
    obtain ⟨x10, hx9, h2_⟩ := olet_some h2_
    refine RunC.regionW ?_
    refine zl (r := i64 x10) (LOp.eqr (LOp.add rfl rfl rfl) (congrArg (ik .i64) hx9)) ?_
    refine zm (r := i64 x10) ?_
    refine zN ?_
    cases Option.some.inj h2_
    exact ⟨_, rfl, (u2 + 1), (u3 + 1), ⟨(ALe.eq (by rw [(app_len rfl rfl)] <;> rfl)), aR, aR, aR, trivial⟩, ⟨⟨rfl, .inr rfl⟩, ⟨rfl, .inl rfl⟩, trivial⟩⟩
   ·refine RunC.regionW ?_
    refine zl (r := b false) (LOp.eqb (LOp.lss rfl rfl rfl) hc3) ?_
    refine zN ?_
    refine RunC.seq ?_
    refine RunC.cond_false rfl rfl ?_
    refine RunC.exit ?_
    cases Option.some.inj h2_
    have hx := ho2 _ rfl
    exact ⟨L4, u2, u3, ⟨aR, trivial⟩, ⟨⟨rfl, .inr rfl⟩, ⟨rfl, .inl rfl⟩, trivial⟩, hx⟩
  ·rintro τ3 Γ3 ⟨L13, u11, u12, hw3, hd3, rfl⟩
   refine RunC.wl hw3 hd3 ?_
   replace h : i_ComplexText_k1 L13 = some (q0, q1) := h
   unfold i_ComplexText_k1 at h
   refine RunC.seq ?_
   obtain ⟨r14, hf10, h⟩ := obind_some h
   refine RunC.regionW ?_
   refine zm (r := oref 0 u11 0 L13.length) ?_
   refine ROps.d (r := str r14) (fs := []) (Γ' := [⟨u11, some (L13.map str)⟩, ⟨u12, none⟩]) rfl rfl rfl (TOp.callB (CallAs.func ent49 rfl rfl) (Bors.cons (Bor.own (f := str) (fun _ => rfl) rfl rfl) Bors.nil) rfl rfl (i_joined_ok L13 r14 hf10)) rfl ?_
   refine za (r := str r14) ?_
   refine za (r := b true) ?_
   refine zN ?_
   refine RunC.ret ?_
   have hq := Option.some.inj h
   obtain ⟨hq0, hq⟩ := Prod.mk.inj hq
   subst q0
   subst q1
   exact bodyQ.pure (.inr rfl) rfl (Res.two rfl (RV.tmp rfl) (RV.tmp rfl))
 ·refine RunC.regionW ?_
  refine zm (r := sl a0.length (a0.map (cp .f32))) ?_
  refine ROps.d (r := b false) (fs := []) (Γ' := [⟨0, none⟩, ⟨0, none⟩]) rfl rfl rfl (TOp.eqb (TOp.callB (CallAs.func ent47 rfl rfl) (Bors.cons (Bor.sl (fun _ => rfl)) Bors.nil) rfl rfl (i_isShort_complex64_ok a0 r1 hf1)) hc2) rfl ?_
  refine zl (r := b true) (LOp.eqb (LOp.not rfl rfl) rfl) ?_
  refine zN ?_
  refine RunC.cond_true rfl rfl ?_
  refine zQ ?_
  refine za (r := str lit_99ba06bc) ?_
  refine za (r := b false) ?_
  refine zN ?_
  refine RunC.ret ?_
  have hq := Option.some.inj h
  obtain ⟨hq0, hq⟩ := Prod.mk.inj hq
  subst q0
  subst q1
  exact bodyQ.pure (.inr rfl) rfl (Res.two rfl (RV.tmp rfl) (RV.tmp rfl))
noncomputable def x_internal_stringslite_IndexByte (a0 : ByteArray) (a1 : Int) : Option (Int) :=
 some (idxB a0 a1)
theorem x_internal_stringslite_IndexByte_ok (a0 : ByteArray) (a1 : Int) (q0 : Int) (h : x_internal_stringslite_IndexByte a0 a1 = some q0) : Ev Tryz.prog 140 [str a0, ik .u8 a1] [] (i64 q0) [] := by
 refine Ev.start Tryz.func140 rfl rfl 0 (τ := [(0, str a0), (1, ik .u8 a1)]) rfl (Γ' := []) rfl (n := 17) rfl (g := 0) rfl (fun _ => rfl) ?_
 unfold x_internal_stringslite_IndexByte at h
 refine zQ ?_
 refine za (r := i64 0) ?_
 refine zN ?_
 refine zQ ?_
 refine zm (r := str a0) ?_
 refine zm (r := ik .u8 a1) ?_
 refine zl (r := i64 (idxB a0 a1)) (LOp.idxB ext149 rfl rfl rfl) ?_
 refine za (r := i64 (idxB a0 a1)) ?_
 refine zN ?_
 refine RunC.ret ?_
 have hq := Option.some.inj h
 subst q0
 exact bodyQ.pure (.inr rfl) rfl (Res.one rfl (RV.tmp rfl))
noncomputable def x_internal_stringslite_Index (a0 : ByteArray) (a1 : ByteArray) : Option (Int) :=
 bsel (decide ((a1.size : Int) = 0)) (
  some 0) (
  bsel (eqs a1 a0) (
   some 0) (
   bsel (decide ((a1.size : Int) = 1)) (
    obind (sat? a1 0) fun (e1 : Int) =>
    obind (x_internal_stringslite_IndexByte a0 e1) fun (r2 : Int) =>
    some r2) (
    bsel (decide ((a0.size : Int) ≤ (a1.size : Int))) (
     some (-1)) (
     none))))
theorem x_internal_stringslite_Index_ok (a0 : ByteArray) (a1 : ByteArray) (q0 : Int) (h : x_internal_stringslite_Index a0 a1 = some q0) : Ev Tryz.prog 123 [str a0, str a1] [] (i64 q0) [] := by
 refine Ev.start Tryz.func123 rfl rfl 0 (τ := [(0, str a0), (1, str a1)]) rfl (Γ' := []) rfl (n := 287) rfl (g := 0) rfl (fun _ => rfl) ?_
 unfold x_internal_stringslite_Index at h
 refine zQ ?_
 refine za (r := i64 0) ?_
 refine zN ?_
 refine zQ ?_
 refine zm (r := str a1) ?_
 refine zl (r := i64 (a1.size : Int)) (LOp.len_str und9 rfl rfl) ?_
 refine za (r := i64 (a1.size : Int)) ?_
 refine zN ?_
 refine RunC.seq ?_
 refine RunC.block ?_
 refine RunC.seq ?_
 rcases bsel_some h with ⟨hc1, h⟩ | ⟨hc1, h⟩
 ·refine RunC.regionW ?_
  refine zm (r := i64 (a1.size : Int)) ?_
  refine zl (r := b true) (LOp.eqb (LOp.eql rfl rfl rfl) hc1) ?_
  refine zm (r := b true) ?_
  iterate 3 (refine ROps.s rfl rfl rfl ?_)
  refine zl (r := b true) (LOp.pick_true rfl rfl rfl) ?_
  refine za (r := b true) ?_
  refine zN ?_
  refine RunC.cond_true rfl rfl ?_
  refine zQ ?_
  refine za (r := i64 0) ?_
  refine zN ?_
  refine RunC.ret ?_
  have hq := Option.some.inj h
  subst q0
  exact bodyQ.pure (.inr rfl) rfl (Res.one rfl (RV.tmp rfl))
 ·rcases bsel_some h with ⟨hc2, h⟩ | ⟨hc2, h⟩
  ·refine RunC.regionW ?_
   refine zm (r := i64 (a1.size : Int)) ?_
   refine zl (r := b false) (LOp.eqb (LOp.eql rfl rfl rfl) hc1) ?_
   refine zm (r := b false) ?_
   refine zm (r := str a1) ?_
   refine zm (r := str a0) ?_
   refine zl (r := b true) (LOp.eqb (LOp.eqs rfl rfl rfl) hc2) ?_
   refine zl (r := b true) (LOp.pick_false rfl rfl rfl) ?_
   refine za (r := b true) ?_
   refine zN ?_
   refine RunC.cond_true rfl rfl ?_
   refine zQ ?_
   refine za (r := i64 0) ?_
   refine zN ?_
   refine RunC.ret ?_
   have hq := Option.some.inj h
   subst q0
   exact bodyQ.pure (.inr rfl) rfl (Res.one rfl (RV.tmp rfl))
  ·refine RunC.regionW ?_
   refine zm (r := i64 (a1.size : Int)) ?_
   refine zl (r := b false) (LOp.eqb (LOp.eql rfl rfl rfl) hc1) ?_
   refine zm (r := b false) ?_
   refine zm (r := str a1) ?_
   refine zm (r := str a0) ?_
   refine zl (r := b false) (LOp.eqb (LOp.eqs rfl rfl rfl) hc2) ?_
   refine zl (r := b false) (LOp.pick_false rfl rfl rfl) ?_
   refine za (r := b false) ?_
   refine zN ?_
   refine RunC.cond_false rfl rfl ?_
   refine RunC.seq ?_
   rcases bsel_some h with ⟨hc3, h⟩ | ⟨hc3, h⟩
   ·refine RunC.regionW ?_
    refine zm (r := i64 (a1.size : Int)) ?_
    refine zl (r := b true) (LOp.eqb (LOp.eql rfl rfl rfl) hc3) ?_
    refine za (r := b true) ?_
    refine zN ?_
    refine RunC.cond_true rfl rfl ?_
    refine RunC.seq ?_
    obtain ⟨e1, he4, h⟩ := obind_some h
    obtain ⟨r2, hf5, h⟩ := obind_some h
    refine RunC.regionW ?_
    refine zm (r := str a0) ?_
    refine zm (r := str a1) ?_
    refine zl (r := ik .u8 e1) (LOp.index_str und9 rfl rfl rfl he4) ?_
    refine ROps.d (r := i64 r2) (fs := []) (Γ' := []) rfl rfl rfl (TOp.callB (CallAs.func ent140 rfl rfl) (Bors.cons (Bor.pure rfl) (Bors.cons (Bor.pure rfl) Bors.nil)) rfl rfl (x_internal_stringslite_IndexByte_ok a0 e1 r2 hf5)) rfl ?_
    refine za (r := i64 r2) ?_
    refine zN ?_
    refine RunC.ret ?_
    have hq := Option.some.inj h
    subst q0
    exact bodyQ.pure (.inr rfl) rfl (Res.one rfl (RV.tmp rfl))
   ·refine RunC.regionW ?_
    refine zm (r := i64 (a1.size : Int)) ?_
    refine zl (r := b false) (LOp.eqb (LOp.eql rfl rfl rfl) hc3) ?_
    refine za (r := b false) ?_
    refine zN ?_
    refine RunC.cond_false rfl rfl ?_
    refine RunC.seq ?_
    rcases bsel_some h with ⟨hc6, h⟩ | ⟨hc6, h⟩
    ·refine RunC.regionW ?_
     refine zm (r := i64 (a1.size : Int)) ?_
     refine zm (r := str a0) ?_
     refine zl (r := i64 (a0.size : Int)) (LOp.len_str und9 rfl rfl) ?_
     refine zl (r := b true) (LOp.eqb (LOp.geq rfl rfl rfl) hc6) ?_
     refine za (r := b true) ?_
     refine zN ?_
     refine RunC.cond_true rfl rfl ?_
     refine zQ ?_
     refine za (r := i64 (-1)) ?_
     refine zN ?_
     refine RunC.ret ?_
     have hq := Option.some.inj h
     subst q0
     exact bodyQ.pure (.inr rfl) rfl (Res.one rfl (RV.tmp rfl))
    ·refine RunC.regionW ?_
     refine zm (r := i64 (a1.size : Int)) ?_
     refine zm (r := str a0) ?_
     refine zl (r := i64 (a0.size : Int)) (LOp.len_str und9 rfl rfl) ?_
     refine zl (r := b false) (LOp.eqb (LOp.geq rfl rfl rfl) hc6) ?_
     refine za (r := b false) ?_
     refine zN ?_
     refine RunC.cond_false rfl rfl ?_
     refine RunC.seq ?_
     cases h
noncomputable def x_strings_Index (a0 : ByteArray) (a1 : ByteArray) : Option (Int) :=
 obind (x_internal_stringslite_Index a0 a1) fun (r1 : Int) =>
 some r1
theorem x_strings_Index_ok (a0 : ByteArray) (a1 : ByteArray) (q0 : Int) (h : x_strings_Index a0 a1 = some q0) : Ev Tryz.prog 103 [str a0, str a1] [] (i64 q0) [] := by
 refine Ev.start Tryz.func103 rfl rfl 0 (τ := [(0, str a0), (1, str a1)]) rfl (Γ' := []) rfl (n := 17) rfl (g := 0) rfl (fun _ => rfl) ?_
 unfold x_strings_Index at h
 refine zQ ?_
 refine za (r := i64 0) ?_
 refine zN ?_
 refine RunC.seq ?_
 obtain ⟨r1, hf1, h⟩ := obind_some h
 refine RunC.regionW ?_
 refine zm (r := str a0) ?_
 refine zm (r := str a1) ?_
 refine ROps.d (r := i64 r1) (fs := []) (Γ' := []) rfl rfl rfl (TOp.callB (CallAs.func ent123 rfl rfl) (Bors.cons (Bor.pure rfl) (Bors.cons (Bor.pure rfl) Bors.nil)) rfl rfl (x_internal_stringslite_Index_ok a0 a1 r1 hf1)) rfl ?_
 refine za (r := i64 r1) ?_
 refine zN ?_
 refine RunC.ret ?_
 have hq := Option.some.inj h
 subst q0
 exact bodyQ.pure (.inr rfl) rfl (Res.one rfl (RV.tmp rfl))
noncomputable def x_strings_Count_b1 (a1 : ByteArray) (s2 : ByteArray) (v3 : Int) : Option (LR (ByteArray × Int) (Unit) (Int)) :=
 obind (x_strings_Index s2 a1) fun (r4 : Int) =>
 bsel (decide (r4 = (-1))) (
  some (LR.ret v3)) (
  olet (IntKind.i64.wrap (v3 + 1)) fun (x5 : Int) =>
  olet (IntKind.i64.wrap (r4 + (a1.size : Int))) fun (x6 : Int) =>
  obind (subs? s2 x6 (s2.size : Int)) fun (t7 : ByteArray) =>
  some (LR.next (t7, x5)))
noncomputable def x_strings_Count_s1 (a1 : ByteArray) : (ByteArray × Int) → Option (LR (ByteArray × Int) (Unit) (Int)) := fun s => x_strings_Count_b1 a1 s.1 s.2
noncomputable def x_strings_Count (a0 : ByteArray) (a1 : ByteArray) : Option (Int) :=
 bsel (decide ((a1.size : Int) = 0)) (
  none) (
  bsel (decide ((a1.size : Int) = 1)) (
   obind (sat? a1 0) fun (e1 : Int) =>
   some (cntB a0 e1)) (
   obind (loopM (x_strings_Count_s1 a1) (a0, 0)) fun z => osum z (fun _ => none) (fun r => some r)))
theorem x_strings_Count_ok (a0 : ByteArray) (a1 : ByteArray) (q0 : Int) (h : x_strings_Count a0 a1 = some q0) : Ev Tryz.prog 102 [str a0, str a1] [] (i64 q0) [] := by
 refine Ev.start Tryz.func102 rfl rfl 0 (τ := [(0, str a0), (1, str a1)]) rfl (Γ' := []) rfl (n := 69) rfl (g := 0) rfl (fun _ => rfl) ?_
 unfold x_strings_Count at h
 refine zQ ?_
 refine za (r := i64 0) ?_
 refine zN ?_
 iterate 2 (refine RunC.seq ?_)
 rcases bsel_some h with ⟨hc1, h⟩ | ⟨hc1, h⟩
 ·refine RunC.regionW ?_
  refine zm (r := str a1) ?_
  refine zl (r := i64 (a1.size : Int)) (LOp.len_str und9 rfl rfl) ?_
  refine zl (r := b true) (LOp.eqb (LOp.eql rfl rfl rfl) hc1) ?_
  refine zN ?_
  refine RunC.cond_true rfl rfl ?_
  refine RunC.seq ?_
  cases h
 ·refine RunC.regionW ?_
  refine zm (r := str a1) ?_
  refine zl (r := i64 (a1.size : Int)) (LOp.len_str und9 rfl rfl) ?_
  refine zl (r := b false) (LOp.eqb (LOp.eql rfl rfl rfl) hc1) ?_
  refine zN ?_
  refine RunC.cond_false rfl rfl ?_
  refine RunC.skip ?_
  iterate 2 (refine RunC.seq ?_)
  rcases bsel_some h with ⟨hc2, h⟩ | ⟨hc2, h⟩
  ·refine RunC.regionW ?_
   refine zm (r := str a1) ?_
   refine zl (r := i64 (a1.size : Int)) (LOp.len_str und9 rfl rfl) ?_
   refine zl (r := b true) (LOp.eqb (LOp.eql rfl rfl rfl) hc2) ?_
   refine zN ?_
   refine RunC.cond_true rfl rfl ?_
   refine RunC.seq ?_
   obtain ⟨e1, he3, h⟩ := obind_some h
   refine RunC.regionW ?_
   refine zm (r := str a0) ?_
   refine zm (r := str a1) ?_
   refine zl (r := ik .u8 e1) (LOp.index_str und9 rfl rfl rfl he3) ?_
   refine zl (r := i64 (cntB a0 e1)) (LOp.cntB ext122 rfl rfl rfl) ?_
   refine za (r := i64 (cntB a0 e1)) ?_
   refine zN ?_
   refine RunC.ret ?_
   have hq := Option.some.inj h
   subst q0
   exact bodyQ.pure (.inr rfl) rfl (Res.one rfl (RV.tmp rfl))
  ·refine RunC.regionW ?_
   refine zm (r := str a1) ?_
   refine zl (r := i64 (a1.size : Int)) (LOp.len_str und9 rfl rfl) ?_
   refine zl (r := b false) (LOp.eqb (LOp.eql rfl rfl rfl) hc2) ?_
   refine zN ?_
   refine RunC.cond_false rfl rfl ?_
   refine RunC.skip ?_
   refine zQ ?_
   refine za (r := i64 0) ?_
   refine zN ?_
   obtain ⟨z2, hz_2, h⟩ := obind_some h
   refine RunC.block (RunC.loop (RunL.loopM (x := z2) (x_strings_Count_s1 a1) (fun (s : ByteArray × Int) τ Γ => WeakLe τ [(0, str s.1), (1, str a1), (5, i64 s.2)] ∧ DeadLe Γ []) ?_ _ _ _ hz_2 ⟨⟨aR, aR, aR, trivial⟩, trivial⟩))
   rintro ⟨s2, v3⟩ τ2 Γ2 y2_ ⟨hw2, hd2⟩ h2_ ho2 hr2
   refine RunC.wl (τ' := [(0, str s2), (1, str a1), (5, i64 v3)]) (Γ' := []) hw2 hd2 ?_
   replace h2_ : x_strings_Count_b1 a1 s2 v3 = some y2_ := h2_
   unfold x_strings_Count_b1 at h2_
   refine RunC.block ?_
   refine RunC.seq ?_
   obtain ⟨r4, hf4, h2_⟩ := obind_some h2_
   refine RunC.regionW ?_
   refine zm (r := str s2) ?_
   refine zm (r := str a1) ?_
   refine ROps.d (r := i64 r4) (fs := []) (Γ' := []) rfl rfl rfl (TOp.callB (CallAs.func ent103 rfl rfl) (Bors.cons (Bor.pure rfl) (Bors.cons (Bor.pure rfl) Bors.nil)) rfl rfl (x_strings_Index_ok s2 a1 r4 hf4)) rfl ?_
   refine za (r := i64 r4) ?_
   refine zN ?_
   iterate 2 (refine RunC.seq ?_)
   rcases bsel_some h2_ with ⟨hc5, h2_⟩ | ⟨hc5, h2_⟩
   ·refine RunC.regionW ?_
    refine zm (r := i64 r4) ?_
    refine zl (r := b true) (LOp.eqb (LOp.eql rfl rfl rfl) hc5) ?_
    refine zN ?_
    refine RunC.cond_true rfl rfl ?_
    refine zQ ?_
    refine zm (r := i64 v3) ?_
    refine za (r := i64 v3) ?_
    refine zN ?_
    refine RunC.ret ?_
    cases Option.some.inj h2_
    have hx3_ := hr2 _ rfl
    subst hx3_
    have hq := Option.some.inj h
    subst q0
    exact bodyQ.pure (.inr rfl) rfl (Res.one rfl (RV.tmp rfl))
   ·refine RunC.regionW ?_
    refine zm (r := i64 r4) ?_
    refine zl (r := b false) (LOp.eqb (LOp.eql rfl rfl rfl) hc5) ?_
    refine zN ?_
    refine RunC.cond_false rfl rfl ?_
    refine RunC.skip ?_
    refine RunC.seq ?_
    obtain ⟨x5, hx6, h2_⟩ := olet_some h2_
    refine RunC.regionW ?_
    refine zm (r := i64 v3) ?_
    refine zl (r := i64 x5) (LOp.eqr (LOp.add rfl rfl rfl) (congrArg (ik .i64) hx6)) ?_
    refine za (r := i64 x5) ?_
    refine zN ?_
    obtain ⟨x6, hx7, h2_⟩ := olet_some h2_
    obtain ⟨t7, hs8, h2_⟩ := obind_some h2_
    refine RunC.regionW ?_
    refine zm (r := str s2) ?_
    refine zm (r := i64 r4) ?_
    refine zm (r := str a1) ?_
    refine zl (r := i64 (a1.size : Int)) (LOp.len_str und9 rfl rfl) ?_
    refine zl (r := i64 x6) (LOp.eqr (LOp.add rfl rfl rfl) (congrArg (ik .i64) hx7)) ?_
    refine zl (r := str t7) (LOp.subs_lo und9 rfl rfl rfl hs8) ?_
    refine za (r := str t7) ?_
    refine zN ?_
    cases Option.some.inj h2_
    exact ⟨_, rfl, ⟨aR, aR, aR, trivial⟩, trivial⟩
noncomputable def x_strings_genSplit_b2 (a1 : ByteArray) (a2 : Int) (x5 : Int) (L6 : List ByteArray) (s8 : ByteArray) (v9 : Int) : Option (LR ((List ByteArray) × ByteArray × Int) ((List ByteArray) × ByteArray × Int) ((List ByteArray))) :=
 bsel (decide (v9 < x5)) (
  obind (x_strings_Index s8 a1) fun (r10 : Int) =>
  bsel (decide (r10 < 0)) (
   some (LR.out (L6, s8, v9))) (
   olet (IntKind.i64.wrap (r10 + a2)) fun (x11 : Int) =>
   obind (subs? s8 0 x11) fun (t12 : ByteArray) =>
   obind (setAt? L6 v9 t12) fun (L13 : List ByteArray) =>
   olet (IntKind.i64.wrap (r10 + (a1.size : Int))) fun (x14 : Int) =>
   obind (subs? s8 x14 (s8.size : Int)) fun (t15 : ByteArray) =>
   olet (IntKind.i64.wrap (v9 + 1)) fun (x16 : Int) =>
   some (LR.next (L13, t15, x16)))) (
  some (LR.out (L6, s8, v9)))
noncomputable def x_strings_genSplit_s2 (a1 : ByteArray) (a2 : Int) (x5 : Int) : ((List ByteArray) × ByteArray × Int) → Option (LR ((List ByteArray) × ByteArray × Int) ((List ByteArray) × ByteArray × Int) ((List ByteArray))) := fun s => x_strings_genSplit_b2 a1 a2 x5 s.1 s.2.1 s.2.2
noncomputable def x_strings_genSplit_k2 (L17 : List ByteArray) (s19 : ByteArray) (v20 : Int) : Option ((List ByteArray)) :=
 obind (setAt? L17 v20 s19) fun (L21 : List ByteArray) =>
 olet (IntKind.i64.wrap (v20 + 1)) fun (x22 : Int) =>
 obind (sub? L21 0 x22) fun (L23 : List ByteArray) =>
 some L23
noncomputable def x_strings_genSplit_k1 (a0 : ByteArray) (a1 : ByteArray) (a2 : Int) (v3 : Int) : Option ((List ByteArray)) :=
 olet (IntKind.i64.wrap ((a0.size : Int) + 1)) fun (x4 : Int) =>
 need (mkok 16 (imin v3 x4)) <|
 olet (IntKind.i64.wrap ((imin v3 x4) - 1)) fun (x5 : Int) =>
 obind (loopM (x_strings_genSplit_s2 a1 a2 x5) ((List.replicate (imin v3 x4).toNat lit_99ba06bc), a0, 0)) fun z => osum z (fun e => x_strings_genSplit_k2 e.1 e.2.1 e.2.2) (fun r => some r)
noncomputable def x_strings_genSplit (a0 : ByteArray) (a1 : ByteArray) (a2 : Int) (a3 : Int) : Option ((List ByteArray)) :=
 bsel (decide (a3 = 0)) (
  some ([] : List ByteArray)) (
  bsel (eqs a1 lit_99ba06bc) (
   none) (
   bsel (decide (a3 < 0)) (
    obind (x_strings_Count a0 a1) fun (r1 : Int) =>
    olet (IntKind.i64.wrap (r1 + 1)) fun (x2 : Int) =>
    x_strings_genSplit_k1 a0 a1 a2 x2) (
    x_strings_genSplit_k1 a0 a1 a2 a3)))
theorem x_strings_genSplit_ok (a0 : ByteArray) (a1 : ByteArray) (a2 : Int) (a3 : Int) (q0 : List ByteArray) (h : x_strings_genSplit a0 a1 a2 a3 = some q0) : Ev Tryz.prog 82 [str a0, str a1, i64 a2, i64 a3] [] (oref 0 0 0 q0.length) [⟨0, some (q0.map str)⟩] := by
 refine Ev.start Tryz.func82 rfl rfl 1 (τ := [(0, str a0), (1, str a1), (2, i64 a2), (3, i64 a3)]) rfl (Γ' := [⟨0, none⟩]) rfl (n := 133) rfl (g := 0) rfl (fun _ => rfl) ?_
 unfold x_strings_genSplit at h
 refine zQ ?_
 refine za (r := nilsl) ?_
 refine zN ?_
 iterate 2 (refine RunC.seq ?_)
 rcases bsel_some h with ⟨hc1, h⟩ | ⟨hc1, h⟩
 ·refine RunC.regionW ?_
  refine zm (r := i64 a3) ?_
  refine zl (r := b true) (LOp.eqb (LOp.eql rfl rfl rfl) hc1) ?_
  refine zN ?_
  refine RunC.cond_true rfl rfl ?_
  refine zQ ?_
  refine za (r := nilsl) ?_
  refine zN ?_
  refine RunC.nil_slot (Γ' := [⟨1, some (([] : List ByteArray).map str)⟩]) 8 0 rfl rfl rfl ?_
  refine RunC.ret ?_
  have hq := Option.some.inj h
  subst q0
  exact bodyQ.mk (r' := oref 0 1 0 (([] : List ByteArray).length)) [(0, 1)] (.inr rfl) rfl (show List.Nodup [0] from by decide) rfl rfl (Res.eq (Res.one rfl (RV.tmp rfl)) (by rw [(show ([] : List ByteArray).length = 0 from rfl)] <;> rfl)) (SelL.arr0 (f := str) (fun _ => rfl) rfl trivial)
 ·refine RunC.regionW ?_
  refine zm (r := i64 a3) ?_
  refine zl (r := b false) (LOp.eqb (LOp.eql rfl rfl rfl) hc1) ?_
  refine zN ?_
  refine RunC.cond_false rfl rfl ?_
  refine RunC.skip ?_
  iterate 2 (refine RunC.seq ?_)
  rcases bsel_some h with ⟨hc2, h⟩ | ⟨hc2, h⟩
  ·refine RunC.regionW ?_
   refine zm (r := str a1) ?_
   refine zl (r := b true) (LOp.eqb (LOp.eqs rfl rfl rfl) hc2) ?_
   refine zN ?_
   refine RunC.cond_true rfl rfl ?_
   refine RunC.seq ?_
   cases h
  ·refine RunC.regionW ?_
   refine zm (r := str a1) ?_
   refine zl (r := b false) (LOp.eqb (LOp.eqs rfl rfl rfl) hc2) ?_
   refine zN ?_
   refine RunC.cond_false rfl rfl ?_
   refine RunC.skip ?_
   refine RunC.seq ?_
   refine RunC.cutN (fun τ Γ => ∃ (v3 : Int), WeakLe τ [(0, str a0), (1, str a1), (2, i64 a2), (3, i64 v3)] ∧ DeadLe Γ [⟨0, none⟩] ∧ x_strings_genSplit_k1 a0 a1 a2 v3 = some q0) ?_ ?_
   ·refine RunC.seq ?_
    rcases bsel_some h with ⟨hc3, h⟩ | ⟨hc3, h⟩
    ·refine RunC.regionW ?_
     refine zm (r := i64 a3) ?_
     refine zl (r := b true) (LOp.eqb (LOp.lss rfl rfl rfl) hc3) ?_
     refine zN ?_
     refine RunC.cond_true rfl rfl ?_
     obtain ⟨r1, hf4, h⟩ := obind_some h
     obtain ⟨x2, hx5, h⟩ := olet_some h
     refine RunC.regionW ?_
     refine zm (r := str a0) ?_
     refine zm (r := str a1) ?_
     refine ROps.d (r := i64 r1) (fs := []) (Γ' := [⟨0, none⟩]) rfl rfl rfl (TOp.callB (CallAs.func ent102 rfl rfl) (Bors.cons (Bor.pure rfl) (Bors.cons (Bor.pure rfl) Bors.nil)) rfl rfl (x_strings_Count_ok a0 a1 r1 hf4)) rfl ?_
     refine zl (r := i64 x2) (LOp.eqr (LOp.add rfl rfl rfl) (congrArg (ik .i64) hx5)) ?_
     refine za (r := i64 x2) ?_
     refine zN ?_
     exact ⟨x2, ⟨aR, aR, aR, aR, trivial⟩, ⟨⟨rfl, .inr rfl⟩, trivial⟩, h⟩
    ·refine RunC.regionW ?_
     refine zm (r := i64 a3) ?_
     refine zl (r := b false) (LOp.eqb (LOp.lss rfl rfl rfl) hc3) ?_
     refine zN ?_
     refine RunC.cond_false rfl rfl ?_
     refine RunC.skip ?_
     exact ⟨a3, ⟨aR, aR, aR, aR, trivial⟩, ⟨⟨rfl, .inr rfl⟩, trivial⟩, h⟩
   ·rintro τ3 Γ3 ⟨v3, hw3, hd3, h⟩
    refine RunC.wl hw3 hd3 ?_
    unfold x_strings_genSplit_k1 at h
    refine RunC.seq ?_
    obtain ⟨x4, hx6, h⟩ := olet_some h
    refine RunC.regionW ?_
    refine zm (r := i64 v3) ?_
    refine zm (r := str a0) ?_
    refine zl (r := i64 (a0.size : Int)) (LOp.len_str und9 rfl rfl) ?_
    refine zl (r := i64 x4) (LOp.eqr (LOp.add rfl rfl rfl) (congrArg (ik .i64) hx6)) ?_
    refine zl (r := i64 (imin v3 x4)) (LOp.min2 rfl rfl rfl) ?_
    refine za (r := i64 (imin v3 x4)) ?_
    refine zN ?_
    refine RunC.seq ?_
    obtain ⟨hm7, h⟩ := need_some h
    refine RunC.regionW ?_
    refine zm (r := i64 (imin v3 x4)) ?_
    refine ROps.d (r := oref 0 1 0 ((imin v3 x4).toNat)) (fs := [(0, ((List.replicate (imin v3 x4).toNat lit_99ba06bc).map str))]) (Γ' := [⟨1, some ((List.replicate (imin v3 x4).toNat lit_99ba06bc).map str)⟩]) rfl rfl rfl (TOp.mkS (g := ⟨0, none⟩) (t := 69) (e := 9) (by_ := 16) (f := str) (zv := lit_99ba06bc) 0 rfl und69 tin9 rfl siz9 zer9 rfl zel9 rfl rfl rfl hm7) rfl ?_
    refine za (r := oref 0 1 0 ((imin v3 x4).toNat)) ?_
    refine zN ?_
    refine RunC.seq ?_
    obtain ⟨x5, hx8, h⟩ := olet_some h
    refine RunC.regionW ?_
    refine zm (r := i64 (imin v3 x4)) ?_
    refine zl (r := i64 x5) (LOp.eqr (LOp.sub rfl rfl rfl) (congrArg (ik .i64) hx8)) ?_
    refine za (r := i64 x5) ?_
    refine zN ?_
    refine zQ ?_
    refine za (r := i64 0) ?_
    refine zN ?_
    refine RunC.seq ?_
    obtain ⟨z4, hz_4, h⟩ := obind_some h
    refine RunC.cutN (fun τ Γ => ∃ (L17 : List ByteArray) (s19 : ByteArray) (v20 : Int), L17.length = (imin v3 x4).toNat ∧ WeakLe τ [(0, str s19), (9, oref 0 1 0 ((imin v3 x4).toNat)), (10, i64 v20)] ∧ DeadLe Γ [⟨1, some (L17.map str)⟩] ∧ z4 = .inl (L17, s19, v20)) ?_ ?_
    ·refine RunC.block (RunC.loop (RunL.loopM (x := z4) (x_strings_genSplit_s2 a1 a2 x5) (fun (s : (List ByteArray) × ByteArray × Int) τ Γ => s.1.length = (imin v3 x4).toNat ∧ WeakLe τ [(0, str s.2.1), (1, str a1), (2, i64 a2), (3, i64 x5), (9, oref 0 1 0 ((imin v3 x4).toNat)), (10, i64 s.2.2)] ∧ DeadLe Γ [⟨1, some (s.1.map str)⟩]) ?_ _ _ _ hz_4 ⟨List.length_replicate, ⟨aR, aR, aR, aR, aR, aR, trivial⟩, ⟨⟨rfl, .inr rfl⟩, trivial⟩⟩))
     rintro ⟨L6, s8, v9⟩ τ4 Γ4 y4_ ⟨hl7, hw4, hd4⟩ h4_ ho4 hr4
     refine RunC.wl (τ' := [(0, str s8), (1, str a1), (2, i64 a2), (3, i64 x5), (9, oref 0 1 0 ((imin v3 x4).toNat)), (10, i64 v9)]) (Γ' := [⟨1, some (L6.map str)⟩]) hw4 hd4 ?_
     replace hl7 : L6.length = (imin v3 x4).toNat := hl7
     replace h4_ : x_strings_genSplit_b2 a1 a2 x5 L6 s8 v9 = some y4_ := h4_
     unfold x_strings_genSplit_b2 at h4_
     iterate 2 (refine RunC.seq ?_)
     rcases bsel_some h4_ with ⟨hc9, h4_⟩ | ⟨hc9, h4_⟩
     ·refine RunC.regionW ?_
      refine zm (r := i64 v9) ?_
      refine zm (r := i64 x5) ?_
      refine zl (r := b true) (LOp.eqb (LOp.lss rfl rfl rfl) hc9) ?_
      refine zN ?_
      refine RunC.cond_true rfl rfl ?_
      refine RunC.skip ?_
      refine RunC.block ?_
      refine RunC.seq ?_
      obtain ⟨r10, hf10, h4_⟩ := obind_some h4_
      refine RunC.regionW ?_
      refine zm (r := str s8) ?_
      refine zm (r := str a1) ?_
      refine ROps.d (r := i64 r10) (fs := []) (Γ' := [⟨1, some (L6.map str)⟩]) rfl rfl rfl (TOp.callB (CallAs.func ent103 rfl rfl) (Bors.cons (Bor.pure rfl) (Bors.cons (Bor.pure rfl) Bors.nil)) rfl rfl (x_strings_Index_ok s8 a1 r10 hf10)) rfl ?_
      refine za (r := i64 r10) ?_
      refine zN ?_
      iterate 2 (refine RunC.seq ?_)
      rcases bsel_some h4_ with ⟨hc11, h4_⟩ | ⟨hc11, h4_⟩
      ·refine RunC.regionW ?_
       refine zm (r := i64 r10) ?_
       refine zl (r := b true) (LOp.eqb (LOp.lss rfl rfl rfl) hc11) ?_
       refine zN ?_
       refine RunC.cond_true rfl rfl ?_
       refine RunC.exit ?_
       cases Option.some.inj h4_
       have hx := ho4 _ rfl
       exact ⟨L6, s8, v9, hl7, ⟨aR, aR, aR, trivial⟩, ⟨⟨rfl, .inr rfl⟩, trivial⟩, hx⟩
      ·refine RunC.regionW ?_
       refine zm (r := i64 r10) ?_
       refine zl (r := b false) (LOp.eqb (LOp.lss rfl rfl rfl) hc11) ?_
       refine zN ?_
       refine RunC.cond_false rfl rfl ?_
       refine RunC.skip ?_
       refine RunC.seq ?_
       obtain ⟨x11, hx12, h4_⟩ := olet_some h4_
       obtain ⟨t12, hs13, h4_⟩ := obind_some h4_
       obtain ⟨L13, he14, h4_⟩ := obind_some h4_
       refine RunC.regionW ?_
       refine zm (r := oref 0 1 0 ((imin v3 x4).toNat)) ?_
       refine zm (r := i64 v9) ?_
       refine zm (r := str s8) ?_
       refine zm (r := i64 r10) ?_
       refine zm (r := i64 a2) ?_
       refine zl (r := i64 x11) (LOp.eqr (LOp.add rfl rfl rfl) (congrArg (ik .i64) hx12)) ?_
       refine zl (r := str t12) (LOp.subs_hi und9 rfl rfl rfl hs13) ?_
       refine ROps.d (r := optr 0 1 v9.toNat) (fs := []) (Γ' := [⟨1, some (L6.map str)⟩]) rfl rfl rfl (TOp.ixo und69 siz9 rfl rfl rfl (set_in he14 hl7) rfl) rfl ?_
       refine ROps.st (f := str) (i := v9) (Γ' := [⟨1, some (L13.map str)⟩]) rfl siz9 rfl rfl rfl aR rfl rfl rfl he14 rfl ?_
       refine zN ?_
       refine RunC.wl (τ' := [(0, str s8), (1, str a1), (2, i64 a2), (3, i64 x5), (9, oref 0 1 0 ((imin v3 x4).toNat)), (10, i64 v9), (11, i64 r10)]) (Γ' := [⟨1, some (L13.map str)⟩]) ⟨aR, aR, aR, aR, aR, aR, aR, trivial⟩ ⟨⟨rfl, .inr rfl⟩, trivial⟩ ?_
       refine RunC.seq ?_
       obtain ⟨x14, hx15, h4_⟩ := olet_some h4_
       obtain ⟨t15, hs16, h4_⟩ := obind_some h4_
       refine RunC.regionW ?_
       refine zm (r := str s8) ?_
       refine zm (r := i64 r10) ?_
       refine zm (r := str a1) ?_
       refine zl (r := i64 (a1.size : Int)) (LOp.len_str und9 rfl rfl) ?_
       refine zl (r := i64 x14) (LOp.eqr (LOp.add rfl rfl rfl) (congrArg (ik .i64) hx15)) ?_
       refine zl (r := str t15) (LOp.subs_lo und9 rfl rfl rfl hs16) ?_
       refine za (r := str t15) ?_
       refine zN ?_
       obtain ⟨x16, hx17, h4_⟩ := olet_some h4_
       refine RunC.regionW ?_
       refine zm (r := i64 v9) ?_
       refine zl (r := i64 x16) (LOp.eqr (LOp.add rfl rfl rfl) (congrArg (ik .i64) hx17)) ?_
       refine za (r := i64 x16) ?_
       refine zN ?_
       cases Option.some.inj h4_
       exact ⟨_, rfl, ((setAt?_len he14).trans hl7), ⟨aR, aR, aR, aR, aR, aR, trivial⟩, ⟨⟨rfl, .inr rfl⟩, trivial⟩⟩
     ·refine RunC.regionW ?_
      refine zm (r := i64 v9) ?_
      refine zm (r := i64 x5) ?_
      refine zl (r := b false) (LOp.eqb (LOp.lss rfl rfl rfl) hc9) ?_
      refine zN ?_
      refine RunC.cond_false rfl rfl ?_
      refine RunC.exit ?_
      cases Option.some.inj h4_
      have hx := ho4 _ rfl
      exact ⟨L6, s8, v9, hl7, ⟨aR, aR, aR, trivial⟩, ⟨⟨rfl, .inr rfl⟩, trivial⟩, hx⟩
    ·rintro τ5 Γ5 ⟨L17, s19, v20, hl18, hw5, hd5, rfl⟩
     refine RunC.wl hw5 hd5 ?_
     replace h : x_strings_genSplit_k2 L17 s19 v20 = some q0 := h
     unfold x_strings_genSplit_k2 at h
     refine RunC.seq ?_
     obtain ⟨L21, he18, h⟩ := obind_some h
     refine RunC.regionW ?_
     refine zm (r := oref 0 1 0 ((imin v3 x4).toNat)) ?_
     refine zm (r := i64 v20) ?_
     refine zm (r := str s19) ?_
     refine ROps.d (r := optr 0 1 v20.toNat) (fs := []) (Γ' := [⟨1, some (L17.map str)⟩]) rfl rfl rfl (TOp.ixo und69 siz9 rfl rfl rfl (set_in he18 hl18) rfl) rfl ?_
     refine ROps.st (f := str) (i := v20) (Γ' := [⟨1, some (L21.map str)⟩]) rfl siz9 rfl rfl rfl aR rfl rfl rfl he18 rfl ?_
     refine zN ?_
     refine RunC.seq ?_
     obtain ⟨x22, hx19, h⟩ := olet_some h
     obtain ⟨L23, hs20, h⟩ := obind_some h
     refine RunC.regionW ?_
     refine zm (r := oref 0 1 0 ((imin v3 x4).toNat)) ?_
     refine zm (r := i64 v20) ?_
     refine zl (r := i64 x22) (LOp.eqr (LOp.add rfl rfl rfl) (congrArg (ik .i64) hx19)) ?_
     refine ROps.slice_hi_o (f := str) (Γ' := [⟨1, some (L23.map str)⟩]) rfl und69 siz9 rfl rfl rfl rfl rfl ((setAt?_len he18).trans hl18) hs20 rfl rfl ?_
     refine za (r := oref 0 1 0 L23.length) ?_
     refine zN ?_
     refine RunC.ret ?_
     have hq := Option.some.inj h
     subst q0
     exact bodyQ.mk (r' := oref 0 1 0 L23.length) [(0, 1)] (.inr rfl) rfl (show List.Nodup [0] from by decide) rfl rfl (Res.one rfl (RV.tmp rfl)) (SelL.arr0 (f := str) (fun _ => rfl) rfl trivial)
noncomputable def x_strings_Split (a0 : ByteArray) (a1 : ByteArray) : Option ((List ByteArray)) :=
 obind (x_strings_genSplit a0 a1 0 (-1)) fun (r1 : List ByteArray) =>
 some r1
theorem x_strings_Split_ok (a0 : ByteArray) (a1 : ByteArray) (q0 : List ByteArray) (h : x_strings_Split a0 a1 = some q0) : Ev Tryz.prog 50 [str a0, str a1] [] (oref 0 0 0 q0.length) [⟨0, some (q0.map str)⟩] := by
 refine Ev.start Tryz.func50 rfl rfl 1 (τ := [(0, str a0), (1, str a1)]) rfl (Γ' := [⟨0, none⟩]) rfl (n := 17) rfl (g := 0) rfl (fun _ => rfl) ?_
 unfold x_strings_Split at h
 refine zQ ?_
 refine za (r := nilsl) ?_
 refine zN ?_
 refine RunC.seq ?_
 obtain ⟨r1, hf1, h⟩ := obind_some h
 refine RunC.regionW ?_
 refine zm (r := str a0) ?_
 refine zm (r := str a1) ?_
 refine ROps.d (r := oref 0 1 0 r1.length) (fs := [(0, (r1.map str))]) (Γ' := [⟨1, some (r1.map str)⟩]) rfl rfl rfl (TOp.callBN (ls := [(r1.map str)]) [0] (CallAs.func ent82 rfl rfl) (Bors.cons (Bor.pure rfl) (Bors.cons (Bor.pure rfl) (Bors.cons (Bor.pure rfl) (Bors.cons (Bor.pure rfl) Bors.nil)))) rfl (x_strings_genSplit_ok a0 a1 0 (-1) r1 hf1) (and_all (lts0_map (f := str) (fun _ => rfl) _) rfl) (and_all (noss_map (f := str) (fun _ => rfl) _) rfl) rfl (by decide) (ns_of ⟨⟨_, rfl⟩, trivial⟩)) rfl ?_
 refine za (r := oref 0 1 0 r1.length) ?_
 refine zN ?_
 refine RunC.ret ?_
 have hq := Option.some.inj h
 subst q0
 exact bodyQ.mk (r' := oref 0 1 0 r1.length) [(0, 1)] (.inr rfl) rfl (show List.Nodup [0] from by decide) rfl rfl (Res.one rfl (RV.tmp rfl)) (SelL.arr0 (f := str) (fun _ => rfl) rfl trivial)
noncomputable def x_internal_strconv_lower (a0 : Int) : Option (Int) :=
 olet (ior .u8 a0 32) fun (x1 : Int) =>
 some x1
theorem x_internal_strconv_lower_ok (a0 : Int) (q0 : Int) (h : x_internal_strconv_lower a0 = some q0) : Ev Tryz.prog 124 [ik .u8 a0] [] (ik .u8 q0) [] := by
 refine Ev.start Tryz.func124 rfl rfl 0 (τ := [(0, ik .u8 a0)]) rfl (Γ' := []) rfl (n := 11) rfl (g := 0) rfl (fun _ => rfl) ?_
 unfold x_internal_strconv_lower at h
 refine zQ ?_
 refine za (r := ik .u8 0) ?_
 refine zN ?_
 refine RunC.seq ?_
 obtain ⟨x1, hx1, h⟩ := olet_some h
 refine RunC.regionW ?_
 refine zm (r := ik .u8 a0) ?_
 refine zl (r := ik .u8 x1) (LOp.eqr (LOp.ior rfl rfl rfl) (congrArg (ik .u8) hx1)) ?_
 refine za (r := ik .u8 x1) ?_
 refine zN ?_
 refine RunC.ret ?_
 have hq := Option.some.inj h
 subst q0
 exact bodyQ.pure (.inr rfl) rfl (Res.one rfl (RV.tmp rfl))
end Go.Proofs.YtcjbfpoaidjpaaaGreatDoor
