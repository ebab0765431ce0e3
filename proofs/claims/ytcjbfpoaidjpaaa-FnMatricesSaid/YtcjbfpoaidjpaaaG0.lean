/- Generated. -/
import Derived.Test.YtcjbfpoaidjpaaaTys
namespace Go.Proofs.Ytcjbfpoaidjpaaa
open Go Go.AM Go.AM.AV
set_option maxRecDepth 20000
set_option maxHeartbeats 4000000
set_option linter.unusedVariables false
set_option linter.unusedSimpArgs false
noncomputable def w_r8Long (a0 : List Int) (a1 : List Int) : Option (Bool) :=
 bsel (decide (48 < (a0.length : Int))) (
  some true) (
  some (decide (48 < (a1.length : Int))))
theorem w_r8Long_ok (a0 : List Int) (a1 : List Int) (q0 : Bool) (h : w_r8Long a0 a1 = some q0) : Ev Try.prog 7 [sl a0.length (a0.map (ik .u8)), sl a1.length (a1.map (ik .u8))] [] (b q0) [] := by
 refine Ev.start Try.func7 rfl rfl 0 (τ := [(0, sl a0.length (a0.map (ik .u8))), (1, sl a1.length (a1.map (ik .u8)))]) rfl (Γ' := []) rfl (n := 27) rfl (g := 0) rfl (fun _ => rfl) ?_
 unfold w_r8Long at h
 refine zQ ?_
 refine zA (r := b false) rfl rfl rfl rfl rfl ?_
 refine zN ?_
 refine RunC.seq ?_
 rcases bsel_some h with ⟨hc1, h⟩ | ⟨hc1, h⟩
 ·refine RunC.regionW ?_
  refine zM (r := sl a0.length (a0.map (ik .u8))) rfl rfl rfl rfl rfl ?_
  refine zL (r := i64 (a0.length : Int)) rfl rfl rfl (LOp.len_sl und22 rfl rfl) ?_
  refine zL (r := b true) rfl rfl rfl (LOp.eqb (LOp.gtr rfl rfl rfl) hc1) ?_
  refine zM (r := b true) rfl rfl rfl rfl rfl ?_
  iterate 3 (refine ROps.s rfl rfl rfl ?_)
  refine zL (r := b true) rfl rfl rfl (LOp.pick_true rfl rfl rfl) ?_
  refine zA (r := b true) rfl rfl rfl rfl rfl ?_
  refine zN ?_
  refine RunC.ret ?_
  have hq := Option.some.inj h
  subst q0
  exact bodyQ.pure (.inr rfl) rfl (Res.one rfl (RV.tmp rfl))
 ·refine RunC.regionW ?_
  refine zM (r := sl a0.length (a0.map (ik .u8))) rfl rfl rfl rfl rfl ?_
  refine zL (r := i64 (a0.length : Int)) rfl rfl rfl (LOp.len_sl und22 rfl rfl) ?_
  refine zL (r := b false) rfl rfl rfl (LOp.eqb (LOp.gtr rfl rfl rfl) hc1) ?_
  refine zM (r := b false) rfl rfl rfl rfl rfl ?_
  refine zM (r := sl a1.length (a1.map (ik .u8))) rfl rfl rfl rfl rfl ?_
  refine zL (r := i64 (a1.length : Int)) rfl rfl rfl (LOp.len_sl und22 rfl rfl) ?_
  refine zL (r := b (decide (48 < (a1.length : Int)))) rfl rfl rfl (LOp.gtr rfl rfl rfl) ?_
  refine zL (r := b (decide (48 < (a1.length : Int)))) rfl rfl rfl (LOp.pick_false rfl rfl rfl) ?_
  refine zA (r := b (decide (48 < (a1.length : Int)))) rfl rfl rfl rfl rfl ?_
  refine zN ?_
  refine RunC.ret ?_
  have hq := Option.some.inj h
  subst q0
  exact bodyQ.pure (.inr rfl) rfl (Res.one rfl (RV.tmp rfl))
noncomputable def s_l00From (a0 : List Int) : Option ((List Int) × Int × Int) :=
 some (a0, 0, 0)
theorem s_l00From_ok (a0 : List Int) (q0 : List Int) (q1 : Int) (q2 : Int) (h : s_l00From a0 = some (q0, q1, q2)) : Ev Try.prog 53 [sl a0.length (a0.map (ik .u8))] [] (optr 0 0 0) [⟨0, some [sl q0.length (q0.map (ik .u8)), i64 q1, ik .u64 q2]⟩] := by
 refine Ev.start Try.func53 rfl rfl 1 (τ := [(0, sl a0.length (a0.map (ik .u8)))]) rfl (Γ' := [⟨0, none⟩]) rfl (n := 13) rfl (g := 0) rfl (fun _ => rfl) ?_
 unfold s_l00From at h
 refine zQ ?_
 refine zA (r := x (.pointer none)) rfl rfl rfl rfl rfl ?_
 refine zN ?_
 refine zQ ?_
 refine zM (r := sl a0.length (a0.map (ik .u8))) rfl rfl rfl rfl rfl ?_
 refine zL (r := agg [sl a0.length (a0.map (ik .u8)), i64 0, ik .u64 0]) rfl rfl rfl (LOp.build (qs := [(0, [sl a0.length (a0.map (ik .u8))])]) zer131 zok131 und131 plc131 rfl ⟨rfl, ⟨_, ALe.refl _, rfl⟩, trivial⟩ rfl) ?_
 refine ROps.d (r := optr 0 1 0) (fs := [(0, [sl a0.length (a0.map (ik .u8)), i64 0, ik .u64 0])]) (Γ' := [⟨1, some [sl a0.length (a0.map (ik .u8)), i64 0, ik .u64 0]⟩]) rfl rfl rfl (TOp.box_o (g := ⟨0, none⟩) 0 rfl rfl rfl rfl) rfl ?_
 refine zA (r := optr 0 1 0) rfl rfl rfl rfl rfl ?_
 refine zN ?_
 refine RunC.ret ?_
 have hq := Option.some.inj h
 obtain ⟨hq0, hq⟩ := Prod.mk.inj hq
 obtain ⟨hq1, hq⟩ := Prod.mk.inj hq
 subst q0
 subst q1
 subst q2
 exact bodyQ.mk (r' := optr 0 1 0) [(0, 1)] (.inr rfl) rfl (show List.Nodup [0] from by decide) rfl rfl (Res.one rfl (RV.tmp rfl)) (SelL.cells0 rfl (by first | rfl | simp [ren, rens, sigma, rens_f32, rens_f64, rens_i64, rens_ik, rens_str, rens_cp]) (lts_cons (lt_slk (fun _ => rfl)) (lts_cons rfl (lts_cons rfl lts_nil))) trivial)
noncomputable def s_l00Src_next_0p0_C0_k1 (a0 : List Int) (a1 : Int) (a2 : Int) (v3 : Int) : Option (Int × Int × Int) :=
 olet (IntKind.i64.wrap (a1 + 1)) fun (x4 : Int) =>
 olet (IntKind.u64.wrap (a2 * 6364136223846793005)) fun (x5 : Int) =>
 olet (IntKind.u64.wrap v3) fun (x6 : Int) =>
 olet (IntKind.u64.wrap (x5 + x6)) fun (x7 : Int) =>
 olet (IntKind.u64.wrap (x7 + 1442695040888963407)) fun (x8 : Int) =>
 bsel (decide (x4 ≤ (a0.length : Int))) (
  some (v3, x4, x8)) (
  need (decide ((0 : Int) ≤ 40)) <|
  olet (ishr .u64 x8 40) fun (x9 : Int) =>
  olet (iand .u64 x9 255) fun (x10 : Int) =>
  olet (IntKind.i64.wrap x10) fun (x11 : Int) =>
  some (x11, x4, x8))
noncomputable def s_l00Src_next_0p0_C0 (a0 : List Int) (a1 : Int) (a2 : Int) : Option (Int × Int × Int) :=
 bsel (decide (a1 < (a0.length : Int))) (
  obind (at? a0 a1) fun (e1 : Int) =>
  olet (IntKind.i64.wrap e1) fun (x2 : Int) =>
  s_l00Src_next_0p0_C0_k1 a0 a1 a2 x2) (
  s_l00Src_next_0p0_C0_k1 a0 a1 a2 0)
theorem s_l00Src_next_0p0_C0_ok (a0 : List Int) (a1 : Int) (a2 : Int) (q0 : Int) (q1 : Int) (q2 : Int) (h : s_l00Src_next_0p0_C0 a0 a1 a2 = some (q0, q1, q2)) : Ev Try.prog 156 [optr 0 0 0] [⟨0, some [sl a0.length (a0.map (ik .u8)), i64 a1, ik .u64 a2]⟩] (i64 q0) [⟨0, some [sl a0.length (a0.map (ik .u8)), i64 q1, ik .u64 q2]⟩] := by
 refine Ev.start Try.func156 rfl rfl 0 (τ := [(0, optr 0 0 0)]) rfl (Γ' := [⟨0, some [sl a0.length (a0.map (ik .u8)), i64 a1, ik .u64 a2]⟩]) rfl (n := 124) rfl (g := 1) rfl (by decide) ?_
 unfold s_l00Src_next_0p0_C0 at h
 iterate 2 (refine zQ ?_; refine zA (r := i64 0) rfl rfl rfl rfl rfl ?_; refine zN ?_)
 refine RunC.seq ?_
 refine RunC.cutN (fun τ Γ => ∃ (v3 : Int), WeakLe τ [(0, optr 0 0 0), (3, i64 v3)] ∧ DeadLe Γ [⟨0, some [sl a0.length (a0.map (ik .u8)), i64 a1, ik .u64 a2]⟩] ∧ s_l00Src_next_0p0_C0_k1 a0 a1 a2 v3 = some (q0, q1, q2)) ?_ ?_
 ·refine RunC.seq ?_
  rcases bsel_some h with ⟨hc1, h⟩ | ⟨hc1, h⟩
  ·refine RunC.region_draw (Γ' := [⟨0, some [sl a0.length (a0.map (ik .u8)), i64 a1, ik .u64 a2]⟩]) 10 mixed 
    (TR.l (r := optr 0 0 0) rfl rfl (LOp.move rfl rfl) <|
    (TR.l (r := optr 0 0 0) rfl rfl (LOp.nilCheck_optr rfl rfl) <|
    (TR.l (r := optr 0 0 1) rfl rfl (LOp.fao und131 rfl siz3 rfl rfl rfl) <|
    (TR.d (r := i64 a1) (fs := []) rfl rfl (TOp.load1_o rfl rfl agg3 rfl rfl) <|
    (TR.l (r := optr 0 0 0) rfl rfl (LOp.move rfl rfl) <|
    (TR.l (r := optr 0 0 0) rfl rfl (LOp.nilCheck_optr rfl rfl) <|
    (TR.l (r := optr 0 0 0) rfl rfl (LOp.fao und131 rfl siz22 rfl rfl rfl) <|
    (TR.d (r := sl a0.length (a0.map (ik .u8))) (fs := []) rfl rfl (TOp.load1_o rfl rfl agg22 rfl rfl) <|
    (TR.l (r := i64 (a0.length : Int)) rfl rfl (LOp.len_sl und22 rfl rfl) <|
    (TR.l (r := b true) rfl rfl (LOp.eqb (LOp.lss rfl rfl rfl) hc1) <|
    TR.nil)))))))))) rfl (by kernel_rfl) rfl fills_nil rfl ?_
   iterate 10 refine ROps.dropS ?_
   refine ROps.drop0 ?_
   refine zN ?_
   refine RunC.cond_true rfl rfl ?_
   obtain ⟨e1, he2, h⟩ := obind_some h
   obtain ⟨x2, hx3, h⟩ := olet_some h
   refine RunC.region_draw (Γ' := [⟨0, some [sl a0.length (a0.map (ik .u8)), i64 a1, ik .u64 a2]⟩]) 12 mixed 
    (TR.l (r := optr 0 0 0) rfl rfl (LOp.move rfl rfl) <|
    (TR.l (r := optr 0 0 0) rfl rfl (LOp.nilCheck_optr rfl rfl) <|
    (TR.l (r := optr 0 0 0) rfl rfl (LOp.fao und131 rfl siz22 rfl rfl rfl) <|
    (TR.d (r := sl a0.length (a0.map (ik .u8))) (fs := []) rfl rfl (TOp.load1_o rfl rfl agg22 rfl rfl) <|
    (TR.l (r := optr 0 0 0) rfl rfl (LOp.move rfl rfl) <|
    (TR.l (r := optr 0 0 0) rfl rfl (LOp.nilCheck_optr rfl rfl) <|
    (TR.l (r := optr 0 0 1) rfl rfl (LOp.fao und131 rfl siz3 rfl rfl rfl) <|
    (TR.d (r := i64 a1) (fs := []) rfl rfl (TOp.load1_o rfl rfl agg3 rfl rfl) <|
    (TR.l (r := ptr [ik .u8 e1]) rfl rfl (LOp.le (LOp.ix (f := (ik .u8)) und22 siz5 rfl rfl rfl rfl he2) ALe.ptr) <|
    (TR.l (r := ik .u8 e1) rfl rfl (LOp.load1 agg5 rfl rfl) <|
    (TR.l (r := i64 x2) rfl rfl (LOp.eqr (LOp.i2i (src := 5) (dst := 3) ⟨_, pun5⟩ pun3 rfl rfl) (congrArg (ik .i64) hx3)) <|
    (TR.l (r := i64 x2) rfl rfl (LOp.assign rfl rfl) <|
    TR.nil)))))))))))) rfl (by kernel_rfl) rfl fills_nil rfl ?_
   iterate 12 refine ROps.dropS ?_
   refine ROps.drop0 ?_
   refine zN ?_
   exact ⟨x2, ⟨aR, aR, trivial⟩, ⟨⟨rfl, .inr rfl⟩, trivial⟩, h⟩
  ·refine RunC.region_draw (Γ' := [⟨0, some [sl a0.length (a0.map (ik .u8)), i64 a1, ik .u64 a2]⟩]) 10 mixed 
    (TR.l (r := optr 0 0 0) rfl rfl (LOp.move rfl rfl) <|
    (TR.l (r := optr 0 0 0) rfl rfl (LOp.nilCheck_optr rfl rfl) <|
    (TR.l (r := optr 0 0 1) rfl rfl (LOp.fao und131 rfl siz3 rfl rfl rfl) <|
    (TR.d (r := i64 a1) (fs := []) rfl rfl (TOp.load1_o rfl rfl agg3 rfl rfl) <|
    (TR.l (r := optr 0 0 0) rfl rfl (LOp.move rfl rfl) <|
    (TR.l (r := optr 0 0 0) rfl rfl (LOp.nilCheck_optr rfl rfl) <|
    (TR.l (r := optr 0 0 0) rfl rfl (LOp.fao und131 rfl siz22 rfl rfl rfl) <|
    (TR.d (r := sl a0.length (a0.map (ik .u8))) (fs := []) rfl rfl (TOp.load1_o rfl rfl agg22 rfl rfl) <|
    (TR.l (r := i64 (a0.length : Int)) rfl rfl (LOp.len_sl und22 rfl rfl) <|
    (TR.l (r := b false) rfl rfl (LOp.eqb (LOp.lss rfl rfl rfl) hc1) <|
    TR.nil)))))))))) rfl (by kernel_rfl) rfl fills_nil rfl ?_
   iterate 10 refine ROps.dropS ?_
   refine ROps.drop0 ?_
   refine zN ?_
   refine RunC.cond_false rfl rfl ?_
   refine RunC.skip ?_
   exact ⟨0, ⟨aR, aR, trivial⟩, ⟨⟨rfl, .inr rfl⟩, trivial⟩, h⟩
 ·rintro τ2 Γ2 ⟨v3, hw2, hd2, h⟩
  refine RunC.wl hw2 hd2 ?_
  unfold s_l00Src_next_0p0_C0_k1 at h
  refine RunC.seq ?_
  obtain ⟨x4, hx4, h⟩ := olet_some h
  refine RunC.regionW ?_
  refine zM (r := optr 0 0 0) rfl rfl rfl rfl rfl ?_
  refine zL (r := optr 0 0 0) rfl rfl rfl (LOp.nilCheck_optr rfl rfl) ?_
  refine zL (r := optr 0 0 1) rfl rfl rfl (LOp.fao und131 rfl siz3 rfl rfl rfl) ?_
  refine ROps.d (r := i64 a1) (fs := []) (Γ' := [⟨0, some [sl a0.length (a0.map (ik .u8)), i64 a1, ik .u64 a2]⟩]) rfl rfl rfl (TOp.load1_o rfl rfl agg3 rfl rfl) rfl ?_
  refine zL (r := i64 x4) rfl rfl rfl (LOp.eqr (LOp.add rfl rfl rfl) (congrArg (ik .i64) hx4)) ?_
  refine zL (r := optr 0 0 0) rfl rfl rfl (LOp.nilCheck_optr rfl rfl) ?_
  refine zL (r := optr 0 0 1) rfl rfl rfl (LOp.fao und131 rfl siz3 rfl rfl rfl) ?_
  refine ROps.store_le (r := i64 x4) (l' := [sl a0.length (a0.map (ik .u8)), i64 x4, ik .u64 a2]) (Γ' := [⟨0, some [sl a0.length (a0.map (ik .u8)), i64 x4, ik .u64 a2]⟩]) rfl siz3 rfl rfl rfl aR rfl rfl rfl rfl (Nat.le_of_ble_eq_true rfl) rfl rfl ?_
  refine zN ?_
  refine RunC.seq ?_
  obtain ⟨x5, hx5, h⟩ := olet_some h
  obtain ⟨x6, hx6, h⟩ := olet_some h
  obtain ⟨x7, hx7, h⟩ := olet_some h
  obtain ⟨x8, hx8, h⟩ := olet_some h
  refine RunC.regionW ?_
  iterate 2 (refine zM (r := optr 0 0 0) rfl rfl rfl rfl rfl ?_)
  refine zL (r := optr 0 0 0) rfl rfl rfl (LOp.nilCheck_optr rfl rfl) ?_
  refine zL (r := optr 0 0 2) rfl rfl rfl (LOp.fao und131 rfl siz129 rfl rfl rfl) ?_
  refine ROps.d (r := ik .u64 a2) (fs := []) (Γ' := [⟨0, some [sl a0.length (a0.map (ik .u8)), i64 x4, ik .u64 a2]⟩]) rfl rfl rfl (TOp.load1_o rfl rfl agg129 rfl rfl) rfl ?_
  refine zL (r := ik .u64 x5) rfl rfl rfl (LOp.eqr (LOp.mul rfl rfl rfl) (congrArg (ik .u64) hx5)) ?_
  refine zM (r := i64 v3) rfl rfl rfl rfl rfl ?_
  refine zL (r := ik .u64 x6) rfl rfl rfl (LOp.eqr (LOp.i2i (src := 3) (dst := 129) ⟨_, pun3⟩ pun129 rfl rfl) (congrArg (ik .u64) hx6)) ?_
  refine zL (r := ik .u64 x7) rfl rfl rfl (LOp.eqr (LOp.add rfl rfl rfl) (congrArg (ik .u64) hx7)) ?_
  refine zL (r := ik .u64 x8) rfl rfl rfl (LOp.eqr (LOp.add rfl rfl rfl) (congrArg (ik .u64) hx8)) ?_
  refine zL (r := optr 0 0 0) rfl rfl rfl (LOp.nilCheck_optr rfl rfl) ?_
  refine zL (r := optr 0 0 2) rfl rfl rfl (LOp.fao und131 rfl siz129 rfl rfl rfl) ?_
  refine ROps.store_le (r := ik .u64 x8) (l' := [sl a0.length (a0.map (ik .u8)), i64 x4, ik .u64 x8]) (Γ' := [⟨0, some [sl a0.length (a0.map (ik .u8)), i64 x4, ik .u64 x8]⟩]) rfl siz129 rfl rfl rfl aR rfl rfl rfl rfl (Nat.le_of_ble_eq_true rfl) rfl rfl ?_
  refine zN ?_
  refine RunC.wl (τ' := [(0, optr 0 0 0), (3, i64 v3)]) (Γ' := [⟨0, some [sl a0.length (a0.map (ik .u8)), i64 x4, ik .u64 x8]⟩]) ⟨aR, aR, trivial⟩ ⟨⟨rfl, .inr rfl⟩, trivial⟩ ?_
  iterate 2 (refine RunC.seq ?_)
  rcases bsel_some h with ⟨hc9, h⟩ | ⟨hc9, h⟩
  ·refine RunC.region_draw (Γ' := [⟨0, some [sl a0.length (a0.map (ik .u8)), i64 x4, ik .u64 x8]⟩]) 10 mixed 
    (TR.l (r := optr 0 0 0) rfl rfl (LOp.move rfl rfl) <|
    (TR.l (r := optr 0 0 0) rfl rfl (LOp.nilCheck_optr rfl rfl) <|
    (TR.l (r := optr 0 0 1) rfl rfl (LOp.fao und131 rfl siz3 rfl rfl rfl) <|
    (TR.d (r := i64 x4) (fs := []) rfl rfl (TOp.load1_o rfl rfl agg3 rfl rfl) <|
    (TR.l (r := optr 0 0 0) rfl rfl (LOp.move rfl rfl) <|
    (TR.l (r := optr 0 0 0) rfl rfl (LOp.nilCheck_optr rfl rfl) <|
    (TR.l (r := optr 0 0 0) rfl rfl (LOp.fao und131 rfl siz22 rfl rfl rfl) <|
    (TR.d (r := sl a0.length (a0.map (ik .u8))) (fs := []) rfl rfl (TOp.load1_o rfl rfl agg22 rfl rfl) <|
    (TR.l (r := i64 (a0.length : Int)) rfl rfl (LOp.len_sl und22 rfl rfl) <|
    (TR.l (r := b true) rfl rfl (LOp.eqb (LOp.leq rfl rfl rfl) hc9) <|
    TR.nil)))))))))) rfl (by kernel_rfl) rfl fills_nil rfl ?_
   iterate 10 refine ROps.dropS ?_
   refine ROps.drop0 ?_
   refine zN ?_
   refine RunC.cond_true rfl rfl ?_
   refine zQ ?_
   refine zM (r := i64 v3) rfl rfl rfl rfl rfl ?_
   refine zA (r := i64 v3) rfl rfl rfl rfl rfl ?_
   refine zN ?_
   refine RunC.ret ?_
   have hq := Option.some.inj h
   obtain ⟨hq0, hq⟩ := Prod.mk.inj hq
   obtain ⟨hq1, hq⟩ := Prod.mk.inj hq
   subst q0
   subst q1
   subst q2
   exact bodyQ.mk (r' := i64 v3) [(0, 0)] (.inr rfl) rfl (show List.Nodup [0] from by decide) rfl rfl (Res.one rfl (RV.tmp rfl)) (SelL.cells rfl (by first | rfl | simp [ren, rens, sigma, rens_f32, rens_f64, rens_i64, rens_ik, rens_str, rens_cp]) (lts_cons (lt_slk (fun _ => rfl)) (lts_cons rfl (lts_cons rfl lts_nil))) trivial)
  ·refine RunC.region_draw (Γ' := [⟨0, some [sl a0.length (a0.map (ik .u8)), i64 x4, ik .u64 x8]⟩]) 10 mixed 
    (TR.l (r := optr 0 0 0) rfl rfl (LOp.move rfl rfl) <|
    (TR.l (r := optr 0 0 0) rfl rfl (LOp.nilCheck_optr rfl rfl) <|
    (TR.l (r := optr 0 0 1) rfl rfl (LOp.fao und131 rfl siz3 rfl rfl rfl) <|
    (TR.d (r := i64 x4) (fs := []) rfl rfl (TOp.load1_o rfl rfl agg3 rfl rfl) <|
    (TR.l (r := optr 0 0 0) rfl rfl (LOp.move rfl rfl) <|
    (TR.l (r := optr 0 0 0) rfl rfl (LOp.nilCheck_optr rfl rfl) <|
    (TR.l (r := optr 0 0 0) rfl rfl (LOp.fao und131 rfl siz22 rfl rfl rfl) <|
    (TR.d (r := sl a0.length (a0.map (ik .u8))) (fs := []) rfl rfl (TOp.load1_o rfl rfl agg22 rfl rfl) <|
    (TR.l (r := i64 (a0.length : Int)) rfl rfl (LOp.len_sl und22 rfl rfl) <|
    (TR.l (r := b false) rfl rfl (LOp.eqb (LOp.leq rfl rfl rfl) hc9) <|
    TR.nil)))))))))) rfl (by kernel_rfl) rfl fills_nil rfl ?_
   iterate 10 refine ROps.dropS ?_
   refine ROps.drop0 ?_
   refine zN ?_
   refine RunC.cond_false rfl rfl ?_
   refine RunC.skip ?_
   refine RunC.seq ?_
   obtain ⟨hz10, h⟩ := need_some h
   obtain ⟨x9, hx11, h⟩ := olet_some h
   obtain ⟨x10, hx12, h⟩ := olet_some h
   obtain ⟨x11, hx13, h⟩ := olet_some h
   refine RunC.regionW ?_
   refine zM (r := optr 0 0 0) rfl rfl rfl rfl rfl ?_
   refine zL (r := optr 0 0 0) rfl rfl rfl (LOp.nilCheck_optr rfl rfl) ?_
   refine zL (r := optr 0 0 2) rfl rfl rfl (LOp.fao und131 rfl siz129 rfl rfl rfl) ?_
   refine ROps.d (r := ik .u64 x8) (fs := []) (Γ' := [⟨0, some [sl a0.length (a0.map (ik .u8)), i64 x4, ik .u64 x8]⟩]) rfl rfl rfl (TOp.load1_o rfl rfl agg129 rfl rfl) rfl ?_
   refine zL (r := ik .u64 x9) rfl rfl rfl (LOp.eqr (LOp.shr rfl rfl rfl (of_decide_eq_true hz10)) (congrArg (ik .u64) hx11)) ?_
   refine zL (r := ik .u64 x10) rfl rfl rfl (LOp.eqr (LOp.iand rfl rfl rfl) (congrArg (ik .u64) hx12)) ?_
   refine zL (r := i64 x11) rfl rfl rfl (LOp.eqr (LOp.i2i (src := 129) (dst := 2) ⟨_, pun129⟩ pun2 rfl rfl) (congrArg (ik .i64) hx13)) ?_
   refine zA (r := i64 x11) rfl rfl rfl rfl rfl ?_
   refine zN ?_
   refine RunC.ret ?_
   have hq := Option.some.inj h
   obtain ⟨hq0, hq⟩ := Prod.mk.inj hq
   obtain ⟨hq1, hq⟩ := Prod.mk.inj hq
   subst q0
   subst q1
   subst q2
   exact bodyQ.mk (r' := i64 x11) [(0, 0)] (.inr rfl) rfl (show List.Nodup [0] from by decide) rfl rfl (Res.one rfl (RV.tmp rfl)) (SelL.cells rfl (by first | rfl | simp [ren, rens, sigma, rens_f32, rens_f64, rens_i64, rens_ik, rens_str, rens_cp]) (lts_cons (lt_slk (fun _ => rfl)) (lts_cons rfl (lts_cons rfl lts_nil))) trivial)
noncomputable def s_l00Src_pick_0p0_C0_k1 (a0 : Int) (v9 : Int) (v10 : Int) (v11 : Int) : Option (Int × Int × Int) :=
 need (!decide (a0 = 0)) <|
 olet (v11.tmod a0) fun (x12 : Int) =>
 some (x12, v9, v10)
noncomputable def s_l00Src_pick_0p0_C0 (a0 : Int) (a1 : List Int) (a2 : Int) (a3 : Int) : Option (Int × Int × Int) :=
 bsel (decide (a0 ≤ 1)) (
  some (0, a2, a3)) (
  obind3 (s_l00Src_next_0p0_C0 a1 a2 a3) fun (r1 : Int) (r2 : Int) (r3 : Int) =>
  bsel (decide (200 < a0)) (
   olet (IntKind.i64.wrap (r1 * 256)) fun (x4 : Int) =>
   obind3 (s_l00Src_next_0p0_C0 a1 r2 r3) fun (r5 : Int) (r6 : Int) (r7 : Int) =>
   olet (IntKind.i64.wrap (x4 + r5)) fun (x8 : Int) =>
   s_l00Src_pick_0p0_C0_k1 a0 r6 r7 x8) (
   s_l00Src_pick_0p0_C0_k1 a0 r2 r3 r1))
theorem s_l00Src_pick_0p0_C0_ok (a0 : Int) (a1 : List Int) (a2 : Int) (a3 : Int) (q0 : Int) (q1 : Int) (q2 : Int) (h : s_l00Src_pick_0p0_C0 a0 a1 a2 a3 = some (q0, q1, q2)) : Ev Try.prog 112 [optr 0 0 0, i64 a0] [⟨0, some [sl a1.length (a1.map (ik .u8)), i64 a2, ik .u64 a3]⟩] (i64 q0) [⟨0, some [sl a1.length (a1.map (ik .u8)), i64 q1, ik .u64 q2]⟩] := by
 refine Ev.start Try.func112 rfl rfl 0 (τ := [(0, optr 0 0 0), (1, i64 a0)]) rfl (Γ' := [⟨0, some [sl a1.length (a1.map (ik .u8)), i64 a2, ik .u64 a3]⟩]) rfl (n := 40) rfl (g := 1) rfl (by decide) ?_
 unfold s_l00Src_pick_0p0_C0 at h
 refine zQ ?_
 refine zA (r := i64 0) rfl rfl rfl rfl rfl ?_
 refine zN ?_
 iterate 2 (refine RunC.seq ?_)
 rcases bsel_some h with ⟨hc1, h⟩ | ⟨hc1, h⟩
 ·refine RunC.regionW ?_
  refine zM (r := i64 a0) rfl rfl rfl rfl rfl ?_
  refine zL (r := b true) rfl rfl rfl (LOp.eqb (LOp.leq rfl rfl rfl) hc1) ?_
  refine zN ?_
  refine RunC.cond_true rfl rfl ?_
  refine zQ ?_
  refine zA (r := i64 0) rfl rfl rfl rfl rfl ?_
  refine zN ?_
  refine RunC.ret ?_
  have hq := Option.some.inj h
  obtain ⟨hq0, hq⟩ := Prod.mk.inj hq
  obtain ⟨hq1, hq⟩ := Prod.mk.inj hq
  subst q0
  subst q1
  subst q2
  exact bodyQ.mk (r' := i64 0) [(0, 0)] (.inr rfl) rfl (show List.Nodup [0] from by decide) rfl rfl (Res.one rfl (RV.tmp rfl)) (SelL.cells rfl (by first | rfl | simp [ren, rens, sigma, rens_f32, rens_f64, rens_i64, rens_ik, rens_str, rens_cp]) (lts_cons (lt_slk (fun _ => rfl)) (lts_cons rfl (lts_cons rfl lts_nil))) trivial)
 ·refine RunC.regionW ?_
  refine zM (r := i64 a0) rfl rfl rfl rfl rfl ?_
  refine zL (r := b false) rfl rfl rfl (LOp.eqb (LOp.leq rfl rfl rfl) hc1) ?_
  refine zN ?_
  refine RunC.cond_false rfl rfl ?_
  refine RunC.skip ?_
  refine RunC.seq ?_
  obtain ⟨r1, r2, r3, hf2, h⟩ := obind3_some h
  refine RunC.regionW ?_
  refine zM (r := optr 0 0 0) rfl rfl rfl rfl rfl ?_
  refine ROps.callO (A := [optr 0 0 0]) (args := [optr 0 0 0]) (Γc := [⟨0, some [sl a1.length (a1.map (ik .u8)), i64 a2, ik .u64 a3]⟩]) (Γc' := [⟨0, some [sl a1.length (a1.map (ik .u8)), i64 r2, ik .u64 r3]⟩]) (r' := i64 r1) (Γ' := [⟨0, some [sl a1.length (a1.map (ik .u8)), i64 r2, ik .u64 r3]⟩]) [(0, 0)] [] rfl (CallAs.func ent156 rfl rfl) rfl rfl (SelOk.of (show List.Nodup [0] from by decide) (SelL.cells0 rfl (by simp [ren, rens, sigma, rens_f32, rens_f64, rens_i64, rens_ik, rens_str, rens_cp]) (lts_cons (lt_slk (fun _ => rfl)) (lts_cons rfl (lts_cons rfl lts_nil))) trivial)) (live_of ⟨⟨_, _, rfl⟩, trivial⟩) (by simp [ren, rens, sigma, rens_f32, rens_f64, rens_i64, rens_ik, rens_str, rens_cp]) rfl (s_l00Src_next_0p0_C0_ok a1 a2 a3 r1 r2 r3 hf2) rfl (news_of trivial) (show List.Nodup [0] from by decide) (by simp [ren, rens, sigma]) (by simp [backOb, sigma, ren, rens, rens_f32, rens_f64, rens_i64, rens_ik, rens_str, rens_cp]) ?_
  refine zA (r := i64 r1) rfl rfl rfl rfl rfl ?_
  refine zN ?_
  refine RunC.seq ?_
  refine RunC.cutN (fun τ Γ => ∃ (v9 : Int) (v10 : Int) (v11 : Int), WeakLe τ [(1, i64 a0), (5, i64 v11)] ∧ DeadLe Γ [⟨0, some [sl a1.length (a1.map (ik .u8)), i64 v9, ik .u64 v10]⟩] ∧ s_l00Src_pick_0p0_C0_k1 a0 v9 v10 v11 = some (q0, q1, q2)) ?_ ?_
  ·refine RunC.seq ?_
   rcases bsel_some h with ⟨hc3, h⟩ | ⟨hc3, h⟩
   ·refine RunC.regionW ?_
    refine zM (r := i64 a0) rfl rfl rfl rfl rfl ?_
    refine zL (r := b true) rfl rfl rfl (LOp.eqb (LOp.gtr rfl rfl rfl) hc3) ?_
    refine zN ?_
    refine RunC.cond_true rfl rfl ?_
    obtain ⟨x4, hx4, h⟩ := olet_some h
    obtain ⟨r5, r6, r7, hf5, h⟩ := obind3_some h
    obtain ⟨x8, hx6, h⟩ := olet_some h
    refine RunC.regionW ?_
    refine zM (r := i64 r1) rfl rfl rfl rfl rfl ?_
    refine zL (r := i64 x4) rfl rfl rfl (LOp.eqr (LOp.mul rfl rfl rfl) (congrArg (ik .i64) hx4)) ?_
    refine zM (r := optr 0 0 0) rfl rfl rfl rfl rfl ?_
    refine ROps.callO (A := [optr 0 0 0]) (args := [optr 0 0 0]) (Γc := [⟨0, some [sl a1.length (a1.map (ik .u8)), i64 r2, ik .u64 r3]⟩]) (Γc' := [⟨0, some [sl a1.length (a1.map (ik .u8)), i64 r6, ik .u64 r7]⟩]) (r' := i64 r5) (Γ' := [⟨0, some [sl a1.length (a1.map (ik .u8)), i64 r6, ik .u64 r7]⟩]) [(0, 0)] [] rfl (CallAs.func ent156 rfl rfl) rfl rfl (SelOk.of (show List.Nodup [0] from by decide) (SelL.cells0 rfl (by simp [ren, rens, sigma, rens_f32, rens_f64, rens_i64, rens_ik, rens_str, rens_cp]) (lts_cons (lt_slk (fun _ => rfl)) (lts_cons rfl (lts_cons rfl lts_nil))) trivial)) (live_of ⟨⟨_, _, rfl⟩, trivial⟩) (by simp [ren, rens, sigma, rens_f32, rens_f64, rens_i64, rens_ik, rens_str, rens_cp]) rfl (s_l00Src_next_0p0_C0_ok a1 r2 r3 r5 r6 r7 hf5) rfl (news_of trivial) (show List.Nodup [0] from by decide) (by simp [ren, rens, sigma]) (by simp [backOb, sigma, ren, rens, rens_f32, rens_f64, rens_i64, rens_ik, rens_str, rens_cp]) ?_
    refine zL (r := i64 x8) rfl rfl rfl (LOp.eqr (LOp.add rfl rfl rfl) (congrArg (ik .i64) hx6)) ?_
    refine zA (r := i64 x8) rfl rfl rfl rfl rfl ?_
    refine zN ?_
    exact ⟨r6, r7, x8, ⟨aR, aR, trivial⟩, ⟨⟨rfl, .inr rfl⟩, trivial⟩, h⟩
   ·refine RunC.regionW ?_
    refine zM (r := i64 a0) rfl rfl rfl rfl rfl ?_
    refine zL (r := b false) rfl rfl rfl (LOp.eqb (LOp.gtr rfl rfl rfl) hc3) ?_
    refine zN ?_
    refine RunC.cond_false rfl rfl ?_
    refine RunC.skip ?_
    exact ⟨r2, r3, r1, ⟨aR, aR, trivial⟩, ⟨⟨rfl, .inr rfl⟩, trivial⟩, h⟩
  ·rintro τ2 Γ2 ⟨v9, v10, v11, hw2, hd2, h⟩
   refine RunC.wl hw2 hd2 ?_
   unfold s_l00Src_pick_0p0_C0_k1 at h
   refine RunC.seq ?_
   obtain ⟨hz7, h⟩ := need_some h
   obtain ⟨x12, hx8, h⟩ := olet_some h
   refine RunC.regionW ?_
   refine zM (r := i64 v11) rfl rfl rfl rfl rfl ?_
   refine zM (r := i64 a0) rfl rfl rfl rfl rfl ?_
   refine zL (r := i64 x12) rfl rfl rfl (LOp.eqr (LOp.rem rfl rfl rfl (nz hz7)) (congrArg (ik .i64) hx8)) ?_
   refine zA (r := i64 x12) rfl rfl rfl rfl rfl ?_
   refine zN ?_
   refine RunC.ret ?_
   have hq := Option.some.inj h
   obtain ⟨hq0, hq⟩ := Prod.mk.inj hq
   obtain ⟨hq1, hq⟩ := Prod.mk.inj hq
   subst q0
   subst q1
   subst q2
   exact bodyQ.mk (r' := i64 x12) [(0, 0)] (.inr rfl) rfl (show List.Nodup [0] from by decide) rfl rfl (Res.one rfl (RV.tmp rfl)) (SelL.cells rfl (by first | rfl | simp [ren, rens, sigma, rens_f32, rens_f64, rens_i64, rens_ik, rens_str, rens_cp]) (lts_cons (lt_slk (fun _ => rfl)) (lts_cons rfl (lts_cons rfl lts_nil))) trivial)
noncomputable def s_l02Blank (a0 : Int) (a1 : Int) : Option (Int × Int × (List F)) :=
 some (a0, a1, ([] : List F))
theorem s_l02Blank_ok (a0 : Int) (a1 : Int) (q0 : Int) (q1 : Int) (q2 : List F) (h : s_l02Blank a0 a1 = some (q0, q1, q2)) : Ev Try.prog 124 [i64 a0, i64 a1] [] (agg [i64 q0, i64 q1, oref 0 0 0 q2.length]) [⟨0, some (q2.map f32)⟩] := by
 refine Ev.start Try.func124 rfl rfl 2 (τ := [(0, i64 a0), (1, i64 a1)]) rfl (Γ' := [⟨0, none⟩, ⟨0, none⟩]) rfl (n := 19) rfl (g := 0) rfl (fun _ => rfl) ?_
 unfold s_l02Blank at h
 refine zQ ?_
 refine ROps.d (r := optr 0 1 0) (fs := [(0, [i64 0, i64 0, nilsl])]) (Γ' := [⟨1, some [i64 0, i64 0, nilsl]⟩, ⟨0, none⟩]) rfl rfl rfl (TOp.alloc_o (g := ⟨0, none⟩) 0 rfl zer26 zok26 rfl) rfl ?_
 refine zN ?_
 refine zQ ?_
 refine zM (r := i64 a0) rfl rfl rfl rfl rfl ?_
 refine zM (r := i64 a1) rfl rfl rfl rfl rfl ?_
 refine ROps.d (r := oref 1 1 0 0) (fs := [(1, (([] : List F).map f32))]) (Γ' := [⟨1, some [i64 0, i64 0, nilsl]⟩, ⟨1, some (([] : List F).map f32)⟩]) rfl rfl rfl (TOp.buildSlice_o (g := ⟨0, none⟩) (za := f32 (some 0)) (qs := []) 1 rfl und24 siz36 zer36 rfl zel36 rfl rfl trivial rfl) rfl ?_
 refine zL (r := agg [i64 a0, i64 a1, oref 1 1 0 0]) rfl rfl rfl (LOp.build (qs := [(0, [i64 a0]), (1, [i64 a1]), (2, [oref 1 1 0 0])]) zer26 zok26 und26 plc26 rfl ⟨rfl, ⟨_, ALe.refl _, rfl⟩, ⟨rfl, ⟨_, ALe.refl _, rfl⟩, ⟨rfl, ⟨_, ALe.refl _, rfl⟩, trivial⟩⟩⟩ rfl) ?_
 refine ROps.store_le (r := agg [i64 a0, i64 a1, oref 1 1 0 0]) (l' := [i64 a0, i64 a1, oref 1 1 0 0]) (Γ' := [⟨1, some [i64 a0, i64 a1, oref 1 1 0 0]⟩, ⟨1, some (([] : List F).map f32)⟩]) rfl siz26 rfl rfl rfl aR rfl rfl rfl rfl (Nat.le_of_ble_eq_true rfl) rfl rfl ?_
 refine zN ?_
 refine RunC.ret ?_
 have hq := Option.some.inj h
 obtain ⟨hq0, hq⟩ := Prod.mk.inj hq
 obtain ⟨hq1, hq⟩ := Prod.mk.inj hq
 subst q0
 subst q1
 subst q2
 exact bodyQ.mk (r' := agg [i64 a0, i64 a1, oref 1 1 0 (([] : List F).length)]) [(1, 1)] (.inr rfl) rfl (show List.Nodup [1] from by decide) rfl rfl (Res.eq (Res.one rfl (RV.cell agg26 siz26 rfl rfl rfl rfl)) (by rw [(show ([] : List F).length = 0 from rfl)] <;> rfl)) (SelL.arr0 (f := f32) (fun _ => rfl) rfl trivial)
noncomputable def s_l02DrawSides_0p0_C0_b1 (a2 : List Int) (L7 : List F) (v8 : Int) (v9 : Int) (v10 : Int) : Option (LR ((List F) × Int × Int × Int) ((List F) × Int × Int) (Int × Int × Int × Int × (List F))) :=
 bsel (decide (0 < v10)) (
  obind3 (s_l00Src_pick_0p0_C0 33 a2 v8 v9) fun (r17 : Int) (r18 : Int) (r19 : Int) =>
  olet (IntKind.i64.wrap (r17 - 16)) fun (x20 : Int) =>
  olet (fint .f32 x20) fun (x21 : F) =>
  olet (fop .quo .f32 x21 (some 1082130432)) fun (x22 : F) =>
  need (apok 4 L7.length 1) <|
  olet (IntKind.i64.wrap (v10 - 1)) fun (x23 : Int) =>
  some (LR.next ((L7 ++ ([x22] : List F)), r18, r19, x23))) (
  some (LR.out (L7, v8, v9)))
noncomputable def s_l02DrawSides_0p0_C0_s1 (a2 : List Int) : ((List F) × Int × Int × Int) → Option (LR ((List F) × Int × Int × Int) ((List F) × Int × Int) (Int × Int × Int × Int × (List F))) := fun s => s_l02DrawSides_0p0_C0_b1 a2 s.1 s.2.1 s.2.2.1 s.2.2.2
noncomputable def s_l02DrawSides_0p0_C0_k1 (r1 : Int) (r2 : Int) (L26 : List F) (v27 : Int) (v28 : Int) : Option (Int × Int × Int × Int × (List F)) :=
 some (r1, r2, v27, v28, L26)
noncomputable def s_l02DrawSides_0p0_C0 (a0 : Int) (a1 : Int) (a2 : List Int) (a3 : Int) (a4 : Int) : Option (Int × Int × Int × Int × (List F)) :=
 obind3 (s_l02Blank a0 a1) fun (r1 : Int) (r2 : Int) (r3 : List F) =>
 olet (IntKind.i64.wrap (a0 * a1)) fun (x4 : Int) =>
 obind (loopM (s_l02DrawSides_0p0_C0_s1 a2) (r3, a3, a4, x4)) fun z => osum z (fun e => s_l02DrawSides_0p0_C0_k1 r1 r2 e.1 e.2.1 e.2.2) (fun r => some r)
theorem s_l02DrawSides_0p0_C0_ok (a0 : Int) (a1 : Int) (a2 : List Int) (a3 : Int) (a4 : Int) (q0 : Int) (q1 : Int) (q2 : Int) (q3 : Int) (q4 : List F) (h : s_l02DrawSides_0p0_C0 a0 a1 a2 a3 a4 = some (q0, q1, q2, q3, q4)) : Ev Try.prog 55 [optr 0 0 0, i64 a0, i64 a1] [⟨0, some [sl a2.length (a2.map (ik .u8)), i64 a3, ik .u64 a4]⟩] (agg [i64 q0, i64 q1, oref 1 0 0 q4.length]) [⟨0, some [sl a2.length (a2.map (ik .u8)), i64 q2, ik .u64 q3]⟩, ⟨0, some (q4.map f32)⟩] := by
 refine Ev.start Try.func55 rfl rfl 4 (τ := [(0, optr 0 0 0), (1, i64 a0), (2, i64 a1)]) rfl (Γ' := [⟨0, some [sl a2.length (a2.map (ik .u8)), i64 a3, ik .u64 a4]⟩, ⟨0, none⟩, ⟨0, none⟩, ⟨0, none⟩, ⟨0, none⟩]) rfl (n := 60) rfl (g := 1) rfl (by decide) ?_
 unfold s_l02DrawSides_0p0_C0 at h
 refine zQ ?_
 refine ROps.d (r := optr 1 1 0) (fs := [(1, [i64 0, i64 0, nilsl])]) (Γ' := [⟨0, some [sl a2.length (a2.map (ik .u8)), i64 a3, ik .u64 a4]⟩, ⟨1, some [i64 0, i64 0, nilsl]⟩, ⟨0, none⟩, ⟨0, none⟩, ⟨0, none⟩]) rfl rfl rfl (TOp.alloc_o (g := ⟨0, none⟩) 1 rfl zer26 zok26 rfl) rfl ?_
 refine zN ?_
 refine RunC.seq ?_
 obtain ⟨r1, r2, r3, hf1, h⟩ := obind3_some h
 refine RunC.regionW ?_
 refine zM (r := i64 a0) rfl rfl rfl rfl rfl ?_
 refine zM (r := i64 a1) rfl rfl rfl rfl rfl ?_
 refine ROps.d (r := agg [i64 r1, i64 r2, oref 2 1 0 r3.length]) (fs := [(2, (r3.map f32))]) (Γ' := [⟨0, some [sl a2.length (a2.map (ik .u8)), i64 a3, ik .u64 a4]⟩, ⟨1, some [i64 0, i64 0, nilsl]⟩, ⟨1, some (r3.map f32)⟩, ⟨0, none⟩, ⟨0, none⟩]) rfl rfl rfl (TOp.callBN (ls := [(r3.map f32)]) [2] (CallAs.func ent124 rfl rfl) (Bors.cons (Bor.pure rfl) (Bors.cons (Bor.pure rfl) Bors.nil)) rfl (s_l02Blank_ok a0 a1 r1 r2 r3 hf1) (and_all (lts0_map (f := f32) (fun _ => rfl) _) rfl) (and_all (noss_map (f := f32) (fun _ => rfl) _) rfl) rfl (by decide) (ns_of ⟨⟨_, rfl⟩, trivial⟩)) rfl ?_
 refine ROps.d (r := optr 3 1 0) (fs := [(3, [i64 0, i64 0, nilsl])]) (Γ' := [⟨0, some [sl a2.length (a2.map (ik .u8)), i64 a3, ik .u64 a4]⟩, ⟨1, some [i64 0, i64 0, nilsl]⟩, ⟨1, some (r3.map f32)⟩, ⟨1, some [i64 0, i64 0, nilsl]⟩, ⟨0, none⟩]) rfl rfl rfl (TOp.alloc_o (g := ⟨0, none⟩) 3 rfl zer26 zok26 rfl) rfl ?_
 refine ROps.store_le (r := agg [i64 r1, i64 r2, oref 2 1 0 r3.length]) (l' := [i64 r1, i64 r2, oref 2 1 0 r3.length]) (Γ' := [⟨0, some [sl a2.length (a2.map (ik .u8)), i64 a3, ik .u64 a4]⟩, ⟨1, some [i64 0, i64 0, nilsl]⟩, ⟨1, some (r3.map f32)⟩, ⟨1, some [i64 r1, i64 r2, oref 2 1 0 r3.length]⟩, ⟨0, none⟩]) rfl siz26 rfl rfl rfl aR rfl rfl rfl rfl (Nat.le_of_ble_eq_true rfl) rfl rfl ?_
 refine zN ?_
 iterate 2 (refine RunC.seq ?_)
 obtain ⟨x4, hx2, h⟩ := olet_some h
 refine RunC.regionW ?_
 refine zM (r := i64 a0) rfl rfl rfl rfl rfl ?_
 refine zM (r := i64 a1) rfl rfl rfl rfl rfl ?_
 refine zL (r := i64 x4) rfl rfl rfl (LOp.eqr (LOp.mul rfl rfl rfl) (congrArg (ik .i64) hx2)) ?_
 refine zA (r := i64 x4) rfl rfl rfl rfl rfl ?_
 refine zN ?_
 obtain ⟨z2, hz_2, h⟩ := obind_some h
 refine RunC.cutN (fun τ Γ => ∃ (L26 : List F) (v27 : Int) (v28 : Int) (u24 : Nat) (u25 : Nat), WeakLe τ [(6, optr 1 1 0), (7, optr 3 1 0)] ∧ DeadLe Γ [⟨0, some [sl a2.length (a2.map (ik .u8)), i64 v27, ik .u64 v28]⟩, ⟨1, some [i64 0, i64 0, nilsl]⟩, ⟨u24, some (L26.map f32)⟩, ⟨1, some [i64 r1, i64 r2, oref 2 u24 0 L26.length]⟩, ⟨u25, none⟩] ∧ z2 = .inl (L26, v27, v28)) ?_ ?_
 ·refine RunC.block (RunC.loop (RunL.loopM (x := z2) (s_l02DrawSides_0p0_C0_s1 a2) (fun (s : (List F) × Int × Int × Int) τ Γ => ∃ (u5 : Nat) (u6 : Nat), WeakLe τ [(0, optr 0 0 0), (6, optr 1 1 0), (7, optr 3 1 0), (8, i64 s.2.2.2)] ∧ DeadLe Γ [⟨0, some [sl a2.length (a2.map (ik .u8)), i64 s.2.1, ik .u64 s.2.2.1]⟩, ⟨1, some [i64 0, i64 0, nilsl]⟩, ⟨u5, some (s.1.map f32)⟩, ⟨1, some [i64 r1, i64 r2, oref 2 u5 0 s.1.length]⟩, ⟨u6, none⟩]) ?_ _ _ _ hz_2 ⟨1, 0, ⟨aR, aR, aR, aR, trivial⟩, ⟨⟨rfl, .inr rfl⟩, ⟨rfl, .inr rfl⟩, ⟨rfl, .inr rfl⟩, ⟨rfl, .inr (by first | rfl | simp)⟩, ⟨rfl, .inl rfl⟩, trivial⟩⟩))
  rintro ⟨L7, v8, v9, v10⟩ τ2 Γ2 y2_ ⟨u5, u6, hw2, hd2⟩ h2_ ho2 hr2
  refine RunC.wl (τ' := [(0, optr 0 0 0), (6, optr 1 1 0), (7, optr 3 1 0), (8, i64 v10)]) (Γ' := [⟨0, some [sl a2.length (a2.map (ik .u8)), i64 v8, ik .u64 v9]⟩, ⟨1, some [i64 0, i64 0, nilsl]⟩, ⟨u5, some (L7.map f32)⟩, ⟨1, some [i64 r1, i64 r2, oref 2 u5 0 L7.length]⟩, ⟨u6, none⟩]) hw2 hd2 ?_
  replace h2_ : s_l02DrawSides_0p0_C0_b1 a2 L7 v8 v9 v10 = some y2_ := h2_
  unfold s_l02DrawSides_0p0_C0_b1 at h2_
  iterate 2 (refine RunC.seq ?_)
  rcases bsel_some h2_ with ⟨hc3, h2_⟩ | ⟨hc3, h2_⟩
  ·refine RunC.regionW ?_
   refine zM (r := i64 v10) rfl rfl rfl rfl rfl ?_
   refine zL (r := b true) rfl rfl rfl (LOp.eqb (LOp.gtr rfl rfl rfl) hc3) ?_
   refine zN ?_
   refine RunC.cond_true rfl rfl ?_
   refine RunC.skip ?_
   refine RunC.seq ?_
   refine RunC.block ?_
   obtain ⟨r17, r18, r19, hf9, h2_⟩ := obind3_some h2_
   obtain ⟨x20, hx10, h2_⟩ := olet_some h2_
   obtain ⟨x21, hx11, h2_⟩ := olet_some h2_
   obtain ⟨x22, hx12, h2_⟩ := olet_some h2_
   obtain ⟨hm13, h2_⟩ := need_some h2_
   refine RunC.cutN (fun τ Γ => WeakLe τ [(0, optr 0 0 0), (6, optr 1 1 0), (7, optr 3 1 0), (8, i64 v10), (15, i64 v10), (16, b true), (19, optr 3 1 2), (20, oref 2 u5 0 L7.length), (21, optr 0 0 0), (22, i64 r17), (23, i64 x20), (24, f32 x21), (25, f32 x22), (26, oref 4 (u6 + 1) 0 1), (27, oref 2 (u5 + 1) 0 (L7.length + 1)), (28, optr 3 1 2)] ∧ DeadLe Γ [⟨0, some [sl a2.length (a2.map (ik .u8)), i64 r18, ik .u64 r19]⟩, ⟨1, some [i64 0, i64 0, nilsl]⟩, ⟨(u5 + 1), some ((L7 ++ ([x22] : List F)).map f32)⟩, ⟨1, some [i64 r1, i64 r2, oref 2 (u5 + 1) 0 (L7.length + 1)]⟩, ⟨(u6 + 1), some (([x22] : List F).map f32)⟩]) ?_ ?_
   ·refine RunC.any (n := 11) rfl mixed ?_
    refine RAny.more (i0 := 0) (l := [2]) (by kernel_rfl) (RAnys.cons rfl ?_ (RAnys.cons rfl ?_ RAnys.nil))
    ·refine zL (r := optr 3 1 2) rfl rfl rfl (LOp.fao und26 rfl siz24 rfl rfl rfl) ?_
     refine zN ?_
     refine RAny.more (i0 := 1) (l := [2]) (by kernel_rfl) (RAnys.cons rfl ?_ (RAnys.cons rfl ?_ RAnys.nil))
     ·refine ROps.d (r := oref 2 u5 0 L7.length) (fs := []) (Γ' := [⟨0, some [sl a2.length (a2.map (ik .u8)), i64 v8, ik .u64 v9]⟩, ⟨1, some [i64 0, i64 0, nilsl]⟩, ⟨u5, some (L7.map f32)⟩, ⟨1, some [i64 r1, i64 r2, oref 2 u5 0 L7.length]⟩, ⟨u6, none⟩]) rfl rfl rfl (TOp.load1_o rfl rfl agg24 rfl rfl) rfl ?_
      refine zN ?_
      refine RAny.more (i0 := 2) (l := []) (by kernel_rfl) (RAnys.cons rfl ?_ RAnys.nil)
      refine zM (r := optr 0 0 0) rfl rfl rfl rfl rfl ?_
      refine zN ?_
      refine RAny.more (i0 := 3) (l := []) (by kernel_rfl) (RAnys.cons rfl ?_ RAnys.nil)
      refine ROps.callO (A := [optr 0 0 0, i64 33]) (args := [optr 0 0 0, i64 33]) (Γc := [⟨0, some [sl a2.length (a2.map (ik .u8)), i64 v8, ik .u64 v9]⟩]) (Γc' := [⟨0, some [sl a2.length (a2.map (ik .u8)), i64 r18, ik .u64 r19]⟩]) (r' := i64 r17) (Γ' := [⟨0, some [sl a2.length (a2.map (ik .u8)), i64 r18, ik .u64 r19]⟩, ⟨1, some [i64 0, i64 0, nilsl]⟩, ⟨u5, some (L7.map f32)⟩, ⟨1, some [i64 r1, i64 r2, oref 2 u5 0 L7.length]⟩, ⟨u6, none⟩]) [(0, 0)] [] rfl (CallAs.func ent112 rfl rfl) rfl rfl (SelOk.of (show List.Nodup [0] from by decide) (SelL.cells0 rfl (by simp [ren, rens, sigma, rens_f32, rens_f64, rens_i64, rens_ik, rens_str, rens_cp]) (lts_cons (lt_slk (fun _ => rfl)) (lts_cons rfl (lts_cons rfl lts_nil))) trivial)) (live_of ⟨⟨_, _, rfl⟩, trivial⟩) (by simp [ren, rens, sigma, rens_f32, rens_f64, rens_i64, rens_ik, rens_str, rens_cp]) rfl (s_l00Src_pick_0p0_C0_ok 33 a2 v8 v9 r17 r18 r19 hf9) rfl (news_of trivial) (show List.Nodup [0] from by decide) (by simp [ren, rens, sigma]) (by simp [backOb, sigma, ren, rens, rens_f32, rens_f64, rens_i64, rens_ik, rens_str, rens_cp]) ?_
      refine zN ?_
      refine RAny.more (i0 := 4) (l := []) (by kernel_rfl) (RAnys.cons rfl ?_ RAnys.nil)
      refine zL (r := i64 x20) rfl rfl rfl (LOp.eqr (LOp.sub rfl rfl rfl) (congrArg (ik .i64) hx10)) ?_
      refine zN ?_
      refine RAny.more (i0 := 5) (l := []) (by kernel_rfl) (RAnys.cons rfl ?_ RAnys.nil)
      refine zL (r := f32 x21) rfl rfl rfl (LOp.eqr (LOp.i2f (src := 2) (dst := 36) ⟨_, pun2⟩ pun36 rfl rfl) (congrArg (f .f32) hx11)) ?_
      refine zN ?_
      refine RAny.more (i0 := 6) (l := []) (by kernel_rfl) (RAnys.cons rfl ?_ RAnys.nil)
      refine ROps.d (r := f32 x22) (fs := []) (Γ' := [⟨0, some [sl a2.length (a2.map (ik .u8)), i64 r18, ik .u64 r19]⟩, ⟨1, some [i64 0, i64 0, nilsl]⟩, ⟨u5, some (L7.map f32)⟩, ⟨1, some [i64 r1, i64 r2, oref 2 u5 0 L7.length]⟩, ⟨u6, none⟩]) rfl rfl rfl (TOp.eqr (TOp.fop (.inr (.inr (.inr rfl))) rfl (OpF.tmp rfl) (OpF.const rfl (by kernel_rfl) (by kernel_rfl))) (congrArg (f .f32) hx12)) rfl ?_
      refine zN ?_
      refine RAny.more (i0 := 7) (l := []) (by kernel_rfl) (RAnys.cons rfl ?_ RAnys.nil)
      refine ROps.d (r := oref 4 (u6 + 1) 0 1) (fs := [(4, (([x22] : List F).map f32))]) (Γ' := [⟨0, some [sl a2.length (a2.map (ik .u8)), i64 r18, ik .u64 r19]⟩, ⟨1, some [i64 0, i64 0, nilsl]⟩, ⟨u5, some (L7.map f32)⟩, ⟨1, some [i64 r1, i64 r2, oref 2 u5 0 L7.length]⟩, ⟨(u6 + 1), some (([x22] : List F).map f32)⟩]) rfl rfl rfl (TOp.buildSlice_o (g := ⟨u6, none⟩) (za := f32 (some 0)) (qs := [(0, [f32 x22])]) 4 rfl und24 siz36 zer36 rfl zel36 rfl rfl ⟨rfl, ⟨_, ALe.refl _, rfl⟩, trivial⟩ rfl) rfl ?_
      refine zN ?_
      refine RAny.more (i0 := 8) (l := []) (by kernel_rfl) (RAnys.cons rfl ?_ RAnys.nil)
      refine ROps.app (f := f32) (xs := L7) (ys := ([x22] : List F)) (Γ' := [⟨0, some [sl a2.length (a2.map (ik .u8)), i64 r18, ik .u64 r19]⟩, ⟨1, some [i64 0, i64 0, nilsl]⟩, ⟨(u5 + 1), some ((L7 ++ ([x22] : List F)).map f32)⟩, ⟨1, some [i64 r1, i64 r2, oref 2 u5 0 L7.length]⟩, ⟨(u6 + 1), some (([x22] : List F).map f32)⟩]) rfl pun24 inf36 rfl rfl rfl rfl rfl rfl rfl rfl rfl (by simp) (ReadAs.own rfl (by simp)) (ones_map (fun _ => rfl)) (ap_by hm13) (ap_mx hm13) rfl ?_
      refine zN ?_
      refine RAny.more (i0 := 9) (l := []) (by kernel_rfl) (RAnys.cons rfl ?_ RAnys.nil)
      refine zL (r := optr 3 1 2) rfl rfl rfl (LOp.fao und26 rfl siz24 rfl rfl rfl) ?_
      refine zN ?_
      refine RAny.more (i0 := 10) (l := []) (by kernel_rfl) (RAnys.cons rfl ?_ RAnys.nil)
      refine ROps.store_le (r := oref 2 (u5 + 1) 0 (L7.length + 1)) (l' := [i64 r1, i64 r2, oref 2 (u5 + 1) 0 (L7.length + 1)]) (Γ' := [⟨0, some [sl a2.length (a2.map (ik .u8)), i64 r18, ik .u64 r19]⟩, ⟨1, some [i64 0, i64 0, nilsl]⟩, ⟨(u5 + 1), some ((L7 ++ ([x22] : List F)).map f32)⟩, ⟨1, some [i64 r1, i64 r2, oref 2 (u5 + 1) 0 (L7.length + 1)]⟩, ⟨(u6 + 1), some (([x22] : List F).map f32)⟩]) rfl siz24 rfl rfl rfl aR rfl rfl rfl rfl (Nat.le_of_ble_eq_true rfl) rfl rfl ?_
      refine zN ?_
      refine RAny.done (by kernel_rfl) ?_
      exact ⟨⟨aR, aR, aR, aR, aR, aR, aR, aR, aR, aR, aR, aR, aR, aR, aR, aR, trivial⟩, ⟨⟨rfl, .inr rfl⟩, ⟨rfl, .inr rfl⟩, ⟨rfl, .inr rfl⟩, ⟨rfl, .inr rfl⟩, ⟨rfl, .inr rfl⟩, trivial⟩⟩
     ·refine zM (r := optr 0 0 0) rfl rfl rfl rfl rfl ?_
      refine zN ?_
      refine RAny.more (i0 := 1) (l := [3]) (by kernel_rfl) (RAnys.cons rfl ?_ (RAnys.cons rfl ?_ RAnys.nil))
      ·refine ROps.d (r := oref 2 u5 0 L7.length) (fs := []) (Γ' := [⟨0, some [sl a2.length (a2.map (ik .u8)), i64 v8, ik .u64 v9]⟩, ⟨1, some [i64 0, i64 0, nilsl]⟩, ⟨u5, some (L7.map f32)⟩, ⟨1, some [i64 r1, i64 r2, oref 2 u5 0 L7.length]⟩, ⟨u6, none⟩]) rfl rfl rfl (TOp.load1_o rfl rfl agg24 rfl rfl) rfl ?_
       refine zN ?_
       refine RAny.more (i0 := 3) (l := []) (by kernel_rfl) (RAnys.cons rfl ?_ RAnys.nil)
       refine ROps.callO (A := [optr 0 0 0, i64 33]) (args := [optr 0 0 0, i64 33]) (Γc := [⟨0, some [sl a2.length (a2.map (ik .u8)), i64 v8, ik .u64 v9]⟩]) (Γc' := [⟨0, some [sl a2.length (a2.map (ik .u8)), i64 r18, ik .u64 r19]⟩]) (r' := i64 r17) (Γ' := [⟨0, some [sl a2.length (a2.map (ik .u8)), i64 r18, ik .u64 r19]⟩, ⟨1, some [i64 0, i64 0, nilsl]⟩, ⟨u5, some (L7.map f32)⟩, ⟨1, some [i64 r1, i64 r2, oref 2 u5 0 L7.length]⟩, ⟨u6, none⟩]) [(0, 0)] [] rfl (CallAs.func ent112 rfl rfl) rfl rfl (SelOk.of (show List.Nodup [0] from by decide) (SelL.cells0 rfl (by simp [ren, rens, sigma, rens_f32, rens_f64, rens_i64, rens_ik, rens_str, rens_cp]) (lts_cons (lt_slk (fun _ => rfl)) (lts_cons rfl (lts_cons rfl lts_nil))) trivial)) (live_of ⟨⟨_, _, rfl⟩, trivial⟩) (by simp [ren, rens, sigma, rens_f32, rens_f64, rens_i64, rens_ik, rens_str, rens_cp]) rfl (s_l00Src_pick_0p0_C0_ok 33 a2 v8 v9 r17 r18 r19 hf9) rfl (news_of trivial) (show List.Nodup [0] from by decide) (by simp [ren, rens, sigma]) (by simp [backOb, sigma, ren, rens, rens_f32, rens_f64, rens_i64, rens_ik, rens_str, rens_cp]) ?_
       refine zN ?_
       refine RAny.more (i0 := 4) (l := []) (by kernel_rfl) (RAnys.cons rfl ?_ RAnys.nil)
       refine zL (r := i64 x20) rfl rfl rfl (LOp.eqr (LOp.sub rfl rfl rfl) (congrArg (ik .i64) hx10)) ?_
       refine zN ?_
       refine RAny.more (i0 := 5) (l := []) (by kernel_rfl) (RAnys.cons rfl ?_ RAnys.nil)
       refine zL (r := f32 x21) rfl rfl rfl (LOp.eqr (LOp.i2f (src := 2) (dst := 36) ⟨_, pun2⟩ pun36 rfl rfl) (congrArg (f .f32) hx11)) ?_
       refine zN ?_
       refine RAny.more (i0 := 6) (l := []) (by kernel_rfl) (RAnys.cons rfl ?_ RAnys.nil)
       refine ROps.d (r := f32 x22) (fs := []) (Γ' := [⟨0, some [sl a2.length (a2.map (ik .u8)), i64 r18, ik .u64 r19]⟩, ⟨1, some [i64 0, i64 0, nilsl]⟩, ⟨u5, some (L7.map f32)⟩, ⟨1, some [i64 r1, i64 r2, oref 2 u5 0 L7.length]⟩, ⟨u6, none⟩]) rfl rfl rfl (TOp.eqr (TOp.fop (.inr (.inr (.inr rfl))) rfl (OpF.tmp rfl) (OpF.const rfl (by kernel_rfl) (by kernel_rfl))) (congrArg (f .f32) hx12)) rfl ?_
       refine zN ?_
       refine RAny.more (i0 := 7) (l := []) (by kernel_rfl) (RAnys.cons rfl ?_ RAnys.nil)
       refine ROps.d (r := oref 4 (u6 + 1) 0 1) (fs := [(4, (([x22] : List F).map f32))]) (Γ' := [⟨0, some [sl a2.length (a2.map (ik .u8)), i64 r18, ik .u64 r19]⟩, ⟨1, some [i64 0, i64 0, nilsl]⟩, ⟨u5, some (L7.map f32)⟩, ⟨1, some [i64 r1, i64 r2, oref 2 u5 0 L7.length]⟩, ⟨(u6 + 1), some (([x22] : List F).map f32)⟩]) rfl rfl rfl (TOp.buildSlice_o (g := ⟨u6, none⟩) (za := f32 (some 0)) (qs := [(0, [f32 x22])]) 4 rfl und24 siz36 zer36 rfl zel36 rfl rfl ⟨rfl, ⟨_, ALe.refl _, rfl⟩, trivial⟩ rfl) rfl ?_
       refine zN ?_
       refine RAny.more (i0 := 8) (l := []) (by kernel_rfl) (RAnys.cons rfl ?_ RAnys.nil)
       refine ROps.app (f := f32) (xs := L7) (ys := ([x22] : List F)) (Γ' := [⟨0, some [sl a2.length (a2.map (ik .u8)), i64 r18, ik .u64 r19]⟩, ⟨1, some [i64 0, i64 0, nilsl]⟩, ⟨(u5 + 1), some ((L7 ++ ([x22] : List F)).map f32)⟩, ⟨1, some [i64 r1, i64 r2, oref 2 u5 0 L7.length]⟩, ⟨(u6 + 1), some (([x22] : List F).map f32)⟩]) rfl pun24 inf36 rfl rfl rfl rfl rfl rfl rfl rfl rfl (by simp) (ReadAs.own rfl (by simp)) (ones_map (fun _ => rfl)) (ap_by hm13) (ap_mx hm13) rfl ?_
       refine zN ?_
       refine RAny.more (i0 := 9) (l := []) (by kernel_rfl) (RAnys.cons rfl ?_ RAnys.nil)
       refine zL (r := optr 3 1 2) rfl rfl rfl (LOp.fao und26 rfl siz24 rfl rfl rfl) ?_
       refine zN ?_
       refine RAny.more (i0 := 10) (l := []) (by kernel_rfl) (RAnys.cons rfl ?_ RAnys.nil)
       refine ROps.store_le (r := oref 2 (u5 + 1) 0 (L7.length + 1)) (l' := [i64 r1, i64 r2, oref 2 (u5 + 1) 0 (L7.length + 1)]) (Γ' := [⟨0, some [sl a2.length (a2.map (ik .u8)), i64 r18, ik .u64 r19]⟩, ⟨1, some [i64 0, i64 0, nilsl]⟩, ⟨(u5 + 1), some ((L7 ++ ([x22] : List F)).map f32)⟩, ⟨1, some [i64 r1, i64 r2, oref 2 (u5 + 1) 0 (L7.length + 1)]⟩, ⟨(u6 + 1), some (([x22] : List F).map f32)⟩]) rfl siz24 rfl rfl rfl aR rfl rfl rfl rfl (Nat.le_of_ble_eq_true rfl) rfl rfl ?_
       refine zN ?_
       refine RAny.done (by kernel_rfl) ?_
       exact ⟨⟨aR, aR, aR, aR, aR, aR, aR, aR, aR, aR, aR, aR, aR, aR, aR, aR, trivial⟩, ⟨⟨rfl, .inr rfl⟩, ⟨rfl, .inr rfl⟩, ⟨rfl, .inr rfl⟩, ⟨rfl, .inr rfl⟩, ⟨rfl, .inr rfl⟩, trivial⟩⟩
      ·refine ROps.callO (A := [optr 0 0 0, i64 33]) (args := [optr 0 0 0, i64 33]) (Γc := [⟨0, some [sl a2.length (a2.map (ik .u8)), i64 v8, ik .u64 v9]⟩]) (Γc' := [⟨0, some [sl a2.length (a2.map (ik .u8)), i64 r18, ik .u64 r19]⟩]) (r' := i64 r17) (Γ' := [⟨0, some [sl a2.length (a2.map (ik .u8)), i64 r18, ik .u64 r19]⟩, ⟨1, some [i64 0, i64 0, nilsl]⟩, ⟨u5, some (L7.map f32)⟩, ⟨1, some [i64 r1, i64 r2, oref 2 u5 0 L7.length]⟩, ⟨u6, none⟩]) [(0, 0)] [] rfl (CallAs.func ent112 rfl rfl) rfl rfl (SelOk.of (show List.Nodup [0] from by decide) (SelL.cells0 rfl (by simp [ren, rens, sigma, rens_f32, rens_f64, rens_i64, rens_ik, rens_str, rens_cp]) (lts_cons (lt_slk (fun _ => rfl)) (lts_cons rfl (lts_cons rfl lts_nil))) trivial)) (live_of ⟨⟨_, _, rfl⟩, trivial⟩) (by simp [ren, rens, sigma, rens_f32, rens_f64, rens_i64, rens_ik, rens_str, rens_cp]) rfl (s_l00Src_pick_0p0_C0_ok 33 a2 v8 v9 r17 r18 r19 hf9) rfl (news_of trivial) (show List.Nodup [0] from by decide) (by simp [ren, rens, sigma]) (by simp [backOb, sigma, ren, rens, rens_f32, rens_f64, rens_i64, rens_ik, rens_str, rens_cp]) ?_
       refine zN ?_
       refine RAny.more (i0 := 1) (l := [4]) (by kernel_rfl) (RAnys.cons rfl ?_ (RAnys.cons rfl ?_ RAnys.nil))
       ·refine ROps.d (r := oref 2 u5 0 L7.length) (fs := []) (Γ' := [⟨0, some [sl a2.length (a2.map (ik .u8)), i64 r18, ik .u64 r19]⟩, ⟨1, some [i64 0, i64 0, nilsl]⟩, ⟨u5, some (L7.map f32)⟩, ⟨1, some [i64 r1, i64 r2, oref 2 u5 0 L7.length]⟩, ⟨u6, none⟩]) rfl rfl rfl (TOp.load1_o rfl rfl agg24 rfl rfl) rfl ?_
        refine zN ?_
        refine RAny.more (i0 := 4) (l := []) (by kernel_rfl) (RAnys.cons rfl ?_ RAnys.nil)
        refine zL (r := i64 x20) rfl rfl rfl (LOp.eqr (LOp.sub rfl rfl rfl) (congrArg (ik .i64) hx10)) ?_
        refine zN ?_
        refine RAny.more (i0 := 5) (l := []) (by kernel_rfl) (RAnys.cons rfl ?_ RAnys.nil)
        refine zL (r := f32 x21) rfl rfl rfl (LOp.eqr (LOp.i2f (src := 2) (dst := 36) ⟨_, pun2⟩ pun36 rfl rfl) (congrArg (f .f32) hx11)) ?_
        refine zN ?_
        refine RAny.more (i0 := 6) (l := []) (by kernel_rfl) (RAnys.cons rfl ?_ RAnys.nil)
        refine ROps.d (r := f32 x22) (fs := []) (Γ' := [⟨0, some [sl a2.length (a2.map (ik .u8)), i64 r18, ik .u64 r19]⟩, ⟨1, some [i64 0, i64 0, nilsl]⟩, ⟨u5, some (L7.map f32)⟩, ⟨1, some [i64 r1, i64 r2, oref 2 u5 0 L7.length]⟩, ⟨u6, none⟩]) rfl rfl rfl (TOp.eqr (TOp.fop (.inr (.inr (.inr rfl))) rfl (OpF.tmp rfl) (OpF.const rfl (by kernel_rfl) (by kernel_rfl))) (congrArg (f .f32) hx12)) rfl ?_
        refine zN ?_
        refine RAny.more (i0 := 7) (l := []) (by kernel_rfl) (RAnys.cons rfl ?_ RAnys.nil)
        refine ROps.d (r := oref 4 (u6 + 1) 0 1) (fs := [(4, (([x22] : List F).map f32))]) (Γ' := [⟨0, some [sl a2.length (a2.map (ik .u8)), i64 r18, ik .u64 r19]⟩, ⟨1, some [i64 0, i64 0, nilsl]⟩, ⟨u5, some (L7.map f32)⟩, ⟨1, some [i64 r1, i64 r2, oref 2 u5 0 L7.length]⟩, ⟨(u6 + 1), some (([x22] : List F).map f32)⟩]) rfl rfl rfl (TOp.buildSlice_o (g := ⟨u6, none⟩) (za := f32 (some 0)) (qs := [(0, [f32 x22])]) 4 rfl und24 siz36 zer36 rfl zel36 rfl rfl ⟨rfl, ⟨_, ALe.refl _, rfl⟩, trivial⟩ rfl) rfl ?_
        refine zN ?_
        refine RAny.more (i0 := 8) (l := []) (by kernel_rfl) (RAnys.cons rfl ?_ RAnys.nil)
        refine ROps.app (f := f32) (xs := L7) (ys := ([x22] : List F)) (Γ' := [⟨0, some [sl a2.length (a2.map (ik .u8)), i64 r18, ik .u64 r19]⟩, ⟨1, some [i64 0, i64 0, nilsl]⟩, ⟨(u5 + 1), some ((L7 ++ ([x22] : List F)).map f32)⟩, ⟨1, some [i64 r1, i64 r2, oref 2 u5 0 L7.length]⟩, ⟨(u6 + 1), some (([x22] : List F).map f32)⟩]) rfl pun24 inf36 rfl rfl rfl rfl rfl rfl rfl rfl rfl (by simp) (ReadAs.own rfl (by simp)) (ones_map (fun _ => rfl)) (ap_by hm13) (ap_mx hm13) rfl ?_
        refine zN ?_
        refine RAny.more (i0 := 9) (l := []) (by kernel_rfl) (RAnys.cons rfl ?_ RAnys.nil)
        refine zL (r := optr 3 1 2) rfl rfl rfl (LOp.fao und26 rfl siz24 rfl rfl rfl) ?_
        refine zN ?_
        refine RAny.more (i0 := 10) (l := []) (by kernel_rfl) (RAnys.cons rfl ?_ RAnys.nil)
        refine ROps.store_le (r := oref 2 (u5 + 1) 0 (L7.length + 1)) (l' := [i64 r1, i64 r2, oref 2 (u5 + 1) 0 (L7.length + 1)]) (Γ' := [⟨0, some [sl a2.length (a2.map (ik .u8)), i64 r18, ik .u64 r19]⟩, ⟨1, some [i64 0, i64 0, nilsl]⟩, ⟨(u5 + 1), some ((L7 ++ ([x22] : List F)).map f32)⟩, ⟨1, some [i64 r1, i64 r2, oref 2 (u5 + 1) 0 (L7.length + 1)]⟩, ⟨(u6 + 1), some (([x22] : List F).map f32)⟩]) rfl siz24 rfl rfl rfl aR rfl rfl rfl rfl (Nat.le_of_ble_eq_true rfl) rfl rfl ?_
        refine zN ?_
        refine RAny.done (by kernel_rfl) ?_
        exact ⟨⟨aR, aR, aR, aR, aR, aR, aR, aR, aR, aR, aR, aR, aR, aR, aR, aR, trivial⟩, ⟨⟨rfl, .inr rfl⟩, ⟨rfl, .inr rfl⟩, ⟨rfl, .inr rfl⟩, ⟨rfl, .inr rfl⟩, ⟨rfl, .inr rfl⟩, trivial⟩⟩
       ·refine zL (r := i64 x20) rfl rfl rfl (LOp.eqr (LOp.sub rfl rfl rfl) (congrArg (ik .i64) hx10)) ?_
        refine zN ?_
        refine RAny.more (i0 := 1) (l := [5]) (by kernel_rfl) (RAnys.cons rfl ?_ (RAnys.cons rfl ?_ RAnys.nil))
        ·refine ROps.d (r := oref 2 u5 0 L7.length) (fs := []) (Γ' := [⟨0, some [sl a2.length (a2.map (ik .u8)), i64 r18, ik .u64 r19]⟩, ⟨1, some [i64 0, i64 0, nilsl]⟩, ⟨u5, some (L7.map f32)⟩, ⟨1, some [i64 r1, i64 r2, oref 2 u5 0 L7.length]⟩, ⟨u6, none⟩]) rfl rfl rfl (TOp.load1_o rfl rfl agg24 rfl rfl) rfl ?_
         refine zN ?_
         refine RAny.more (i0 := 5) (l := []) (by kernel_rfl) (RAnys.cons rfl ?_ RAnys.nil)
         refine zL (r := f32 x21) rfl rfl rfl (LOp.eqr (LOp.i2f (src := 2) (dst := 36) ⟨_, pun2⟩ pun36 rfl rfl) (congrArg (f .f32) hx11)) ?_
         refine zN ?_
         refine RAny.more (i0 := 6) (l := []) (by kernel_rfl) (RAnys.cons rfl ?_ RAnys.nil)
         refine ROps.d (r := f32 x22) (fs := []) (Γ' := [⟨0, some [sl a2.length (a2.map (ik .u8)), i64 r18, ik .u64 r19]⟩, ⟨1, some [i64 0, i64 0, nilsl]⟩, ⟨u5, some (L7.map f32)⟩, ⟨1, some [i64 r1, i64 r2, oref 2 u5 0 L7.length]⟩, ⟨u6, none⟩]) rfl rfl rfl (TOp.eqr (TOp.fop (.inr (.inr (.inr rfl))) rfl (OpF.tmp rfl) (OpF.const rfl (by kernel_rfl) (by kernel_rfl))) (congrArg (f .f32) hx12)) rfl ?_
         refine zN ?_
         refine RAny.more (i0 := 7) (l := []) (by kernel_rfl) (RAnys.cons rfl ?_ RAnys.nil)
         refine ROps.d (r := oref 4 (u6 + 1) 0 1) (fs := [(4, (([x22] : List F).map f32))]) (Γ' := [⟨0, some [sl a2.length (a2.map (ik .u8)), i64 r18, ik .u64 r19]⟩, ⟨1, some [i64 0, i64 0, nilsl]⟩, ⟨u5, some (L7.map f32)⟩, ⟨1, some [i64 r1, i64 r2, oref 2 u5 0 L7.length]⟩, ⟨(u6 + 1), some (([x22] : List F).map f32)⟩]) rfl rfl rfl (TOp.buildSlice_o (g := ⟨u6, none⟩) (za := f32 (some 0)) (qs := [(0, [f32 x22])]) 4 rfl und24 siz36 zer36 rfl zel36 rfl rfl ⟨rfl, ⟨_, ALe.refl _, rfl⟩, trivial⟩ rfl) rfl ?_
         refine zN ?_
         refine RAny.more (i0 := 8) (l := []) (by kernel_rfl) (RAnys.cons rfl ?_ RAnys.nil)
         refine ROps.app (f := f32) (xs := L7) (ys := ([x22] : List F)) (Γ' := [⟨0, some [sl a2.length (a2.map (ik .u8)), i64 r18, ik .u64 r19]⟩, ⟨1, some [i64 0, i64 0, nilsl]⟩, ⟨(u5 + 1), some ((L7 ++ ([x22] : List F)).map f32)⟩, ⟨1, some [i64 r1, i64 r2, oref 2 u5 0 L7.length]⟩, ⟨(u6 + 1), some (([x22] : List F).map f32)⟩]) rfl pun24 inf36 rfl rfl rfl rfl rfl rfl rfl rfl rfl (by simp) (ReadAs.own rfl (by simp)) (ones_map (fun _ => rfl)) (ap_by hm13) (ap_mx hm13) rfl ?_
         refine zN ?_
         refine RAny.more (i0 := 9) (l := []) (by kernel_rfl) (RAnys.cons rfl ?_ RAnys.nil)
         refine zL (r := optr 3 1 2) rfl rfl rfl (LOp.fao und26 rfl siz24 rfl rfl rfl) ?_
         refine zN ?_
         refine RAny.more (i0 := 10) (l := []) (by kernel_rfl) (RAnys.cons rfl ?_ RAnys.nil)
         refine ROps.store_le (r := oref 2 (u5 + 1) 0 (L7.length + 1)) (l' := [i64 r1, i64 r2, oref 2 (u5 + 1) 0 (L7.length + 1)]) (Γ' := [⟨0, some [sl a2.length (a2.map (ik .u8)), i64 r18, ik .u64 r19]⟩, ⟨1, some [i64 0, i64 0, nilsl]⟩, ⟨(u5 + 1), some ((L7 ++ ([x22] : List F)).map f32)⟩, ⟨1, some [i64 r1, i64 r2, oref 2 (u5 + 1) 0 (L7.length + 1)]⟩, ⟨(u6 + 1), some (([x22] : List F).map f32)⟩]) rfl siz24 rfl rfl rfl aR rfl rfl rfl rfl (Nat.le_of_ble_eq_true rfl) rfl rfl ?_
         refine zN ?_
         refine RAny.done (by kernel_rfl) ?_
         exact ⟨⟨aR, aR, aR, aR, aR, aR, aR, aR, aR, aR, aR, aR, aR, aR, aR, aR, trivial⟩, ⟨⟨rfl, .inr rfl⟩, ⟨rfl, .inr rfl⟩, ⟨rfl, .inr rfl⟩, ⟨rfl, .inr rfl⟩, ⟨rfl, .inr rfl⟩, trivial⟩⟩
        ·refine zL (r := f32 x21) rfl rfl rfl (LOp.eqr (LOp.i2f (src := 2) (dst := 36) ⟨_, pun2⟩ pun36 rfl rfl) (congrArg (f .f32) hx11)) ?_
         refine zN ?_
         refine RAny.more (i0 := 1) (l := [6]) (by kernel_rfl) (RAnys.cons rfl ?_ (RAnys.cons rfl ?_ RAnys.nil))
         ·refine ROps.d (r := oref 2 u5 0 L7.length) (fs := []) (Γ' := [⟨0, some [sl a2.length (a2.map (ik .u8)), i64 r18, ik .u64 r19]⟩, ⟨1, some [i64 0, i64 0, nilsl]⟩, ⟨u5, some (L7.map f32)⟩, ⟨1, some [i64 r1, i64 r2, oref 2 u5 0 L7.length]⟩, ⟨u6, none⟩]) rfl rfl rfl (TOp.load1_o rfl rfl agg24 rfl rfl) rfl ?_
          refine zN ?_
          refine RAny.more (i0 := 6) (l := []) (by kernel_rfl) (RAnys.cons rfl ?_ RAnys.nil)
          refine ROps.d (r := f32 x22) (fs := []) (Γ' := [⟨0, some [sl a2.length (a2.map (ik .u8)), i64 r18, ik .u64 r19]⟩, ⟨1, some [i64 0, i64 0, nilsl]⟩, ⟨u5, some (L7.map f32)⟩, ⟨1, some [i64 r1, i64 r2, oref 2 u5 0 L7.length]⟩, ⟨u6, none⟩]) rfl rfl rfl (TOp.eqr (TOp.fop (.inr (.inr (.inr rfl))) rfl (OpF.tmp rfl) (OpF.const rfl (by kernel_rfl) (by kernel_rfl))) (congrArg (f .f32) hx12)) rfl ?_
          refine zN ?_
          refine RAny.more (i0 := 7) (l := []) (by kernel_rfl) (RAnys.cons rfl ?_ RAnys.nil)
          refine ROps.d (r := oref 4 (u6 + 1) 0 1) (fs := [(4, (([x22] : List F).map f32))]) (Γ' := [⟨0, some [sl a2.length (a2.map (ik .u8)), i64 r18, ik .u64 r19]⟩, ⟨1, some [i64 0, i64 0, nilsl]⟩, ⟨u5, some (L7.map f32)⟩, ⟨1, some [i64 r1, i64 r2, oref 2 u5 0 L7.length]⟩, ⟨(u6 + 1), some (([x22] : List F).map f32)⟩]) rfl rfl rfl (TOp.buildSlice_o (g := ⟨u6, none⟩) (za := f32 (some 0)) (qs := [(0, [f32 x22])]) 4 rfl und24 siz36 zer36 rfl zel36 rfl rfl ⟨rfl, ⟨_, ALe.refl _, rfl⟩, trivial⟩ rfl) rfl ?_
          refine zN ?_
          refine RAny.more (i0 := 8) (l := []) (by kernel_rfl) (RAnys.cons rfl ?_ RAnys.nil)
          refine ROps.app (f := f32) (xs := L7) (ys := ([x22] : List F)) (Γ' := [⟨0, some [sl a2.length (a2.map (ik .u8)), i64 r18, ik .u64 r19]⟩, ⟨1, some [i64 0, i64 0, nilsl]⟩, ⟨(u5 + 1), some ((L7 ++ ([x22] : List F)).map f32)⟩, ⟨1, some [i64 r1, i64 r2, oref 2 u5 0 L7.length]⟩, ⟨(u6 + 1), some (([x22] : List F).map f32)⟩]) rfl pun24 inf36 rfl rfl rfl rfl rfl rfl rfl rfl rfl (by simp) (ReadAs.own rfl (by simp)) (ones_map (fun _ => rfl)) (ap_by hm13) (ap_mx hm13) rfl ?_
          refine zN ?_
          refine RAny.more (i0 := 9) (l := []) (by kernel_rfl) (RAnys.cons rfl ?_ RAnys.nil)
          refine zL (r := optr 3 1 2) rfl rfl rfl (LOp.fao und26 rfl siz24 rfl rfl rfl) ?_
          refine zN ?_
          refine RAny.more (i0 := 10) (l := []) (by kernel_rfl) (RAnys.cons rfl ?_ RAnys.nil)
          refine ROps.store_le (r := oref 2 (u5 + 1) 0 (L7.length + 1)) (l' := [i64 r1, i64 r2, oref 2 (u5 + 1) 0 (L7.length + 1)]) (Γ' := [⟨0, some [sl a2.length (a2.map (ik .u8)), i64 r18, ik .u64 r19]⟩, ⟨1, some [i64 0, i64 0, nilsl]⟩, ⟨(u5 + 1), some ((L7 ++ ([x22] : List F)).map f32)⟩, ⟨1, some [i64 r1, i64 r2, oref 2 (u5 + 1) 0 (L7.length + 1)]⟩, ⟨(u6 + 1), some (([x22] : List F).map f32)⟩]) rfl siz24 rfl rfl rfl aR rfl rfl rfl rfl (Nat.le_of_ble_eq_true rfl) rfl rfl ?_
          refine zN ?_
          refine RAny.done (by kernel_rfl) ?_
          exact ⟨⟨aR, aR, aR, aR, aR, aR, aR, aR, aR, aR, aR, aR, aR, aR, aR, aR, trivial⟩, ⟨⟨rfl, .inr rfl⟩, ⟨rfl, .inr rfl⟩, ⟨rfl, .inr rfl⟩, ⟨rfl, .inr rfl⟩, ⟨rfl, .inr rfl⟩, trivial⟩⟩
         ·refine ROps.d (r := f32 x22) (fs := []) (Γ' := [⟨0, some [sl a2.length (a2.map (ik .u8)), i64 r18, ik .u64 r19]⟩, ⟨1, some [i64 0, i64 0, nilsl]⟩, ⟨u5, some (L7.map f32)⟩, ⟨1, some [i64 r1, i64 r2, oref 2 u5 0 L7.length]⟩, ⟨u6, none⟩]) rfl rfl rfl (TOp.eqr (TOp.fop (.inr (.inr (.inr rfl))) rfl (OpF.tmp rfl) (OpF.const rfl (by kernel_rfl) (by kernel_rfl))) (congrArg (f .f32) hx12)) rfl ?_
          refine zN ?_
          refine RAny.more (i0 := 1) (l := [7]) (by kernel_rfl) (RAnys.cons rfl ?_ (RAnys.cons rfl ?_ RAnys.nil))
          ·refine ROps.d (r := oref 2 u5 0 L7.length) (fs := []) (Γ' := [⟨0, some [sl a2.length (a2.map (ik .u8)), i64 r18, ik .u64 r19]⟩, ⟨1, some [i64 0, i64 0, nilsl]⟩, ⟨u5, some (L7.map f32)⟩, ⟨1, some [i64 r1, i64 r2, oref 2 u5 0 L7.length]⟩, ⟨u6, none⟩]) rfl rfl rfl (TOp.load1_o rfl rfl agg24 rfl rfl) rfl ?_
           refine zN ?_
           refine RAny.more (i0 := 7) (l := []) (by kernel_rfl) (RAnys.cons rfl ?_ RAnys.nil)
           refine ROps.d (r := oref 4 (u6 + 1) 0 1) (fs := [(4, (([x22] : List F).map f32))]) (Γ' := [⟨0, some [sl a2.length (a2.map (ik .u8)), i64 r18, ik .u64 r19]⟩, ⟨1, some [i64 0, i64 0, nilsl]⟩, ⟨u5, some (L7.map f32)⟩, ⟨1, some [i64 r1, i64 r2, oref 2 u5 0 L7.length]⟩, ⟨(u6 + 1), some (([x22] : List F).map f32)⟩]) rfl rfl rfl (TOp.buildSlice_o (g := ⟨u6, none⟩) (za := f32 (some 0)) (qs := [(0, [f32 x22])]) 4 rfl und24 siz36 zer36 rfl zel36 rfl rfl ⟨rfl, ⟨_, ALe.refl _, rfl⟩, trivial⟩ rfl) rfl ?_
           refine zN ?_
           refine RAny.more (i0 := 8) (l := []) (by kernel_rfl) (RAnys.cons rfl ?_ RAnys.nil)
           refine ROps.app (f := f32) (xs := L7) (ys := ([x22] : List F)) (Γ' := [⟨0, some [sl a2.length (a2.map (ik .u8)), i64 r18, ik .u64 r19]⟩, ⟨1, some [i64 0, i64 0, nilsl]⟩, ⟨(u5 + 1), some ((L7 ++ ([x22] : List F)).map f32)⟩, ⟨1, some [i64 r1, i64 r2, oref 2 u5 0 L7.length]⟩, ⟨(u6 + 1), some (([x22] : List F).map f32)⟩]) rfl pun24 inf36 rfl rfl rfl rfl rfl rfl rfl rfl rfl (by simp) (ReadAs.own rfl (by simp)) (ones_map (fun _ => rfl)) (ap_by hm13) (ap_mx hm13) rfl ?_
           refine zN ?_
           refine RAny.more (i0 := 9) (l := []) (by kernel_rfl) (RAnys.cons rfl ?_ RAnys.nil)
           refine zL (r := optr 3 1 2) rfl rfl rfl (LOp.fao und26 rfl siz24 rfl rfl rfl) ?_
           refine zN ?_
           refine RAny.more (i0 := 10) (l := []) (by kernel_rfl) (RAnys.cons rfl ?_ RAnys.nil)
           refine ROps.store_le (r := oref 2 (u5 + 1) 0 (L7.length + 1)) (l' := [i64 r1, i64 r2, oref 2 (u5 + 1) 0 (L7.length + 1)]) (Γ' := [⟨0, some [sl a2.length (a2.map (ik .u8)), i64 r18, ik .u64 r19]⟩, ⟨1, some [i64 0, i64 0, nilsl]⟩, ⟨(u5 + 1), some ((L7 ++ ([x22] : List F)).map f32)⟩, ⟨1, some [i64 r1, i64 r2, oref 2 (u5 + 1) 0 (L7.length + 1)]⟩, ⟨(u6 + 1), some (([x22] : List F).map f32)⟩]) rfl siz24 rfl rfl rfl aR rfl rfl rfl rfl (Nat.le_of_ble_eq_true rfl) rfl rfl ?_
           refine zN ?_
           refine RAny.done (by kernel_rfl) ?_
           exact ⟨⟨aR, aR, aR, aR, aR, aR, aR, aR, aR, aR, aR, aR, aR, aR, aR, aR, trivial⟩, ⟨⟨rfl, .inr rfl⟩, ⟨rfl, .inr rfl⟩, ⟨rfl, .inr rfl⟩, ⟨rfl, .inr rfl⟩, ⟨rfl, .inr rfl⟩, trivial⟩⟩
          ·refine ROps.d (r := oref 4 (u6 + 1) 0 1) (fs := [(4, (([x22] : List F).map f32))]) (Γ' := [⟨0, some [sl a2.length (a2.map (ik .u8)), i64 r18, ik .u64 r19]⟩, ⟨1, some [i64 0, i64 0, nilsl]⟩, ⟨u5, some (L7.map f32)⟩, ⟨1, some [i64 r1, i64 r2, oref 2 u5 0 L7.length]⟩, ⟨(u6 + 1), some (([x22] : List F).map f32)⟩]) rfl rfl rfl (TOp.buildSlice_o (g := ⟨u6, none⟩) (za := f32 (some 0)) (qs := [(0, [f32 x22])]) 4 rfl und24 siz36 zer36 rfl zel36 rfl rfl ⟨rfl, ⟨_, ALe.refl _, rfl⟩, trivial⟩ rfl) rfl ?_
           refine zN ?_
           refine RAny.more (i0 := 1) (l := []) (by kernel_rfl) (RAnys.cons rfl ?_ RAnys.nil)
           refine ROps.d (r := oref 2 u5 0 L7.length) (fs := []) (Γ' := [⟨0, some [sl a2.length (a2.map (ik .u8)), i64 r18, ik .u64 r19]⟩, ⟨1, some [i64 0, i64 0, nilsl]⟩, ⟨u5, some (L7.map f32)⟩, ⟨1, some [i64 r1, i64 r2, oref 2 u5 0 L7.length]⟩, ⟨(u6 + 1), some (([x22] : List F).map f32)⟩]) rfl rfl rfl (TOp.load1_o rfl rfl agg24 rfl rfl) rfl ?_
           refine zN ?_
           refine RAny.more (i0 := 8) (l := []) (by kernel_rfl) (RAnys.cons rfl ?_ RAnys.nil)
           refine ROps.app (f := f32) (xs := L7) (ys := ([x22] : List F)) (Γ' := [⟨0, some [sl a2.length (a2.map (ik .u8)), i64 r18, ik .u64 r19]⟩, ⟨1, some [i64 0, i64 0, nilsl]⟩, ⟨(u5 + 1), some ((L7 ++ ([x22] : List F)).map f32)⟩, ⟨1, some [i64 r1, i64 r2, oref 2 u5 0 L7.length]⟩, ⟨(u6 + 1), some (([x22] : List F).map f32)⟩]) rfl pun24 inf36 rfl rfl rfl rfl rfl rfl rfl rfl rfl (by simp) (ReadAs.own rfl (by simp)) (ones_map (fun _ => rfl)) (ap_by hm13) (ap_mx hm13) rfl ?_
           refine zN ?_
           refine RAny.more (i0 := 9) (l := []) (by kernel_rfl) (RAnys.cons rfl ?_ RAnys.nil)
           refine zL (r := optr 3 1 2) rfl rfl rfl (LOp.fao und26 rfl siz24 rfl rfl rfl) ?_
           refine zN ?_
           refine RAny.more (i0 := 10) (l := []) (by kernel_rfl) (RAnys.cons rfl ?_ RAnys.nil)
           refine ROps.store_le (r := oref 2 (u5 + 1) 0 (L7.length + 1)) (l' := [i64 r1, i64 r2, oref 2 (u5 + 1) 0 (L7.length + 1)]) (Γ' := [⟨0, some [sl a2.length (a2.map (ik .u8)), i64 r18, ik .u64 r19]⟩, ⟨1, some [i64 0, i64 0, nilsl]⟩, ⟨(u5 + 1), some ((L7 ++ ([x22] : List F)).map f32)⟩, ⟨1, some [i64 r1, i64 r2, oref 2 (u5 + 1) 0 (L7.length + 1)]⟩, ⟨(u6 + 1), some (([x22] : List F).map f32)⟩]) rfl siz24 rfl rfl rfl aR rfl rfl rfl rfl (Nat.le_of_ble_eq_true rfl) rfl rfl ?_
           refine zN ?_
           refine RAny.done (by kernel_rfl) ?_
           exact ⟨⟨aR, aR, aR, aR, aR, aR, aR, aR, aR, aR, aR, aR, aR, aR, aR, aR, trivial⟩, ⟨⟨rfl, .inr rfl⟩, ⟨rfl, .inr rfl⟩, ⟨rfl, .inr rfl⟩, ⟨rfl, .inr rfl⟩, ⟨rfl, .inr rfl⟩, trivial⟩⟩
    ·refine zM (r := optr 0 0 0) rfl rfl rfl rfl rfl ?_
     refine zN ?_
     refine RAny.more (i0 := 0) (l := [3]) (by kernel_rfl) (RAnys.cons rfl ?_ (RAnys.cons rfl ?_ RAnys.nil))
     ·refine zL (r := optr 3 1 2) rfl rfl rfl (LOp.fao und26 rfl siz24 rfl rfl rfl) ?_
      refine zN ?_
      refine RAny.more (i0 := 1) (l := [3]) (by kernel_rfl) (RAnys.cons rfl ?_ (RAnys.cons rfl ?_ RAnys.nil))
      ·refine ROps.d (r := oref 2 u5 0 L7.length) (fs := []) (Γ' := [⟨0, some [sl a2.length (a2.map (ik .u8)), i64 v8, ik .u64 v9]⟩, ⟨1, some [i64 0, i64 0, nilsl]⟩, ⟨u5, some (L7.map f32)⟩, ⟨1, some [i64 r1, i64 r2, oref 2 u5 0 L7.length]⟩, ⟨u6, none⟩]) rfl rfl rfl (TOp.load1_o rfl rfl agg24 rfl rfl) rfl ?_
       refine zN ?_
       refine RAny.more (i0 := 3) (l := []) (by kernel_rfl) (RAnys.cons rfl ?_ RAnys.nil)
       refine ROps.callO (A := [optr 0 0 0, i64 33]) (args := [optr 0 0 0, i64 33]) (Γc := [⟨0, some [sl a2.length (a2.map (ik .u8)), i64 v8, ik .u64 v9]⟩]) (Γc' := [⟨0, some [sl a2.length (a2.map (ik .u8)), i64 r18, ik .u64 r19]⟩]) (r' := i64 r17) (Γ' := [⟨0, some [sl a2.length (a2.map (ik .u8)), i64 r18, ik .u64 r19]⟩, ⟨1, some [i64 0, i64 0, nilsl]⟩, ⟨u5, some (L7.map f32)⟩, ⟨1, some [i64 r1, i64 r2, oref 2 u5 0 L7.length]⟩, ⟨u6, none⟩]) [(0, 0)] [] rfl (CallAs.func ent112 rfl rfl) rfl rfl (SelOk.of (show List.Nodup [0] from by decide) (SelL.cells0 rfl (by simp [ren, rens, sigma, rens_f32, rens_f64, rens_i64, rens_ik, rens_str, rens_cp]) (lts_cons (lt_slk (fun _ => rfl)) (lts_cons rfl (lts_cons rfl lts_nil))) trivial)) (live_of ⟨⟨_, _, rfl⟩, trivial⟩) (by simp [ren, rens, sigma, rens_f32, rens_f64, rens_i64, rens_ik, rens_str, rens_cp]) rfl (s_l00Src_pick_0p0_C0_ok 33 a2 v8 v9 r17 r18 r19 hf9) rfl (news_of trivial) (show List.Nodup [0] from by decide) (by simp [ren, rens, sigma]) (by simp [backOb, sigma, ren, rens, rens_f32, rens_f64, rens_i64, rens_ik, rens_str, rens_cp]) ?_
       refine zN ?_
       refine RAny.more (i0 := 4) (l := []) (by kernel_rfl) (RAnys.cons rfl ?_ RAnys.nil)
       refine zL (r := i64 x20) rfl rfl rfl (LOp.eqr (LOp.sub rfl rfl rfl) (congrArg (ik .i64) hx10)) ?_
       refine zN ?_
       refine RAny.more (i0 := 5) (l := []) (by kernel_rfl) (RAnys.cons rfl ?_ RAnys.nil)
       refine zL (r := f32 x21) rfl rfl rfl (LOp.eqr (LOp.i2f (src := 2) (dst := 36) ⟨_, pun2⟩ pun36 rfl rfl) (congrArg (f .f32) hx11)) ?_
       refine zN ?_
       refine RAny.more (i0 := 6) (l := []) (by kernel_rfl) (RAnys.cons rfl ?_ RAnys.nil)
       refine ROps.d (r := f32 x22) (fs := []) (Γ' := [⟨0, some [sl a2.length (a2.map (ik .u8)), i64 r18, ik .u64 r19]⟩, ⟨1, some [i64 0, i64 0, nilsl]⟩, ⟨u5, some (L7.map f32)⟩, ⟨1, some [i64 r1, i64 r2, oref 2 u5 0 L7.length]⟩, ⟨u6, none⟩]) rfl rfl rfl (TOp.eqr (TOp.fop (.inr (.inr (.inr rfl))) rfl (OpF.tmp rfl) (OpF.const rfl (by kernel_rfl) (by kernel_rfl))) (congrArg (f .f32) hx12)) rfl ?_
       refine zN ?_
       refine RAny.more (i0 := 7) (l := []) (by kernel_rfl) (RAnys.cons rfl ?_ RAnys.nil)
       refine ROps.d (r := oref 4 (u6 + 1) 0 1) (fs := [(4, (([x22] : List F).map f32))]) (Γ' := [⟨0, some [sl a2.length (a2.map (ik .u8)), i64 r18, ik .u64 r19]⟩, ⟨1, some [i64 0, i64 0, nilsl]⟩, ⟨u5, some (L7.map f32)⟩, ⟨1, some [i64 r1, i64 r2, oref 2 u5 0 L7.length]⟩, ⟨(u6 + 1), some (([x22] : List F).map f32)⟩]) rfl rfl rfl (TOp.buildSlice_o (g := ⟨u6, none⟩) (za := f32 (some 0)) (qs := [(0, [f32 x22])]) 4 rfl und24 siz36 zer36 rfl zel36 rfl rfl ⟨rfl, ⟨_, ALe.refl _, rfl⟩, trivial⟩ rfl) rfl ?_
       refine zN ?_
       refine RAny.more (i0 := 8) (l := []) (by kernel_rfl) (RAnys.cons rfl ?_ RAnys.nil)
       refine ROps.app (f := f32) (xs := L7) (ys := ([x22] : List F)) (Γ' := [⟨0, some [sl a2.length (a2.map (ik .u8)), i64 r18, ik .u64 r19]⟩, ⟨1, some [i64 0, i64 0, nilsl]⟩, ⟨(u5 + 1), some ((L7 ++ ([x22] : List F)).map f32)⟩, ⟨1, some [i64 r1, i64 r2, oref 2 u5 0 L7.length]⟩, ⟨(u6 + 1), some (([x22] : List F).map f32)⟩]) rfl pun24 inf36 rfl rfl rfl rfl rfl rfl rfl rfl rfl (by simp) (ReadAs.own rfl (by simp)) (ones_map (fun _ => rfl)) (ap_by hm13) (ap_mx hm13) rfl ?_
       refine zN ?_
       refine RAny.more (i0 := 9) (l := []) (by kernel_rfl) (RAnys.cons rfl ?_ RAnys.nil)
       refine zL (r := optr 3 1 2) rfl rfl rfl (LOp.fao und26 rfl siz24 rfl rfl rfl) ?_
       refine zN ?_
       refine RAny.more (i0 := 10) (l := []) (by kernel_rfl) (RAnys.cons rfl ?_ RAnys.nil)
       refine ROps.store_le (r := oref 2 (u5 + 1) 0 (L7.length + 1)) (l' := [i64 r1, i64 r2, oref 2 (u5 + 1) 0 (L7.length + 1)]) (Γ' := [⟨0, some [sl a2.length (a2.map (ik .u8)), i64 r18, ik .u64 r19]⟩, ⟨1, some [i64 0, i64 0, nilsl]⟩, ⟨(u5 + 1), some ((L7 ++ ([x22] : List F)).map f32)⟩, ⟨1, some [i64 r1, i64 r2, oref 2 (u5 + 1) 0 (L7.length + 1)]⟩, ⟨(u6 + 1), some (([x22] : List F).map f32)⟩]) rfl siz24 rfl rfl rfl aR rfl rfl rfl rfl (Nat.le_of_ble_eq_true rfl) rfl rfl ?_
       refine zN ?_
       refine RAny.done (by kernel_rfl) ?_
       exact ⟨⟨aR, aR, aR, aR, aR, aR, aR, aR, aR, aR, aR, aR, aR, aR, aR, aR, trivial⟩, ⟨⟨rfl, .inr rfl⟩, ⟨rfl, .inr rfl⟩, ⟨rfl, .inr rfl⟩, ⟨rfl, .inr rfl⟩, ⟨rfl, .inr rfl⟩, trivial⟩⟩
      ·refine ROps.callO (A := [optr 0 0 0, i64 33]) (args := [optr 0 0 0, i64 33]) (Γc := [⟨0, some [sl a2.length (a2.map (ik .u8)), i64 v8, ik .u64 v9]⟩]) (Γc' := [⟨0, some [sl a2.length (a2.map (ik .u8)), i64 r18, ik .u64 r19]⟩]) (r' := i64 r17) (Γ' := [⟨0, some [sl a2.length (a2.map (ik .u8)), i64 r18, ik .u64 r19]⟩, ⟨1, some [i64 0, i64 0, nilsl]⟩, ⟨u5, some (L7.map f32)⟩, ⟨1, some [i64 r1, i64 r2, oref 2 u5 0 L7.length]⟩, ⟨u6, none⟩]) [(0, 0)] [] rfl (CallAs.func ent112 rfl rfl) rfl rfl (SelOk.of (show List.Nodup [0] from by decide) (SelL.cells0 rfl (by simp [ren, rens, sigma, rens_f32, rens_f64, rens_i64, rens_ik, rens_str, rens_cp]) (lts_cons (lt_slk (fun _ => rfl)) (lts_cons rfl (lts_cons rfl lts_nil))) trivial)) (live_of ⟨⟨_, _, rfl⟩, trivial⟩) (by simp [ren, rens, sigma, rens_f32, rens_f64, rens_i64, rens_ik, rens_str, rens_cp]) rfl (s_l00Src_pick_0p0_C0_ok 33 a2 v8 v9 r17 r18 r19 hf9) rfl (news_of trivial) (show List.Nodup [0] from by decide) (by simp [ren, rens, sigma]) (by simp [backOb, sigma, ren, rens, rens_f32, rens_f64, rens_i64, rens_ik, rens_str, rens_cp]) ?_
       refine zN ?_
       refine RAny.more (i0 := 1) (l := [4]) (by kernel_rfl) (RAnys.cons rfl ?_ (RAnys.cons rfl ?_ RAnys.nil))
       ·refine ROps.d (r := oref 2 u5 0 L7.length) (fs := []) (Γ' := [⟨0, some [sl a2.length (a2.map (ik .u8)), i64 r18, ik .u64 r19]⟩, ⟨1, some [i64 0, i64 0, nilsl]⟩, ⟨u5, some (L7.map f32)⟩, ⟨1, some [i64 r1, i64 r2, oref 2 u5 0 L7.length]⟩, ⟨u6, none⟩]) rfl rfl rfl (TOp.load1_o rfl rfl agg24 rfl rfl) rfl ?_
        refine zN ?_
        refine RAny.more (i0 := 4) (l := []) (by kernel_rfl) (RAnys.cons rfl ?_ RAnys.nil)
        refine zL (r := i64 x20) rfl rfl rfl (LOp.eqr (LOp.sub rfl rfl rfl) (congrArg (ik .i64) hx10)) ?_
        refine zN ?_
        refine RAny.more (i0 := 5) (l := []) (by kernel_rfl) (RAnys.cons rfl ?_ RAnys.nil)
        refine zL (r := f32 x21) rfl rfl rfl (LOp.eqr (LOp.i2f (src := 2) (dst := 36) ⟨_, pun2⟩ pun36 rfl rfl) (congrArg (f .f32) hx11)) ?_
        refine zN ?_
        refine RAny.more (i0 := 6) (l := []) (by kernel_rfl) (RAnys.cons rfl ?_ RAnys.nil)
        refine ROps.d (r := f32 x22) (fs := []) (Γ' := [⟨0, some [sl a2.length (a2.map (ik .u8)), i64 r18, ik .u64 r19]⟩, ⟨1, some [i64 0, i64 0, nilsl]⟩, ⟨u5, some (L7.map f32)⟩, ⟨1, some [i64 r1, i64 r2, oref 2 u5 0 L7.length]⟩, ⟨u6, none⟩]) rfl rfl rfl (TOp.eqr (TOp.fop (.inr (.inr (.inr rfl))) rfl (OpF.tmp rfl) (OpF.const rfl (by kernel_rfl) (by kernel_rfl))) (congrArg (f .f32) hx12)) rfl ?_
        refine zN ?_
        refine RAny.more (i0 := 7) (l := []) (by kernel_rfl) (RAnys.cons rfl ?_ RAnys.nil)
        refine ROps.d (r := oref 4 (u6 + 1) 0 1) (fs := [(4, (([x22] : List F).map f32))]) (Γ' := [⟨0, some [sl a2.length (a2.map (ik .u8)), i64 r18, ik .u64 r19]⟩, ⟨1, some [i64 0, i64 0, nilsl]⟩, ⟨u5, some (L7.map f32)⟩, ⟨1, some [i64 r1, i64 r2, oref 2 u5 0 L7.length]⟩, ⟨(u6 + 1), some (([x22] : List F).map f32)⟩]) rfl rfl rfl (TOp.buildSlice_o (g := ⟨u6, none⟩) (za := f32 (some 0)) (qs := [(0, [f32 x22])]) 4 rfl und24 siz36 zer36 rfl zel36 rfl rfl ⟨rfl, ⟨_, ALe.refl _, rfl⟩, trivial⟩ rfl) rfl ?_
        refine zN ?_
        refine RAny.more (i0 := 8) (l := []) (by kernel_rfl) (RAnys.cons rfl ?_ RAnys.nil)
        refine ROps.app (f := f32) (xs := L7) (ys := ([x22] : List F)) (Γ' := [⟨0, some [sl a2.length (a2.map (ik .u8)), i64 r18, ik .u64 r19]⟩, ⟨1, some [i64 0, i64 0, nilsl]⟩, ⟨(u5 + 1), some ((L7 ++ ([x22] : List F)).map f32)⟩, ⟨1, some [i64 r1, i64 r2, oref 2 u5 0 L7.length]⟩, ⟨(u6 + 1), some (([x22] : List F).map f32)⟩]) rfl pun24 inf36 rfl rfl rfl rfl rfl rfl rfl rfl rfl (by simp) (ReadAs.own rfl (by simp)) (ones_map (fun _ => rfl)) (ap_by hm13) (ap_mx hm13) rfl ?_
        refine zN ?_
        refine RAny.more (i0 := 9) (l := []) (by kernel_rfl) (RAnys.cons rfl ?_ RAnys.nil)
        refine zL (r := optr 3 1 2) rfl rfl rfl (LOp.fao und26 rfl siz24 rfl rfl rfl) ?_
        refine zN ?_
        refine RAny.more (i0 := 10) (l := []) (by kernel_rfl) (RAnys.cons rfl ?_ RAnys.nil)
        refine ROps.store_le (r := oref 2 (u5 + 1) 0 (L7.length + 1)) (l' := [i64 r1, i64 r2, oref 2 (u5 + 1) 0 (L7.length + 1)]) (Γ' := [⟨0, some [sl a2.length (a2.map (ik .u8)), i64 r18, ik .u64 r19]⟩, ⟨1, some [i64 0, i64 0, nilsl]⟩, ⟨(u5 + 1), some ((L7 ++ ([x22] : List F)).map f32)⟩, ⟨1, some [i64 r1, i64 r2, oref 2 (u5 + 1) 0 (L7.length + 1)]⟩, ⟨(u6 + 1), some (([x22] : List F).map f32)⟩]) rfl siz24 rfl rfl rfl aR rfl rfl rfl rfl (Nat.le_of_ble_eq_true rfl) rfl rfl ?_
        refine zN ?_
        refine RAny.done (by kernel_rfl) ?_
        exact ⟨⟨aR, aR, aR, aR, aR, aR, aR, aR, aR, aR, aR, aR, aR, aR, aR, aR, trivial⟩, ⟨⟨rfl, .inr rfl⟩, ⟨rfl, .inr rfl⟩, ⟨rfl, .inr rfl⟩, ⟨rfl, .inr rfl⟩, ⟨rfl, .inr rfl⟩, trivial⟩⟩
       ·refine zL (r := i64 x20) rfl rfl rfl (LOp.eqr (LOp.sub rfl rfl rfl) (congrArg (ik .i64) hx10)) ?_
        refine zN ?_
        refine RAny.more (i0 := 1) (l := [5]) (by kernel_rfl) (RAnys.cons rfl ?_ (RAnys.cons rfl ?_ RAnys.nil))
        ·refine ROps.d (r := oref 2 u5 0 L7.length) (fs := []) (Γ' := [⟨0, some [sl a2.length (a2.map (ik .u8)), i64 r18, ik .u64 r19]⟩, ⟨1, some [i64 0, i64 0, nilsl]⟩, ⟨u5, some (L7.map f32)⟩, ⟨1, some [i64 r1, i64 r2, oref 2 u5 0 L7.length]⟩, ⟨u6, none⟩]) rfl rfl rfl (TOp.load1_o rfl rfl agg24 rfl rfl) rfl ?_
         refine zN ?_
         refine RAny.more (i0 := 5) (l := []) (by kernel_rfl) (RAnys.cons rfl ?_ RAnys.nil)
         refine zL (r := f32 x21) rfl rfl rfl (LOp.eqr (LOp.i2f (src := 2) (dst := 36) ⟨_, pun2⟩ pun36 rfl rfl) (congrArg (f .f32) hx11)) ?_
         refine zN ?_
         refine RAny.more (i0 := 6) (l := []) (by kernel_rfl) (RAnys.cons rfl ?_ RAnys.nil)
         refine ROps.d (r := f32 x22) (fs := []) (Γ' := [⟨0, some [sl a2.length (a2.map (ik .u8)), i64 r18, ik .u64 r19]⟩, ⟨1, some [i64 0, i64 0, nilsl]⟩, ⟨u5, some (L7.map f32)⟩, ⟨1, some [i64 r1, i64 r2, oref 2 u5 0 L7.length]⟩, ⟨u6, none⟩]) rfl rfl rfl (TOp.eqr (TOp.fop (.inr (.inr (.inr rfl))) rfl (OpF.tmp rfl) (OpF.const rfl (by kernel_rfl) (by kernel_rfl))) (congrArg (f .f32) hx12)) rfl ?_
         refine zN ?_
         refine RAny.more (i0 := 7) (l := []) (by kernel_rfl) (RAnys.cons rfl ?_ RAnys.nil)
         refine ROps.d (r := oref 4 (u6 + 1) 0 1) (fs := [(4, (([x22] : List F).map f32))]) (Γ' := [⟨0, some [sl a2.length (a2.map (ik .u8)), i64 r18, ik .u64 r19]⟩, ⟨1, some [i64 0, i64 0, nilsl]⟩, ⟨u5, some (L7.map f32)⟩, ⟨1, some [i64 r1, i64 r2, oref 2 u5 0 L7.length]⟩, ⟨(u6 + 1), some (([x22] : List F).map f32)⟩]) rfl rfl rfl (TOp.buildSlice_o (g := ⟨u6, none⟩) (za := f32 (some 0)) (qs := [(0, [f32 x22])]) 4 rfl und24 siz36 zer36 rfl zel36 rfl rfl ⟨rfl, ⟨_, ALe.refl _, rfl⟩, trivial⟩ rfl) rfl ?_
         refine zN ?_
         refine RAny.more (i0 := 8) (l := []) (by kernel_rfl) (RAnys.cons rfl ?_ RAnys.nil)
         refine ROps.app (f := f32) (xs := L7) (ys := ([x22] : List F)) (Γ' := [⟨0, some [sl a2.length (a2.map (ik .u8)), i64 r18, ik .u64 r19]⟩, ⟨1, some [i64 0, i64 0, nilsl]⟩, ⟨(u5 + 1), some ((L7 ++ ([x22] : List F)).map f32)⟩, ⟨1, some [i64 r1, i64 r2, oref 2 u5 0 L7.length]⟩, ⟨(u6 + 1), some (([x22] : List F).map f32)⟩]) rfl pun24 inf36 rfl rfl rfl rfl rfl rfl rfl rfl rfl (by simp) (ReadAs.own rfl (by simp)) (ones_map (fun _ => rfl)) (ap_by hm13) (ap_mx hm13) rfl ?_
         refine zN ?_
         refine RAny.more (i0 := 9) (l := []) (by kernel_rfl) (RAnys.cons rfl ?_ RAnys.nil)
         refine zL (r := optr 3 1 2) rfl rfl rfl (LOp.fao und26 rfl siz24 rfl rfl rfl) ?_
         refine zN ?_
         refine RAny.more (i0 := 10) (l := []) (by kernel_rfl) (RAnys.cons rfl ?_ RAnys.nil)
         refine ROps.store_le (r := oref 2 (u5 + 1) 0 (L7.length + 1)) (l' := [i64 r1, i64 r2, oref 2 (u5 + 1) 0 (L7.length + 1)]) (Γ' := [⟨0, some [sl a2.length (a2.map (ik .u8)), i64 r18, ik .u64 r19]⟩, ⟨1, some [i64 0, i64 0, nilsl]⟩, ⟨(u5 + 1), some ((L7 ++ ([x22] : List F)).map f32)⟩, ⟨1, some [i64 r1, i64 r2, oref 2 (u5 + 1) 0 (L7.length + 1)]⟩, ⟨(u6 + 1), some (([x22] : List F).map f32)⟩]) rfl siz24 rfl rfl rfl aR rfl rfl rfl rfl (Nat.le_of_ble_eq_true rfl) rfl rfl ?_
         refine zN ?_
         refine RAny.done (by kernel_rfl) ?_
         exact ⟨⟨aR, aR, aR, aR, aR, aR, aR, aR, aR, aR, aR, aR, aR, aR, aR, aR, trivial⟩, ⟨⟨rfl, .inr rfl⟩, ⟨rfl, .inr rfl⟩, ⟨rfl, .inr rfl⟩, ⟨rfl, .inr rfl⟩, ⟨rfl, .inr rfl⟩, trivial⟩⟩
        ·refine zL (r := f32 x21) rfl rfl rfl (LOp.eqr (LOp.i2f (src := 2) (dst := 36) ⟨_, pun2⟩ pun36 rfl rfl) (congrArg (f .f32) hx11)) ?_
         refine zN ?_
         refine RAny.more (i0 := 1) (l := [6]) (by kernel_rfl) (RAnys.cons rfl ?_ (RAnys.cons rfl ?_ RAnys.nil))
         ·refine ROps.d (r := oref 2 u5 0 L7.length) (fs := []) (Γ' := [⟨0, some [sl a2.length (a2.map (ik .u8)), i64 r18, ik .u64 r19]⟩, ⟨1, some [i64 0, i64 0, nilsl]⟩, ⟨u5, some (L7.map f32)⟩, ⟨1, some [i64 r1, i64 r2, oref 2 u5 0 L7.length]⟩, ⟨u6, none⟩]) rfl rfl rfl (TOp.load1_o rfl rfl agg24 rfl rfl) rfl ?_
          refine zN ?_
          refine RAny.more (i0 := 6) (l := []) (by kernel_rfl) (RAnys.cons rfl ?_ RAnys.nil)
          refine ROps.d (r := f32 x22) (fs := []) (Γ' := [⟨0, some [sl a2.length (a2.map (ik .u8)), i64 r18, ik .u64 r19]⟩, ⟨1, some [i64 0, i64 0, nilsl]⟩, ⟨u5, some (L7.map f32)⟩, ⟨1, some [i64 r1, i64 r2, oref 2 u5 0 L7.length]⟩, ⟨u6, none⟩]) rfl rfl rfl (TOp.eqr (TOp.fop (.inr (.inr (.inr rfl))) rfl (OpF.tmp rfl) (OpF.const rfl (by kernel_rfl) (by kernel_rfl))) (congrArg (f .f32) hx12)) rfl ?_
          refine zN ?_
          refine RAny.more (i0 := 7) (l := []) (by kernel_rfl) (RAnys.cons rfl ?_ RAnys.nil)
          refine ROps.d (r := oref 4 (u6 + 1) 0 1) (fs := [(4, (([x22] : List F).map f32))]) (Γ' := [⟨0, some [sl a2.length (a2.map (ik .u8)), i64 r18, ik .u64 r19]⟩, ⟨1, some [i64 0, i64 0, nilsl]⟩, ⟨u5, some (L7.map f32)⟩, ⟨1, some [i64 r1, i64 r2, oref 2 u5 0 L7.length]⟩, ⟨(u6 + 1), some (([x22] : List F).map f32)⟩]) rfl rfl rfl (TOp.buildSlice_o (g := ⟨u6, none⟩) (za := f32 (some 0)) (qs := [(0, [f32 x22])]) 4 rfl und24 siz36 zer36 rfl zel36 rfl rfl ⟨rfl, ⟨_, ALe.refl _, rfl⟩, trivial⟩ rfl) rfl ?_
          refine zN ?_
          refine RAny.more (i0 := 8) (l := []) (by kernel_rfl) (RAnys.cons rfl ?_ RAnys.nil)
          refine ROps.app (f := f32) (xs := L7) (ys := ([x22] : List F)) (Γ' := [⟨0, some [sl a2.length (a2.map (ik .u8)), i64 r18, ik .u64 r19]⟩, ⟨1, some [i64 0, i64 0, nilsl]⟩, ⟨(u5 + 1), some ((L7 ++ ([x22] : List F)).map f32)⟩, ⟨1, some [i64 r1, i64 r2, oref 2 u5 0 L7.length]⟩, ⟨(u6 + 1), some (([x22] : List F).map f32)⟩]) rfl pun24 inf36 rfl rfl rfl rfl rfl rfl rfl rfl rfl (by simp) (ReadAs.own rfl (by simp)) (ones_map (fun _ => rfl)) (ap_by hm13) (ap_mx hm13) rfl ?_
          refine zN ?_
          refine RAny.more (i0 := 9) (l := []) (by kernel_rfl) (RAnys.cons rfl ?_ RAnys.nil)
          refine zL (r := optr 3 1 2) rfl rfl rfl (LOp.fao und26 rfl siz24 rfl rfl rfl) ?_
          refine zN ?_
          refine RAny.more (i0 := 10) (l := []) (by kernel_rfl) (RAnys.cons rfl ?_ RAnys.nil)
          refine ROps.store_le (r := oref 2 (u5 + 1) 0 (L7.length + 1)) (l' := [i64 r1, i64 r2, oref 2 (u5 + 1) 0 (L7.length + 1)]) (Γ' := [⟨0, some [sl a2.length (a2.map (ik .u8)), i64 r18, ik .u64 r19]⟩, ⟨1, some [i64 0, i64 0, nilsl]⟩, ⟨(u5 + 1), some ((L7 ++ ([x22] : List F)).map f32)⟩, ⟨1, some [i64 r1, i64 r2, oref 2 (u5 + 1) 0 (L7.length + 1)]⟩, ⟨(u6 + 1), some (([x22] : List F).map f32)⟩]) rfl siz24 rfl rfl rfl aR rfl rfl rfl rfl (Nat.le_of_ble_eq_true rfl) rfl rfl ?_
          refine zN ?_
          refine RAny.done (by kernel_rfl) ?_
          exact ⟨⟨aR, aR, aR, aR, aR, aR, aR, aR, aR, aR, aR, aR, aR, aR, aR, aR, trivial⟩, ⟨⟨rfl, .inr rfl⟩, ⟨rfl, .inr rfl⟩, ⟨rfl, .inr rfl⟩, ⟨rfl, .inr rfl⟩, ⟨rfl, .inr rfl⟩, trivial⟩⟩
         ·refine ROps.d (r := f32 x22) (fs := []) (Γ' := [⟨0, some [sl a2.length (a2.map (ik .u8)), i64 r18, ik .u64 r19]⟩, ⟨1, some [i64 0, i64 0, nilsl]⟩, ⟨u5, some (L7.map f32)⟩, ⟨1, some [i64 r1, i64 r2, oref 2 u5 0 L7.length]⟩, ⟨u6, none⟩]) rfl rfl rfl (TOp.eqr (TOp.fop (.inr (.inr (.inr rfl))) rfl (OpF.tmp rfl) (OpF.const rfl (by kernel_rfl) (by kernel_rfl))) (congrArg (f .f32) hx12)) rfl ?_
          refine zN ?_
          refine RAny.more (i0 := 1) (l := [7]) (by kernel_rfl) (RAnys.cons rfl ?_ (RAnys.cons rfl ?_ RAnys.nil))
          ·refine ROps.d (r := oref 2 u5 0 L7.length) (fs := []) (Γ' := [⟨0, some [sl a2.length (a2.map (ik .u8)), i64 r18, ik .u64 r19]⟩, ⟨1, some [i64 0, i64 0, nilsl]⟩, ⟨u5, some (L7.map f32)⟩, ⟨1, some [i64 r1, i64 r2, oref 2 u5 0 L7.length]⟩, ⟨u6, none⟩]) rfl rfl rfl (TOp.load1_o rfl rfl agg24 rfl rfl) rfl ?_
           refine zN ?_
           refine RAny.more (i0 := 7) (l := []) (by kernel_rfl) (RAnys.cons rfl ?_ RAnys.nil)
           refine ROps.d (r := oref 4 (u6 + 1) 0 1) (fs := [(4, (([x22] : List F).map f32))]) (Γ' := [⟨0, some [sl a2.length (a2.map (ik .u8)), i64 r18, ik .u64 r19]⟩, ⟨1, some [i64 0, i64 0, nilsl]⟩, ⟨u5, some (L7.map f32)⟩, ⟨1, some [i64 r1, i64 r2, oref 2 u5 0 L7.length]⟩, ⟨(u6 + 1), some (([x22] : List F).map f32)⟩]) rfl rfl rfl (TOp.buildSlice_o (g := ⟨u6, none⟩) (za := f32 (some 0)) (qs := [(0, [f32 x22])]) 4 rfl und24 siz36 zer36 rfl zel36 rfl rfl ⟨rfl, ⟨_, ALe.refl _, rfl⟩, trivial⟩ rfl) rfl ?_
           refine zN ?_
           refine RAny.more (i0 := 8) (l := []) (by kernel_rfl) (RAnys.cons rfl ?_ RAnys.nil)
           refine ROps.app (f := f32) (xs := L7) (ys := ([x22] : List F)) (Γ' := [⟨0, some [sl a2.length (a2.map (ik .u8)), i64 r18, ik .u64 r19]⟩, ⟨1, some [i64 0, i64 0, nilsl]⟩, ⟨(u5 + 1), some ((L7 ++ ([x22] : List F)).map f32)⟩, ⟨1, some [i64 r1, i64 r2, oref 2 u5 0 L7.length]⟩, ⟨(u6 + 1), some (([x22] : List F).map f32)⟩]) rfl pun24 inf36 rfl rfl rfl rfl rfl rfl rfl rfl rfl (by simp) (ReadAs.own rfl (by simp)) (ones_map (fun _ => rfl)) (ap_by hm13) (ap_mx hm13) rfl ?_
           refine zN ?_
           refine RAny.more (i0 := 9) (l := []) (by kernel_rfl) (RAnys.cons rfl ?_ RAnys.nil)
           refine zL (r := optr 3 1 2) rfl rfl rfl (LOp.fao und26 rfl siz24 rfl rfl rfl) ?_
           refine zN ?_
           refine RAny.more (i0 := 10) (l := []) (by kernel_rfl) (RAnys.cons rfl ?_ RAnys.nil)
           refine ROps.store_le (r := oref 2 (u5 + 1) 0 (L7.length + 1)) (l' := [i64 r1, i64 r2, oref 2 (u5 + 1) 0 (L7.length + 1)]) (Γ' := [⟨0, some [sl a2.length (a2.map (ik .u8)), i64 r18, ik .u64 r19]⟩, ⟨1, some [i64 0, i64 0, nilsl]⟩, ⟨(u5 + 1), some ((L7 ++ ([x22] : List F)).map f32)⟩, ⟨1, some [i64 r1, i64 r2, oref 2 (u5 + 1) 0 (L7.length + 1)]⟩, ⟨(u6 + 1), some (([x22] : List F).map f32)⟩]) rfl siz24 rfl rfl rfl aR rfl rfl rfl rfl (Nat.le_of_ble_eq_true rfl) rfl rfl ?_
           refine zN ?_
           refine RAny.done (by kernel_rfl) ?_
           exact ⟨⟨aR, aR, aR, aR, aR, aR, aR, aR, aR, aR, aR, aR, aR, aR, aR, aR, trivial⟩, ⟨⟨rfl, .inr rfl⟩, ⟨rfl, .inr rfl⟩, ⟨rfl, .inr rfl⟩, ⟨rfl, .inr rfl⟩, ⟨rfl, .inr rfl⟩, trivial⟩⟩
          ·refine ROps.d (r := oref 4 (u6 + 1) 0 1) (fs := [(4, (([x22] : List F).map f32))]) (Γ' := [⟨0, some [sl a2.length (a2.map (ik .u8)), i64 r18, ik .u64 r19]⟩, ⟨1, some [i64 0, i64 0, nilsl]⟩, ⟨u5, some (L7.map f32)⟩, ⟨1, some [i64 r1, i64 r2, oref 2 u5 0 L7.length]⟩, ⟨(u6 + 1), some (([x22] : List F).map f32)⟩]) rfl rfl rfl (TOp.buildSlice_o (g := ⟨u6, none⟩) (za := f32 (some 0)) (qs := [(0, [f32 x22])]) 4 rfl und24 siz36 zer36 rfl zel36 rfl rfl ⟨rfl, ⟨_, ALe.refl _, rfl⟩, trivial⟩ rfl) rfl ?_
           refine zN ?_
           refine RAny.more (i0 := 1) (l := []) (by kernel_rfl) (RAnys.cons rfl ?_ RAnys.nil)
           refine ROps.d (r := oref 2 u5 0 L7.length) (fs := []) (Γ' := [⟨0, some [sl a2.length (a2.map (ik .u8)), i64 r18, ik .u64 r19]⟩, ⟨1, some [i64 0, i64 0, nilsl]⟩, ⟨u5, some (L7.map f32)⟩, ⟨1, some [i64 r1, i64 r2, oref 2 u5 0 L7.length]⟩, ⟨(u6 + 1), some (([x22] : List F).map f32)⟩]) rfl rfl rfl (TOp.load1_o rfl rfl agg24 rfl rfl) rfl ?_
           refine zN ?_
           refine RAny.more (i0 := 8) (l := []) (by kernel_rfl) (RAnys.cons rfl ?_ RAnys.nil)
           refine ROps.app (f := f32) (xs := L7) (ys := ([x22] : List F)) (Γ' := [⟨0, some [sl a2.length (a2.map (ik .u8)), i64 r18, ik .u64 r19]⟩, ⟨1, some [i64 0, i64 0, nilsl]⟩, ⟨(u5 + 1), some ((L7 ++ ([x22] : List F)).map f32)⟩, ⟨1, some [i64 r1, i64 r2, oref 2 u5 0 L7.length]⟩, ⟨(u6 + 1), some (([x22] : List F).map f32)⟩]) rfl pun24 inf36 rfl rfl rfl rfl rfl rfl rfl rfl rfl (by simp) (ReadAs.own rfl (by simp)) (ones_map (fun _ => rfl)) (ap_by hm13) (ap_mx hm13) rfl ?_
           refine zN ?_
           refine RAny.more (i0 := 9) (l := []) (by kernel_rfl) (RAnys.cons rfl ?_ RAnys.nil)
           refine zL (r := optr 3 1 2) rfl rfl rfl (LOp.fao und26 rfl siz24 rfl rfl rfl) ?_
           refine zN ?_
           refine RAny.more (i0 := 10) (l := []) (by kernel_rfl) (RAnys.cons rfl ?_ RAnys.nil)
           refine ROps.store_le (r := oref 2 (u5 + 1) 0 (L7.length + 1)) (l' := [i64 r1, i64 r2, oref 2 (u5 + 1) 0 (L7.length + 1)]) (Γ' := [⟨0, some [sl a2.length (a2.map (ik .u8)), i64 r18, ik .u64 r19]⟩, ⟨1, some [i64 0, i64 0, nilsl]⟩, ⟨(u5 + 1), some ((L7 ++ ([x22] : List F)).map f32)⟩, ⟨1, some [i64 r1, i64 r2, oref 2 (u5 + 1) 0 (L7.length + 1)]⟩, ⟨(u6 + 1), some (([x22] : List F).map f32)⟩]) rfl siz24 rfl rfl rfl aR rfl rfl rfl rfl (Nat.le_of_ble_eq_true rfl) rfl rfl ?_
           refine zN ?_
           refine RAny.done (by kernel_rfl) ?_
           exact ⟨⟨aR, aR, aR, aR, aR, aR, aR, aR, aR, aR, aR, aR, aR, aR, aR, aR, trivial⟩, ⟨⟨rfl, .inr rfl⟩, ⟨rfl, .inr rfl⟩, ⟨rfl, .inr rfl⟩, ⟨rfl, .inr rfl⟩, ⟨rfl, .inr rfl⟩, trivial⟩⟩
     ·refine ROps.callO (A := [optr 0 0 0, i64 33]) (args := [optr 0 0 0, i64 33]) (Γc := [⟨0, some [sl a2.length (a2.map (ik .u8)), i64 v8, ik .u64 v9]⟩]) (Γc' := [⟨0, some [sl a2.length (a2.map (ik .u8)), i64 r18, ik .u64 r19]⟩]) (r' := i64 r17) (Γ' := [⟨0, some [sl a2.length (a2.map (ik .u8)), i64 r18, ik .u64 r19]⟩, ⟨1, some [i64 0, i64 0, nilsl]⟩, ⟨u5, some (L7.map f32)⟩, ⟨1, some [i64 r1, i64 r2, oref 2 u5 0 L7.length]⟩, ⟨u6, none⟩]) [(0, 0)] [] rfl (CallAs.func ent112 rfl rfl) rfl rfl (SelOk.of (show List.Nodup [0] from by decide) (SelL.cells0 rfl (by simp [ren, rens, sigma, rens_f32, rens_f64, rens_i64, rens_ik, rens_str, rens_cp]) (lts_cons (lt_slk (fun _ => rfl)) (lts_cons rfl (lts_cons rfl lts_nil))) trivial)) (live_of ⟨⟨_, _, rfl⟩, trivial⟩) (by simp [ren, rens, sigma, rens_f32, rens_f64, rens_i64, rens_ik, rens_str, rens_cp]) rfl (s_l00Src_pick_0p0_C0_ok 33 a2 v8 v9 r17 r18 r19 hf9) rfl (news_of trivial) (show List.Nodup [0] from by decide) (by simp [ren, rens, sigma]) (by simp [backOb, sigma, ren, rens, rens_f32, rens_f64, rens_i64, rens_ik, rens_str, rens_cp]) ?_
      refine zN ?_
      refine RAny.more (i0 := 0) (l := [4]) (by kernel_rfl) (RAnys.cons rfl ?_ (RAnys.cons rfl ?_ RAnys.nil))
      ·refine zL (r := optr 3 1 2) rfl rfl rfl (LOp.fao und26 rfl siz24 rfl rfl rfl) ?_
       refine zN ?_
       refine RAny.more (i0 := 1) (l := [4]) (by kernel_rfl) (RAnys.cons rfl ?_ (RAnys.cons rfl ?_ RAnys.nil))
       ·refine ROps.d (r := oref 2 u5 0 L7.length) (fs := []) (Γ' := [⟨0, some [sl a2.length (a2.map (ik .u8)), i64 r18, ik .u64 r19]⟩, ⟨1, some [i64 0, i64 0, nilsl]⟩, ⟨u5, some (L7.map f32)⟩, ⟨1, some [i64 r1, i64 r2, oref 2 u5 0 L7.length]⟩, ⟨u6, none⟩]) rfl rfl rfl (TOp.load1_o rfl rfl agg24 rfl rfl) rfl ?_
        refine zN ?_
        refine RAny.more (i0 := 4) (l := []) (by kernel_rfl) (RAnys.cons rfl ?_ RAnys.nil)
        refine zL (r := i64 x20) rfl rfl rfl (LOp.eqr (LOp.sub rfl rfl rfl) (congrArg (ik .i64) hx10)) ?_
        refine zN ?_
        refine RAny.more (i0 := 5) (l := []) (by kernel_rfl) (RAnys.cons rfl ?_ RAnys.nil)
        refine zL (r := f32 x21) rfl rfl rfl (LOp.eqr (LOp.i2f (src := 2) (dst := 36) ⟨_, pun2⟩ pun36 rfl rfl) (congrArg (f .f32) hx11)) ?_
        refine zN ?_
        refine RAny.more (i0 := 6) (l := []) (by kernel_rfl) (RAnys.cons rfl ?_ RAnys.nil)
        refine ROps.d (r := f32 x22) (fs := []) (Γ' := [⟨0, some [sl a2.length (a2.map (ik .u8)), i64 r18, ik .u64 r19]⟩, ⟨1, some [i64 0, i64 0, nilsl]⟩, ⟨u5, some (L7.map f32)⟩, ⟨1, some [i64 r1, i64 r2, oref 2 u5 0 L7.length]⟩, ⟨u6, none⟩]) rfl rfl rfl (TOp.eqr (TOp.fop (.inr (.inr (.inr rfl))) rfl (OpF.tmp rfl) (OpF.const rfl (by kernel_rfl) (by kernel_rfl))) (congrArg (f .f32) hx12)) rfl ?_
        refine zN ?_
        refine RAny.more (i0 := 7) (l := []) (by kernel_rfl) (RAnys.cons rfl ?_ RAnys.nil)
        refine ROps.d (r := oref 4 (u6 + 1) 0 1) (fs := [(4, (([x22] : List F).map f32))]) (Γ' := [⟨0, some [sl a2.length (a2.map (ik .u8)), i64 r18, ik .u64 r19]⟩, ⟨1, some [i64 0, i64 0, nilsl]⟩, ⟨u5, some (L7.map f32)⟩, ⟨1, some [i64 r1, i64 r2, oref 2 u5 0 L7.length]⟩, ⟨(u6 + 1), some (([x22] : List F).map f32)⟩]) rfl rfl rfl (TOp.buildSlice_o (g := ⟨u6, none⟩) (za := f32 (some 0)) (qs := [(0, [f32 x22])]) 4 rfl und24 siz36 zer36 rfl zel36 rfl rfl ⟨rfl, ⟨_, ALe.refl _, rfl⟩, trivial⟩ rfl) rfl ?_
        refine zN ?_
        refine RAny.more (i0 := 8) (l := []) (by kernel_rfl) (RAnys.cons rfl ?_ RAnys.nil)
        refine ROps.app (f := f32) (xs := L7) (ys := ([x22] : List F)) (Γ' := [⟨0, some [sl a2.length (a2.map (ik .u8)), i64 r18, ik .u64 r19]⟩, ⟨1, some [i64 0, i64 0, nilsl]⟩, ⟨(u5 + 1), some ((L7 ++ ([x22] : List F)).map f32)⟩, ⟨1, some [i64 r1, i64 r2, oref 2 u5 0 L7.length]⟩, ⟨(u6 + 1), some (([x22] : List F).map f32)⟩]) rfl pun24 inf36 rfl rfl rfl rfl rfl rfl rfl rfl rfl (by simp) (ReadAs.own rfl (by simp)) (ones_map (fun _ => rfl)) (ap_by hm13) (ap_mx hm13) rfl ?_
        refine zN ?_
        refine RAny.more (i0 := 9) (l := []) (by kernel_rfl) (RAnys.cons rfl ?_ RAnys.nil)
        refine zL (r := optr 3 1 2) rfl rfl rfl (LOp.fao und26 rfl siz24 rfl rfl rfl) ?_
        refine zN ?_
        refine RAny.more (i0 := 10) (l := []) (by kernel_rfl) (RAnys.cons rfl ?_ RAnys.nil)
        refine ROps.store_le (r := oref 2 (u5 + 1) 0 (L7.length + 1)) (l' := [i64 r1, i64 r2, oref 2 (u5 + 1) 0 (L7.length + 1)]) (Γ' := [⟨0, some [sl a2.length (a2.map (ik .u8)), i64 r18, ik .u64 r19]⟩, ⟨1, some [i64 0, i64 0, nilsl]⟩, ⟨(u5 + 1), some ((L7 ++ ([x22] : List F)).map f32)⟩, ⟨1, some [i64 r1, i64 r2, oref 2 (u5 + 1) 0 (L7.length + 1)]⟩, ⟨(u6 + 1), some (([x22] : List F).map f32)⟩]) rfl siz24 rfl rfl rfl aR rfl rfl rfl rfl (Nat.le_of_ble_eq_true rfl) rfl rfl ?_
        refine zN ?_
        refine RAny.done (by kernel_rfl) ?_
        exact ⟨⟨aR, aR, aR, aR, aR, aR, aR, aR, aR, aR, aR, aR, aR, aR, aR, aR, trivial⟩, ⟨⟨rfl, .inr rfl⟩, ⟨rfl, .inr rfl⟩, ⟨rfl, .inr rfl⟩, ⟨rfl, .inr rfl⟩, ⟨rfl, .inr rfl⟩, trivial⟩⟩
       ·refine zL (r := i64 x20) rfl rfl rfl (LOp.eqr (LOp.sub rfl rfl rfl) (congrArg (ik .i64) hx10)) ?_
        refine zN ?_
        refine RAny.more (i0 := 1) (l := [5]) (by kernel_rfl) (RAnys.cons rfl ?_ (RAnys.cons rfl ?_ RAnys.nil))
        ·refine ROps.d (r := oref 2 u5 0 L7.length) (fs := []) (Γ' := [⟨0, some [sl a2.length (a2.map (ik .u8)), i64 r18, ik .u64 r19]⟩, ⟨1, some [i64 0, i64 0, nilsl]⟩, ⟨u5, some (L7.map f32)⟩, ⟨1, some [i64 r1, i64 r2, oref 2 u5 0 L7.length]⟩, ⟨u6, none⟩]) rfl rfl rfl (TOp.load1_o rfl rfl agg24 rfl rfl) rfl ?_
         refine zN ?_
         refine RAny.more (i0 := 5) (l := []) (by kernel_rfl) (RAnys.cons rfl ?_ RAnys.nil)
         refine zL (r := f32 x21) rfl rfl rfl (LOp.eqr (LOp.i2f (src := 2) (dst := 36) ⟨_, pun2⟩ pun36 rfl rfl) (congrArg (f .f32) hx11)) ?_
         refine zN ?_
         refine RAny.more (i0 := 6) (l := []) (by kernel_rfl) (RAnys.cons rfl ?_ RAnys.nil)
         refine ROps.d (r := f32 x22) (fs := []) (Γ' := [⟨0, some [sl a2.length (a2.map (ik .u8)), i64 r18, ik .u64 r19]⟩, ⟨1, some [i64 0, i64 0, nilsl]⟩, ⟨u5, some (L7.map f32)⟩, ⟨1, some [i64 r1, i64 r2, oref 2 u5 0 L7.length]⟩, ⟨u6, none⟩]) rfl rfl rfl (TOp.eqr (TOp.fop (.inr (.inr (.inr rfl))) rfl (OpF.tmp rfl) (OpF.const rfl (by kernel_rfl) (by kernel_rfl))) (congrArg (f .f32) hx12)) rfl ?_
         refine zN ?_
         refine RAny.more (i0 := 7) (l := []) (by kernel_rfl) (RAnys.cons rfl ?_ RAnys.nil)
         refine ROps.d (r := oref 4 (u6 + 1) 0 1) (fs := [(4, (([x22] : List F).map f32))]) (Γ' := [⟨0, some [sl a2.length (a2.map (ik .u8)), i64 r18, ik .u64 r19]⟩, ⟨1, some [i64 0, i64 0, nilsl]⟩, ⟨u5, some (L7.map f32)⟩, ⟨1, some [i64 r1, i64 r2, oref 2 u5 0 L7.length]⟩, ⟨(u6 + 1), some (([x22] : List F).map f32)⟩]) rfl rfl rfl (TOp.buildSlice_o (g := ⟨u6, none⟩) (za := f32 (some 0)) (qs := [(0, [f32 x22])]) 4 rfl und24 siz36 zer36 rfl zel36 rfl rfl ⟨rfl, ⟨_, ALe.refl _, rfl⟩, trivial⟩ rfl) rfl ?_
         refine zN ?_
         refine RAny.more (i0 := 8) (l := []) (by kernel_rfl) (RAnys.cons rfl ?_ RAnys.nil)
         refine ROps.app (f := f32) (xs := L7) (ys := ([x22] : List F)) (Γ' := [⟨0, some [sl a2.length (a2.map (ik .u8)), i64 r18, ik .u64 r19]⟩, ⟨1, some [i64 0, i64 0, nilsl]⟩, ⟨(u5 + 1), some ((L7 ++ ([x22] : List F)).map f32)⟩, ⟨1, some [i64 r1, i64 r2, oref 2 u5 0 L7.length]⟩, ⟨(u6 + 1), some (([x22] : List F).map f32)⟩]) rfl pun24 inf36 rfl rfl rfl rfl rfl rfl rfl rfl rfl (by simp) (ReadAs.own rfl (by simp)) (ones_map (fun _ => rfl)) (ap_by hm13) (ap_mx hm13) rfl ?_
         refine zN ?_
         refine RAny.more (i0 := 9) (l := []) (by kernel_rfl) (RAnys.cons rfl ?_ RAnys.nil)
         refine zL (r := optr 3 1 2) rfl rfl rfl (LOp.fao und26 rfl siz24 rfl rfl rfl) ?_
         refine zN ?_
         refine RAny.more (i0 := 10) (l := []) (by kernel_rfl) (RAnys.cons rfl ?_ RAnys.nil)
         refine ROps.store_le (r := oref 2 (u5 + 1) 0 (L7.length + 1)) (l' := [i64 r1, i64 r2, oref 2 (u5 + 1) 0 (L7.length + 1)]) (Γ' := [⟨0, some [sl a2.length (a2.map (ik .u8)), i64 r18, ik .u64 r19]⟩, ⟨1, some [i64 0, i64 0, nilsl]⟩, ⟨(u5 + 1), some ((L7 ++ ([x22] : List F)).map f32)⟩, ⟨1, some [i64 r1, i64 r2, oref 2 (u5 + 1) 0 (L7.length + 1)]⟩, ⟨(u6 + 1), some (([x22] : List F).map f32)⟩]) rfl siz24 rfl rfl rfl aR rfl rfl rfl rfl (Nat.le_of_ble_eq_true rfl) rfl rfl ?_
         refine zN ?_
         refine RAny.done (by kernel_rfl) ?_
         exact ⟨⟨aR, aR, aR, aR, aR, aR, aR, aR, aR, aR, aR, aR, aR, aR, aR, aR, trivial⟩, ⟨⟨rfl, .inr rfl⟩, ⟨rfl, .inr rfl⟩, ⟨rfl, .inr rfl⟩, ⟨rfl, .inr rfl⟩, ⟨rfl, .inr rfl⟩, trivial⟩⟩
        ·refine zL (r := f32 x21) rfl rfl rfl (LOp.eqr (LOp.i2f (src := 2) (dst := 36) ⟨_, pun2⟩ pun36 rfl rfl) (congrArg (f .f32) hx11)) ?_
         refine zN ?_
         refine RAny.more (i0 := 1) (l := [6]) (by kernel_rfl) (RAnys.cons rfl ?_ (RAnys.cons rfl ?_ RAnys.nil))
         ·refine ROps.d (r := oref 2 u5 0 L7.length) (fs := []) (Γ' := [⟨0, some [sl a2.length (a2.map (ik .u8)), i64 r18, ik .u64 r19]⟩, ⟨1, some [i64 0, i64 0, nilsl]⟩, ⟨u5, some (L7.map f32)⟩, ⟨1, some [i64 r1, i64 r2, oref 2 u5 0 L7.length]⟩, ⟨u6, none⟩]) rfl rfl rfl (TOp.load1_o rfl rfl agg24 rfl rfl) rfl ?_
          refine zN ?_
          refine RAny.more (i0 := 6) (l := []) (by kernel_rfl) (RAnys.cons rfl ?_ RAnys.nil)
          refine ROps.d (r := f32 x22) (fs := []) (Γ' := [⟨0, some [sl a2.length (a2.map (ik .u8)), i64 r18, ik .u64 r19]⟩, ⟨1, some [i64 0, i64 0, nilsl]⟩, ⟨u5, some (L7.map f32)⟩, ⟨1, some [i64 r1, i64 r2, oref 2 u5 0 L7.length]⟩, ⟨u6, none⟩]) rfl rfl rfl (TOp.eqr (TOp.fop (.inr (.inr (.inr rfl))) rfl (OpF.tmp rfl) (OpF.const rfl (by kernel_rfl) (by kernel_rfl))) (congrArg (f .f32) hx12)) rfl ?_
          refine zN ?_
          refine RAny.more (i0 := 7) (l := []) (by kernel_rfl) (RAnys.cons rfl ?_ RAnys.nil)
          refine ROps.d (r := oref 4 (u6 + 1) 0 1) (fs := [(4, (([x22] : List F).map f32))]) (Γ' := [⟨0, some [sl a2.length (a2.map (ik .u8)), i64 r18, ik .u64 r19]⟩, ⟨1, some [i64 0, i64 0, nilsl]⟩, ⟨u5, some (L7.map f32)⟩, ⟨1, some [i64 r1, i64 r2, oref 2 u5 0 L7.length]⟩, ⟨(u6 + 1), some (([x22] : List F).map f32)⟩]) rfl rfl rfl (TOp.buildSlice_o (g := ⟨u6, none⟩) (za := f32 (some 0)) (qs := [(0, [f32 x22])]) 4 rfl und24 siz36 zer36 rfl zel36 rfl rfl ⟨rfl, ⟨_, ALe.refl _, rfl⟩, trivial⟩ rfl) rfl ?_
          refine zN ?_
          refine RAny.more (i0 := 8) (l := []) (by kernel_rfl) (RAnys.cons rfl ?_ RAnys.nil)
          refine ROps.app (f := f32) (xs := L7) (ys := ([x22] : List F)) (Γ' := [⟨0, some [sl a2.length (a2.map (ik .u8)), i64 r18, ik .u64 r19]⟩, ⟨1, some [i64 0, i64 0, nilsl]⟩, ⟨(u5 + 1), some ((L7 ++ ([x22] : List F)).map f32)⟩, ⟨1, some [i64 r1, i64 r2, oref 2 u5 0 L7.length]⟩, ⟨(u6 + 1), some (([x22] : List F).map f32)⟩]) rfl pun24 inf36 rfl rfl rfl rfl rfl rfl rfl rfl rfl (by simp) (ReadAs.own rfl (by simp)) (ones_map (fun _ => rfl)) (ap_by hm13) (ap_mx hm13) rfl ?_
          refine zN ?_
          refine RAny.more (i0 := 9) (l := []) (by kernel_rfl) (RAnys.cons rfl ?_ RAnys.nil)
          refine zL (r := optr 3 1 2) rfl rfl rfl (LOp.fao und26 rfl siz24 rfl rfl rfl) ?_
          refine zN ?_
          refine RAny.more (i0 := 10) (l := []) (by kernel_rfl) (RAnys.cons rfl ?_ RAnys.nil)
          refine ROps.store_le (r := oref 2 (u5 + 1) 0 (L7.length + 1)) (l' := [i64 r1, i64 r2, oref 2 (u5 + 1) 0 (L7.length + 1)]) (Γ' := [⟨0, some [sl a2.length (a2.map (ik .u8)), i64 r18, ik .u64 r19]⟩, ⟨1, some [i64 0, i64 0, nilsl]⟩, ⟨(u5 + 1), some ((L7 ++ ([x22] : List F)).map f32)⟩, ⟨1, some [i64 r1, i64 r2, oref 2 (u5 + 1) 0 (L7.length + 1)]⟩, ⟨(u6 + 1), some (([x22] : List F).map f32)⟩]) rfl siz24 rfl rfl rfl aR rfl rfl rfl rfl (Nat.le_of_ble_eq_true rfl) rfl rfl ?_
          refine zN ?_
          refine RAny.done (by kernel_rfl) ?_
          exact ⟨⟨aR, aR, aR, aR, aR, aR, aR, aR, aR, aR, aR, aR, aR, aR, aR, aR, trivial⟩, ⟨⟨rfl, .inr rfl⟩, ⟨rfl, .inr rfl⟩, ⟨rfl, .inr rfl⟩, ⟨rfl, .inr rfl⟩, ⟨rfl, .inr rfl⟩, trivial⟩⟩
         ·refine ROps.d (r := f32 x22) (fs := []) (Γ' := [⟨0, some [sl a2.length (a2.map (ik .u8)), i64 r18, ik .u64 r19]⟩, ⟨1, some [i64 0, i64 0, nilsl]⟩, ⟨u5, some (L7.map f32)⟩, ⟨1, some [i64 r1, i64 r2, oref 2 u5 0 L7.length]⟩, ⟨u6, none⟩]) rfl rfl rfl (TOp.eqr (TOp.fop (.inr (.inr (.inr rfl))) rfl (OpF.tmp rfl) (OpF.const rfl (by kernel_rfl) (by kernel_rfl))) (congrArg (f .f32) hx12)) rfl ?_
          refine zN ?_
          refine RAny.more (i0 := 1) (l := [7]) (by kernel_rfl) (RAnys.cons rfl ?_ (RAnys.cons rfl ?_ RAnys.nil))
          ·refine ROps.d (r := oref 2 u5 0 L7.length) (fs := []) (Γ' := [⟨0, some [sl a2.length (a2.map (ik .u8)), i64 r18, ik .u64 r19]⟩, ⟨1, some [i64 0, i64 0, nilsl]⟩, ⟨u5, some (L7.map f32)⟩, ⟨1, some [i64 r1, i64 r2, oref 2 u5 0 L7.length]⟩, ⟨u6, none⟩]) rfl rfl rfl (TOp.load1_o rfl rfl agg24 rfl rfl) rfl ?_
           refine zN ?_
           refine RAny.more (i0 := 7) (l := []) (by kernel_rfl) (RAnys.cons rfl ?_ RAnys.nil)
           refine ROps.d (r := oref 4 (u6 + 1) 0 1) (fs := [(4, (([x22] : List F).map f32))]) (Γ' := [⟨0, some [sl a2.length (a2.map (ik .u8)), i64 r18, ik .u64 r19]⟩, ⟨1, some [i64 0, i64 0, nilsl]⟩, ⟨u5, some (L7.map f32)⟩, ⟨1, some [i64 r1, i64 r2, oref 2 u5 0 L7.length]⟩, ⟨(u6 + 1), some (([x22] : List F).map f32)⟩]) rfl rfl rfl (TOp.buildSlice_o (g := ⟨u6, none⟩) (za := f32 (some 0)) (qs := [(0, [f32 x22])]) 4 rfl und24 siz36 zer36 rfl zel36 rfl rfl ⟨rfl, ⟨_, ALe.refl _, rfl⟩, trivial⟩ rfl) rfl ?_
           refine zN ?_
           refine RAny.more (i0 := 8) (l := []) (by kernel_rfl) (RAnys.cons rfl ?_ RAnys.nil)
           refine ROps.app (f := f32) (xs := L7) (ys := ([x22] : List F)) (Γ' := [⟨0, some [sl a2.length (a2.map (ik .u8)), i64 r18, ik .u64 r19]⟩, ⟨1, some [i64 0, i64 0, nilsl]⟩, ⟨(u5 + 1), some ((L7 ++ ([x22] : List F)).map f32)⟩, ⟨1, some [i64 r1, i64 r2, oref 2 u5 0 L7.length]⟩, ⟨(u6 + 1), some (([x22] : List F).map f32)⟩]) rfl pun24 inf36 rfl rfl rfl rfl rfl rfl rfl rfl rfl (by simp) (ReadAs.own rfl (by simp)) (ones_map (fun _ => rfl)) (ap_by hm13) (ap_mx hm13) rfl ?_
           refine zN ?_
           refine RAny.more (i0 := 9) (l := []) (by kernel_rfl) (RAnys.cons rfl ?_ RAnys.nil)
           refine zL (r := optr 3 1 2) rfl rfl rfl (LOp.fao und26 rfl siz24 rfl rfl rfl) ?_
           refine zN ?_
           refine RAny.more (i0 := 10) (l := []) (by kernel_rfl) (RAnys.cons rfl ?_ RAnys.nil)
           refine ROps.store_le (r := oref 2 (u5 + 1) 0 (L7.length + 1)) (l' := [i64 r1, i64 r2, oref 2 (u5 + 1) 0 (L7.length + 1)]) (Γ' := [⟨0, some [sl a2.length (a2.map (ik .u8)), i64 r18, ik .u64 r19]⟩, ⟨1, some [i64 0, i64 0, nilsl]⟩, ⟨(u5 + 1), some ((L7 ++ ([x22] : List F)).map f32)⟩, ⟨1, some [i64 r1, i64 r2, oref 2 (u5 + 1) 0 (L7.length + 1)]⟩, ⟨(u6 + 1), some (([x22] : List F).map f32)⟩]) rfl siz24 rfl rfl rfl aR rfl rfl rfl rfl (Nat.le_of_ble_eq_true rfl) rfl rfl ?_
           refine zN ?_
           refine RAny.done (by kernel_rfl) ?_
           exact ⟨⟨aR, aR, aR, aR, aR, aR, aR, aR, aR, aR, aR, aR, aR, aR, aR, aR, trivial⟩, ⟨⟨rfl, .inr rfl⟩, ⟨rfl, .inr rfl⟩, ⟨rfl, .inr rfl⟩, ⟨rfl, .inr rfl⟩, ⟨rfl, .inr rfl⟩, trivial⟩⟩
          ·refine ROps.d (r := oref 4 (u6 + 1) 0 1) (fs := [(4, (([x22] : List F).map f32))]) (Γ' := [⟨0, some [sl a2.length (a2.map (ik .u8)), i64 r18, ik .u64 r19]⟩, ⟨1, some [i64 0, i64 0, nilsl]⟩, ⟨u5, some (L7.map f32)⟩, ⟨1, some [i64 r1, i64 r2, oref 2 u5 0 L7.length]⟩, ⟨(u6 + 1), some (([x22] : List F).map f32)⟩]) rfl rfl rfl (TOp.buildSlice_o (g := ⟨u6, none⟩) (za := f32 (some 0)) (qs := [(0, [f32 x22])]) 4 rfl und24 siz36 zer36 rfl zel36 rfl rfl ⟨rfl, ⟨_, ALe.refl _, rfl⟩, trivial⟩ rfl) rfl ?_
           refine zN ?_
           refine RAny.more (i0 := 1) (l := []) (by kernel_rfl) (RAnys.cons rfl ?_ RAnys.nil)
           refine ROps.d (r := oref 2 u5 0 L7.length) (fs := []) (Γ' := [⟨0, some [sl a2.length (a2.map (ik .u8)), i64 r18, ik .u64 r19]⟩, ⟨1, some [i64 0, i64 0, nilsl]⟩, ⟨u5, some (L7.map f32)⟩, ⟨1, some [i64 r1, i64 r2, oref 2 u5 0 L7.length]⟩, ⟨(u6 + 1), some (([x22] : List F).map f32)⟩]) rfl rfl rfl (TOp.load1_o rfl rfl agg24 rfl rfl) rfl ?_
           refine zN ?_
           refine RAny.more (i0 := 8) (l := []) (by kernel_rfl) (RAnys.cons rfl ?_ RAnys.nil)
           refine ROps.app (f := f32) (xs := L7) (ys := ([x22] : List F)) (Γ' := [⟨0, some [sl a2.length (a2.map (ik .u8)), i64 r18, ik .u64 r19]⟩, ⟨1, some [i64 0, i64 0, nilsl]⟩, ⟨(u5 + 1), some ((L7 ++ ([x22] : List F)).map f32)⟩, ⟨1, some [i64 r1, i64 r2, oref 2 u5 0 L7.length]⟩, ⟨(u6 + 1), some (([x22] : List F).map f32)⟩]) rfl pun24 inf36 rfl rfl rfl rfl rfl rfl rfl rfl rfl (by simp) (ReadAs.own rfl (by simp)) (ones_map (fun _ => rfl)) (ap_by hm13) (ap_mx hm13) rfl ?_
           refine zN ?_
           refine RAny.more (i0 := 9) (l := []) (by kernel_rfl) (RAnys.cons rfl ?_ RAnys.nil)
           refine zL (r := optr 3 1 2) rfl rfl rfl (LOp.fao und26 rfl siz24 rfl rfl rfl) ?_
           refine zN ?_
           refine RAny.more (i0 := 10) (l := []) (by kernel_rfl) (RAnys.cons rfl ?_ RAnys.nil)
           refine ROps.store_le (r := oref 2 (u5 + 1) 0 (L7.length + 1)) (l' := [i64 r1, i64 r2, oref 2 (u5 + 1) 0 (L7.length + 1)]) (Γ' := [⟨0, some [sl a2.length (a2.map (ik .u8)), i64 r18, ik .u64 r19]⟩, ⟨1, some [i64 0, i64 0, nilsl]⟩, ⟨(u5 + 1), some ((L7 ++ ([x22] : List F)).map f32)⟩, ⟨1, some [i64 r1, i64 r2, oref 2 (u5 + 1) 0 (L7.length + 1)]⟩, ⟨(u6 + 1), some (([x22] : List F).map f32)⟩]) rfl siz24 rfl rfl rfl aR rfl rfl rfl rfl (Nat.le_of_ble_eq_true rfl) rfl rfl ?_
           refine zN ?_
           refine RAny.done (by kernel_rfl) ?_
           exact ⟨⟨aR, aR, aR, aR, aR, aR, aR, aR, aR, aR, aR, aR, aR, aR, aR, aR, trivial⟩, ⟨⟨rfl, .inr rfl⟩, ⟨rfl, .inr rfl⟩, ⟨rfl, .inr rfl⟩, ⟨rfl, .inr rfl⟩, ⟨rfl, .inr rfl⟩, trivial⟩⟩
      ·refine zL (r := i64 x20) rfl rfl rfl (LOp.eqr (LOp.sub rfl rfl rfl) (congrArg (ik .i64) hx10)) ?_
       refine zN ?_
       refine RAny.more (i0 := 0) (l := [5]) (by kernel_rfl) (RAnys.cons rfl ?_ (RAnys.cons rfl ?_ RAnys.nil))
       ·refine zL (r := optr 3 1 2) rfl rfl rfl (LOp.fao und26 rfl siz24 rfl rfl rfl) ?_
        refine zN ?_
        refine RAny.more (i0 := 1) (l := [5]) (by kernel_rfl) (RAnys.cons rfl ?_ (RAnys.cons rfl ?_ RAnys.nil))
        ·refine ROps.d (r := oref 2 u5 0 L7.length) (fs := []) (Γ' := [⟨0, some [sl a2.length (a2.map (ik .u8)), i64 r18, ik .u64 r19]⟩, ⟨1, some [i64 0, i64 0, nilsl]⟩, ⟨u5, some (L7.map f32)⟩, ⟨1, some [i64 r1, i64 r2, oref 2 u5 0 L7.length]⟩, ⟨u6, none⟩]) rfl rfl rfl (TOp.load1_o rfl rfl agg24 rfl rfl) rfl ?_
         refine zN ?_
         refine RAny.more (i0 := 5) (l := []) (by kernel_rfl) (RAnys.cons rfl ?_ RAnys.nil)
         refine zL (r := f32 x21) rfl rfl rfl (LOp.eqr (LOp.i2f (src := 2) (dst := 36) ⟨_, pun2⟩ pun36 rfl rfl) (congrArg (f .f32) hx11)) ?_
         refine zN ?_
         refine RAny.more (i0 := 6) (l := []) (by kernel_rfl) (RAnys.cons rfl ?_ RAnys.nil)
         refine ROps.d (r := f32 x22) (fs := []) (Γ' := [⟨0, some [sl a2.length (a2.map (ik .u8)), i64 r18, ik .u64 r19]⟩, ⟨1, some [i64 0, i64 0, nilsl]⟩, ⟨u5, some (L7.map f32)⟩, ⟨1, some [i64 r1, i64 r2, oref 2 u5 0 L7.length]⟩, ⟨u6, none⟩]) rfl rfl rfl (TOp.eqr (TOp.fop (.inr (.inr (.inr rfl))) rfl (OpF.tmp rfl) (OpF.const rfl (by kernel_rfl) (by kernel_rfl))) (congrArg (f .f32) hx12)) rfl ?_
         refine zN ?_
         refine RAny.more (i0 := 7) (l := []) (by kernel_rfl) (RAnys.cons rfl ?_ RAnys.nil)
         refine ROps.d (r := oref 4 (u6 + 1) 0 1) (fs := [(4, (([x22] : List F).map f32))]) (Γ' := [⟨0, some [sl a2.length (a2.map (ik .u8)), i64 r18, ik .u64 r19]⟩, ⟨1, some [i64 0, i64 0, nilsl]⟩, ⟨u5, some (L7.map f32)⟩, ⟨1, some [i64 r1, i64 r2, oref 2 u5 0 L7.length]⟩, ⟨(u6 + 1), some (([x22] : List F).map f32)⟩]) rfl rfl rfl (TOp.buildSlice_o (g := ⟨u6, none⟩) (za := f32 (some 0)) (qs := [(0, [f32 x22])]) 4 rfl und24 siz36 zer36 rfl zel36 rfl rfl ⟨rfl, ⟨_, ALe.refl _, rfl⟩, trivial⟩ rfl) rfl ?_
         refine zN ?_
         refine RAny.more (i0 := 8) (l := []) (by kernel_rfl) (RAnys.cons rfl ?_ RAnys.nil)
         refine ROps.app (f := f32) (xs := L7) (ys := ([x22] : List F)) (Γ' := [⟨0, some [sl a2.length (a2.map (ik .u8)), i64 r18, ik .u64 r19]⟩, ⟨1, some [i64 0, i64 0, nilsl]⟩, ⟨(u5 + 1), some ((L7 ++ ([x22] : List F)).map f32)⟩, ⟨1, some [i64 r1, i64 r2, oref 2 u5 0 L7.length]⟩, ⟨(u6 + 1), some (([x22] : List F).map f32)⟩]) rfl pun24 inf36 rfl rfl rfl rfl rfl rfl rfl rfl rfl (by simp) (ReadAs.own rfl (by simp)) (ones_map (fun _ => rfl)) (ap_by hm13) (ap_mx hm13) rfl ?_
         refine zN ?_
         refine RAny.more (i0 := 9) (l := []) (by kernel_rfl) (RAnys.cons rfl ?_ RAnys.nil)
         refine zL (r := optr 3 1 2) rfl rfl rfl (LOp.fao und26 rfl siz24 rfl rfl rfl) ?_
         refine zN ?_
         refine RAny.more (i0 := 10) (l := []) (by kernel_rfl) (RAnys.cons rfl ?_ RAnys.nil)
         refine ROps.store_le (r := oref 2 (u5 + 1) 0 (L7.length + 1)) (l' := [i64 r1, i64 r2, oref 2 (u5 + 1) 0 (L7.length + 1)]) (Γ' := [⟨0, some [sl a2.length (a2.map (ik .u8)), i64 r18, ik .u64 r19]⟩, ⟨1, some [i64 0, i64 0, nilsl]⟩, ⟨(u5 + 1), some ((L7 ++ ([x22] : List F)).map f32)⟩, ⟨1, some [i64 r1, i64 r2, oref 2 (u5 + 1) 0 (L7.length + 1)]⟩, ⟨(u6 + 1), some (([x22] : List F).map f32)⟩]) rfl siz24 rfl rfl rfl aR rfl rfl rfl rfl (Nat.le_of_ble_eq_true rfl) rfl rfl ?_
         refine zN ?_
         refine RAny.done (by kernel_rfl) ?_
         exact ⟨⟨aR, aR, aR, aR, aR, aR, aR, aR, aR, aR, aR, aR, aR, aR, aR, aR, trivial⟩, ⟨⟨rfl, .inr rfl⟩, ⟨rfl, .inr rfl⟩, ⟨rfl, .inr rfl⟩, ⟨rfl, .inr rfl⟩, ⟨rfl, .inr rfl⟩, trivial⟩⟩
        ·refine zL (r := f32 x21) rfl rfl rfl (LOp.eqr (LOp.i2f (src := 2) (dst := 36) ⟨_, pun2⟩ pun36 rfl rfl) (congrArg (f .f32) hx11)) ?_
         refine zN ?_
         refine RAny.more (i0 := 1) (l := [6]) (by kernel_rfl) (RAnys.cons rfl ?_ (RAnys.cons rfl ?_ RAnys.nil))
         ·refine ROps.d (r := oref 2 u5 0 L7.length) (fs := []) (Γ' := [⟨0, some [sl a2.length (a2.map (ik .u8)), i64 r18, ik .u64 r19]⟩, ⟨1, some [i64 0, i64 0, nilsl]⟩, ⟨u5, some (L7.map f32)⟩, ⟨1, some [i64 r1, i64 r2, oref 2 u5 0 L7.length]⟩, ⟨u6, none⟩]) rfl rfl rfl (TOp.load1_o rfl rfl agg24 rfl rfl) rfl ?_
          refine zN ?_
          refine RAny.more (i0 := 6) (l := []) (by kernel_rfl) (RAnys.cons rfl ?_ RAnys.nil)
          refine ROps.d (r := f32 x22) (fs := []) (Γ' := [⟨0, some [sl a2.length (a2.map (ik .u8)), i64 r18, ik .u64 r19]⟩, ⟨1, some [i64 0, i64 0, nilsl]⟩, ⟨u5, some (L7.map f32)⟩, ⟨1, some [i64 r1, i64 r2, oref 2 u5 0 L7.length]⟩, ⟨u6, none⟩]) rfl rfl rfl (TOp.eqr (TOp.fop (.inr (.inr (.inr rfl))) rfl (OpF.tmp rfl) (OpF.const rfl (by kernel_rfl) (by kernel_rfl))) (congrArg (f .f32) hx12)) rfl ?_
          refine zN ?_
          refine RAny.more (i0 := 7) (l := []) (by kernel_rfl) (RAnys.cons rfl ?_ RAnys.nil)
          refine ROps.d (r := oref 4 (u6 + 1) 0 1) (fs := [(4, (([x22] : List F).map f32))]) (Γ' := [⟨0, some [sl a2.length (a2.map (ik .u8)), i64 r18, ik .u64 r19]⟩, ⟨1, some [i64 0, i64 0, nilsl]⟩, ⟨u5, some (L7.map f32)⟩, ⟨1, some [i64 r1, i64 r2, oref 2 u5 0 L7.length]⟩, ⟨(u6 + 1), some (([x22] : List F).map f32)⟩]) rfl rfl rfl (TOp.buildSlice_o (g := ⟨u6, none⟩) (za := f32 (some 0)) (qs := [(0, [f32 x22])]) 4 rfl und24 siz36 zer36 rfl zel36 rfl rfl ⟨rfl, ⟨_, ALe.refl _, rfl⟩, trivial⟩ rfl) rfl ?_
          refine zN ?_
          refine RAny.more (i0 := 8) (l := []) (by kernel_rfl) (RAnys.cons rfl ?_ RAnys.nil)
          refine ROps.app (f := f32) (xs := L7) (ys := ([x22] : List F)) (Γ' := [⟨0, some [sl a2.length (a2.map (ik .u8)), i64 r18, ik .u64 r19]⟩, ⟨1, some [i64 0, i64 0, nilsl]⟩, ⟨(u5 + 1), some ((L7 ++ ([x22] : List F)).map f32)⟩, ⟨1, some [i64 r1, i64 r2, oref 2 u5 0 L7.length]⟩, ⟨(u6 + 1), some (([x22] : List F).map f32)⟩]) rfl pun24 inf36 rfl rfl rfl rfl rfl rfl rfl rfl rfl (by simp) (ReadAs.own rfl (by simp)) (ones_map (fun _ => rfl)) (ap_by hm13) (ap_mx hm13) rfl ?_
          refine zN ?_
          refine RAny.more (i0 := 9) (l := []) (by kernel_rfl) (RAnys.cons rfl ?_ RAnys.nil)
          refine zL (r := optr 3 1 2) rfl rfl rfl (LOp.fao und26 rfl siz24 rfl rfl rfl) ?_
          refine zN ?_
          refine RAny.more (i0 := 10) (l := []) (by kernel_rfl) (RAnys.cons rfl ?_ RAnys.nil)
          refine ROps.store_le (r := oref 2 (u5 + 1) 0 (L7.length + 1)) (l' := [i64 r1, i64 r2, oref 2 (u5 + 1) 0 (L7.length + 1)]) (Γ' := [⟨0, some [sl a2.length (a2.map (ik .u8)), i64 r18, ik .u64 r19]⟩, ⟨1, some [i64 0, i64 0, nilsl]⟩, ⟨(u5 + 1), some ((L7 ++ ([x22] : List F)).map f32)⟩, ⟨1, some [i64 r1, i64 r2, oref 2 (u5 + 1) 0 (L7.length + 1)]⟩, ⟨(u6 + 1), some (([x22] : List F).map f32)⟩]) rfl siz24 rfl rfl rfl aR rfl rfl rfl rfl (Nat.le_of_ble_eq_true rfl) rfl rfl ?_
          refine zN ?_
          refine RAny.done (by kernel_rfl) ?_
          exact ⟨⟨aR, aR, aR, aR, aR, aR, aR, aR, aR, aR, aR, aR, aR, aR, aR, aR, trivial⟩, ⟨⟨rfl, .inr rfl⟩, ⟨rfl, .inr rfl⟩, ⟨rfl, .inr rfl⟩, ⟨rfl, .inr rfl⟩, ⟨rfl, .inr rfl⟩, trivial⟩⟩
         ·refine ROps.d (r := f32 x22) (fs := []) (Γ' := [⟨0, some [sl a2.length (a2.map (ik .u8)), i64 r18, ik .u64 r19]⟩, ⟨1, some [i64 0, i64 0, nilsl]⟩, ⟨u5, some (L7.map f32)⟩, ⟨1, some [i64 r1, i64 r2, oref 2 u5 0 L7.length]⟩, ⟨u6, none⟩]) rfl rfl rfl (TOp.eqr (TOp.fop (.inr (.inr (.inr rfl))) rfl (OpF.tmp rfl) (OpF.const rfl (by kernel_rfl) (by kernel_rfl))) (congrArg (f .f32) hx12)) rfl ?_
          refine zN ?_
          refine RAny.more (i0 := 1) (l := [7]) (by kernel_rfl) (RAnys.cons rfl ?_ (RAnys.cons rfl ?_ RAnys.nil))
          ·refine ROps.d (r := oref 2 u5 0 L7.length) (fs := []) (Γ' := [⟨0, some [sl a2.length (a2.map (ik .u8)), i64 r18, ik .u64 r19]⟩, ⟨1, some [i64 0, i64 0, nilsl]⟩, ⟨u5, some (L7.map f32)⟩, ⟨1, some [i64 r1, i64 r2, oref 2 u5 0 L7.length]⟩, ⟨u6, none⟩]) rfl rfl rfl (TOp.load1_o rfl rfl agg24 rfl rfl) rfl ?_
           refine zN ?_
           refine RAny.more (i0 := 7) (l := []) (by kernel_rfl) (RAnys.cons rfl ?_ RAnys.nil)
           refine ROps.d (r := oref 4 (u6 + 1) 0 1) (fs := [(4, (([x22] : List F).map f32))]) (Γ' := [⟨0, some [sl a2.length (a2.map (ik .u8)), i64 r18, ik .u64 r19]⟩, ⟨1, some [i64 0, i64 0, nilsl]⟩, ⟨u5, some (L7.map f32)⟩, ⟨1, some [i64 r1, i64 r2, oref 2 u5 0 L7.length]⟩, ⟨(u6 + 1), some (([x22] : List F).map f32)⟩]) rfl rfl rfl (TOp.buildSlice_o (g := ⟨u6, none⟩) (za := f32 (some 0)) (qs := [(0, [f32 x22])]) 4 rfl und24 siz36 zer36 rfl zel36 rfl rfl ⟨rfl, ⟨_, ALe.refl _, rfl⟩, trivial⟩ rfl) rfl ?_
           refine zN ?_
           refine RAny.more (i0 := 8) (l := []) (by kernel_rfl) (RAnys.cons rfl ?_ RAnys.nil)
           refine ROps.app (f := f32) (xs := L7) (ys := ([x22] : List F)) (Γ' := [⟨0, some [sl a2.length (a2.map (ik .u8)), i64 r18, ik .u64 r19]⟩, ⟨1, some [i64 0, i64 0, nilsl]⟩, ⟨(u5 + 1), some ((L7 ++ ([x22] : List F)).map f32)⟩, ⟨1, some [i64 r1, i64 r2, oref 2 u5 0 L7.length]⟩, ⟨(u6 + 1), some (([x22] : List F).map f32)⟩]) rfl pun24 inf36 rfl rfl rfl rfl rfl rfl rfl rfl rfl (by simp) (ReadAs.own rfl (by simp)) (ones_map (fun _ => rfl)) (ap_by hm13) (ap_mx hm13) rfl ?_
           refine zN ?_
           refine RAny.more (i0 := 9) (l := []) (by kernel_rfl) (RAnys.cons rfl ?_ RAnys.nil)
           refine zL (r := optr 3 1 2) rfl rfl rfl (LOp.fao und26 rfl siz24 rfl rfl rfl) ?_
           refine zN ?_
           refine RAny.more (i0 := 10) (l := []) (by kernel_rfl) (RAnys.cons rfl ?_ RAnys.nil)
           refine ROps.store_le (r := oref 2 (u5 + 1) 0 (L7.length + 1)) (l' := [i64 r1, i64 r2, oref 2 (u5 + 1) 0 (L7.length + 1)]) (Γ' := [⟨0, some [sl a2.length (a2.map (ik .u8)), i64 r18, ik .u64 r19]⟩, ⟨1, some [i64 0, i64 0, nilsl]⟩, ⟨(u5 + 1), some ((L7 ++ ([x22] : List F)).map f32)⟩, ⟨1, some [i64 r1, i64 r2, oref 2 (u5 + 1) 0 (L7.length + 1)]⟩, ⟨(u6 + 1), some (([x22] : List F).map f32)⟩]) rfl siz24 rfl rfl rfl aR rfl rfl rfl rfl (Nat.le_of_ble_eq_true rfl) rfl rfl ?_
           refine zN ?_
           refine RAny.done (by kernel_rfl) ?_
           exact ⟨⟨aR, aR, aR, aR, aR, aR, aR, aR, aR, aR, aR, aR, aR, aR, aR, aR, trivial⟩, ⟨⟨rfl, .inr rfl⟩, ⟨rfl, .inr rfl⟩, ⟨rfl, .inr rfl⟩, ⟨rfl, .inr rfl⟩, ⟨rfl, .inr rfl⟩, trivial⟩⟩
          ·refine ROps.d (r := oref 4 (u6 + 1) 0 1) (fs := [(4, (([x22] : List F).map f32))]) (Γ' := [⟨0, some [sl a2.length (a2.map (ik .u8)), i64 r18, ik .u64 r19]⟩, ⟨1, some [i64 0, i64 0, nilsl]⟩, ⟨u5, some (L7.map f32)⟩, ⟨1, some [i64 r1, i64 r2, oref 2 u5 0 L7.length]⟩, ⟨(u6 + 1), some (([x22] : List F).map f32)⟩]) rfl rfl rfl (TOp.buildSlice_o (g := ⟨u6, none⟩) (za := f32 (some 0)) (qs := [(0, [f32 x22])]) 4 rfl und24 siz36 zer36 rfl zel36 rfl rfl ⟨rfl, ⟨_, ALe.refl _, rfl⟩, trivial⟩ rfl) rfl ?_
           refine zN ?_
           refine RAny.more (i0 := 1) (l := []) (by kernel_rfl) (RAnys.cons rfl ?_ RAnys.nil)
           refine ROps.d (r := oref 2 u5 0 L7.length) (fs := []) (Γ' := [⟨0, some [sl a2.length (a2.map (ik .u8)), i64 r18, ik .u64 r19]⟩, ⟨1, some [i64 0, i64 0, nilsl]⟩, ⟨u5, some (L7.map f32)⟩, ⟨1, some [i64 r1, i64 r2, oref 2 u5 0 L7.length]⟩, ⟨(u6 + 1), some (([x22] : List F).map f32)⟩]) rfl rfl rfl (TOp.load1_o rfl rfl agg24 rfl rfl) rfl ?_
           refine zN ?_
           refine RAny.more (i0 := 8) (l := []) (by kernel_rfl) (RAnys.cons rfl ?_ RAnys.nil)
           refine ROps.app (f := f32) (xs := L7) (ys := ([x22] : List F)) (Γ' := [⟨0, some [sl a2.length (a2.map (ik .u8)), i64 r18, ik .u64 r19]⟩, ⟨1, some [i64 0, i64 0, nilsl]⟩, ⟨(u5 + 1), some ((L7 ++ ([x22] : List F)).map f32)⟩, ⟨1, some [i64 r1, i64 r2, oref 2 u5 0 L7.length]⟩, ⟨(u6 + 1), some (([x22] : List F).map f32)⟩]) rfl pun24 inf36 rfl rfl rfl rfl rfl rfl rfl rfl rfl (by simp) (ReadAs.own rfl (by simp)) (ones_map (fun _ => rfl)) (ap_by hm13) (ap_mx hm13) rfl ?_
           refine zN ?_
           refine RAny.more (i0 := 9) (l := []) (by kernel_rfl) (RAnys.cons rfl ?_ RAnys.nil)
           refine zL (r := optr 3 1 2) rfl rfl rfl (LOp.fao und26 rfl siz24 rfl rfl rfl) ?_
           refine zN ?_
           refine RAny.more (i0 := 10) (l := []) (by kernel_rfl) (RAnys.cons rfl ?_ RAnys.nil)
           refine ROps.store_le (r := oref 2 (u5 + 1) 0 (L7.length + 1)) (l' := [i64 r1, i64 r2, oref 2 (u5 + 1) 0 (L7.length + 1)]) (Γ' := [⟨0, some [sl a2.length (a2.map (ik .u8)), i64 r18, ik .u64 r19]⟩, ⟨1, some [i64 0, i64 0, nilsl]⟩, ⟨(u5 + 1), some ((L7 ++ ([x22] : List F)).map f32)⟩, ⟨1, some [i64 r1, i64 r2, oref 2 (u5 + 1) 0 (L7.length + 1)]⟩, ⟨(u6 + 1), some (([x22] : List F).map f32)⟩]) rfl siz24 rfl rfl rfl aR rfl rfl rfl rfl (Nat.le_of_ble_eq_true rfl) rfl rfl ?_
           refine zN ?_
           refine RAny.done (by kernel_rfl) ?_
           exact ⟨⟨aR, aR, aR, aR, aR, aR, aR, aR, aR, aR, aR, aR, aR, aR, aR, aR, trivial⟩, ⟨⟨rfl, .inr rfl⟩, ⟨rfl, .inr rfl⟩, ⟨rfl, .inr rfl⟩, ⟨rfl, .inr rfl⟩, ⟨rfl, .inr rfl⟩, trivial⟩⟩
       ·refine zL (r := f32 x21) rfl rfl rfl (LOp.eqr (LOp.i2f (src := 2) (dst := 36) ⟨_, pun2⟩ pun36 rfl rfl) (congrArg (f .f32) hx11)) ?_
        refine zN ?_
        refine RAny.more (i0 := 0) (l := [6]) (by kernel_rfl) (RAnys.cons rfl ?_ (RAnys.cons rfl ?_ RAnys.nil))
        ·refine zL (r := optr 3 1 2) rfl rfl rfl (LOp.fao und26 rfl siz24 rfl rfl rfl) ?_
         refine zN ?_
         refine RAny.more (i0 := 1) (l := [6]) (by kernel_rfl) (RAnys.cons rfl ?_ (RAnys.cons rfl ?_ RAnys.nil))
         ·refine ROps.d (r := oref 2 u5 0 L7.length) (fs := []) (Γ' := [⟨0, some [sl a2.length (a2.map (ik .u8)), i64 r18, ik .u64 r19]⟩, ⟨1, some [i64 0, i64 0, nilsl]⟩, ⟨u5, some (L7.map f32)⟩, ⟨1, some [i64 r1, i64 r2, oref 2 u5 0 L7.length]⟩, ⟨u6, none⟩]) rfl rfl rfl (TOp.load1_o rfl rfl agg24 rfl rfl) rfl ?_
          refine zN ?_
          refine RAny.more (i0 := 6) (l := []) (by kernel_rfl) (RAnys.cons rfl ?_ RAnys.nil)
          refine ROps.d (r := f32 x22) (fs := []) (Γ' := [⟨0, some [sl a2.length (a2.map (ik .u8)), i64 r18, ik .u64 r19]⟩, ⟨1, some [i64 0, i64 0, nilsl]⟩, ⟨u5, some (L7.map f32)⟩, ⟨1, some [i64 r1, i64 r2, oref 2 u5 0 L7.length]⟩, ⟨u6, none⟩]) rfl rfl rfl (TOp.eqr (TOp.fop (.inr (.inr (.inr rfl))) rfl (OpF.tmp rfl) (OpF.const rfl (by kernel_rfl) (by kernel_rfl))) (congrArg (f .f32) hx12)) rfl ?_
          refine zN ?_
          refine RAny.more (i0 := 7) (l := []) (by kernel_rfl) (RAnys.cons rfl ?_ RAnys.nil)
          refine ROps.d (r := oref 4 (u6 + 1) 0 1) (fs := [(4, (([x22] : List F).map f32))]) (Γ' := [⟨0, some [sl a2.length (a2.map (ik .u8)), i64 r18, ik .u64 r19]⟩, ⟨1, some [i64 0, i64 0, nilsl]⟩, ⟨u5, some (L7.map f32)⟩, ⟨1, some [i64 r1, i64 r2, oref 2 u5 0 L7.length]⟩, ⟨(u6 + 1), some (([x22] : List F).map f32)⟩]) rfl rfl rfl (TOp.buildSlice_o (g := ⟨u6, none⟩) (za := f32 (some 0)) (qs := [(0, [f32 x22])]) 4 rfl und24 siz36 zer36 rfl zel36 rfl rfl ⟨rfl, ⟨_, ALe.refl _, rfl⟩, trivial⟩ rfl) rfl ?_
          refine zN ?_
          refine RAny.more (i0 := 8) (l := []) (by kernel_rfl) (RAnys.cons rfl ?_ RAnys.nil)
          refine ROps.app (f := f32) (xs := L7) (ys := ([x22] : List F)) (Γ' := [⟨0, some [sl a2.length (a2.map (ik .u8)), i64 r18, ik .u64 r19]⟩, ⟨1, some [i64 0, i64 0, nilsl]⟩, ⟨(u5 + 1), some ((L7 ++ ([x22] : List F)).map f32)⟩, ⟨1, some [i64 r1, i64 r2, oref 2 u5 0 L7.length]⟩, ⟨(u6 + 1), some (([x22] : List F).map f32)⟩]) rfl pun24 inf36 rfl rfl rfl rfl rfl rfl rfl rfl rfl (by simp) (ReadAs.own rfl (by simp)) (ones_map (fun _ => rfl)) (ap_by hm13) (ap_mx hm13) rfl ?_
          refine zN ?_
          refine RAny.more (i0 := 9) (l := []) (by kernel_rfl) (RAnys.cons rfl ?_ RAnys.nil)
          refine zL (r := optr 3 1 2) rfl rfl rfl (LOp.fao und26 rfl siz24 rfl rfl rfl) ?_
          refine zN ?_
          refine RAny.more (i0 := 10) (l := []) (by kernel_rfl) (RAnys.cons rfl ?_ RAnys.nil)
          refine ROps.store_le (r := oref 2 (u5 + 1) 0 (L7.length + 1)) (l' := [i64 r1, i64 r2, oref 2 (u5 + 1) 0 (L7.length + 1)]) (Γ' := [⟨0, some [sl a2.length (a2.map (ik .u8)), i64 r18, ik .u64 r19]⟩, ⟨1, some [i64 0, i64 0, nilsl]⟩, ⟨(u5 + 1), some ((L7 ++ ([x22] : List F)).map f32)⟩, ⟨1, some [i64 r1, i64 r2, oref 2 (u5 + 1) 0 (L7.length + 1)]⟩, ⟨(u6 + 1), some (([x22] : List F).map f32)⟩]) rfl siz24 rfl rfl rfl aR rfl rfl rfl rfl (Nat.le_of_ble_eq_true rfl) rfl rfl ?_
          refine zN ?_
          refine RAny.done (by kernel_rfl) ?_
          exact ⟨⟨aR, aR, aR, aR, aR, aR, aR, aR, aR, aR, aR, aR, aR, aR, aR, aR, trivial⟩, ⟨⟨rfl, .inr rfl⟩, ⟨rfl, .inr rfl⟩, ⟨rfl, .inr rfl⟩, ⟨rfl, .inr rfl⟩, ⟨rfl, .inr rfl⟩, trivial⟩⟩
         ·refine ROps.d (r := f32 x22) (fs := []) (Γ' := [⟨0, some [sl a2.length (a2.map (ik .u8)), i64 r18, ik .u64 r19]⟩, ⟨1, some [i64 0, i64 0, nilsl]⟩, ⟨u5, some (L7.map f32)⟩, ⟨1, some [i64 r1, i64 r2, oref 2 u5 0 L7.length]⟩, ⟨u6, none⟩]) rfl rfl rfl (TOp.eqr (TOp.fop (.inr (.inr (.inr rfl))) rfl (OpF.tmp rfl) (OpF.const rfl (by kernel_rfl) (by kernel_rfl))) (congrArg (f .f32) hx12)) rfl ?_
          refine zN ?_
          refine RAny.more (i0 := 1) (l := [7]) (by kernel_rfl) (RAnys.cons rfl ?_ (RAnys.cons rfl ?_ RAnys.nil))
          ·refine ROps.d (r := oref 2 u5 0 L7.length) (fs := []) (Γ' := [⟨0, some [sl a2.length (a2.map (ik .u8)), i64 r18, ik .u64 r19]⟩, ⟨1, some [i64 0, i64 0, nilsl]⟩, ⟨u5, some (L7.map f32)⟩, ⟨1, some [i64 r1, i64 r2, oref 2 u5 0 L7.length]⟩, ⟨u6, none⟩]) rfl rfl rfl (TOp.load1_o rfl rfl agg24 rfl rfl) rfl ?_
           refine zN ?_
           refine RAny.more (i0 := 7) (l := []) (by kernel_rfl) (RAnys.cons rfl ?_ RAnys.nil)
           refine ROps.d (r := oref 4 (u6 + 1) 0 1) (fs := [(4, (([x22] : List F).map f32))]) (Γ' := [⟨0, some [sl a2.length (a2.map (ik .u8)), i64 r18, ik .u64 r19]⟩, ⟨1, some [i64 0, i64 0, nilsl]⟩, ⟨u5, some (L7.map f32)⟩, ⟨1, some [i64 r1, i64 r2, oref 2 u5 0 L7.length]⟩, ⟨(u6 + 1), some (([x22] : List F).map f32)⟩]) rfl rfl rfl (TOp.buildSlice_o (g := ⟨u6, none⟩) (za := f32 (some 0)) (qs := [(0, [f32 x22])]) 4 rfl und24 siz36 zer36 rfl zel36 rfl rfl ⟨rfl, ⟨_, ALe.refl _, rfl⟩, trivial⟩ rfl) rfl ?_
           refine zN ?_
           refine RAny.more (i0 := 8) (l := []) (by kernel_rfl) (RAnys.cons rfl ?_ RAnys.nil)
           refine ROps.app (f := f32) (xs := L7) (ys := ([x22] : List F)) (Γ' := [⟨0, some [sl a2.length (a2.map (ik .u8)), i64 r18, ik .u64 r19]⟩, ⟨1, some [i64 0, i64 0, nilsl]⟩, ⟨(u5 + 1), some ((L7 ++ ([x22] : List F)).map f32)⟩, ⟨1, some [i64 r1, i64 r2, oref 2 u5 0 L7.length]⟩, ⟨(u6 + 1), some (([x22] : List F).map f32)⟩]) rfl pun24 inf36 rfl rfl rfl rfl rfl rfl rfl rfl rfl (by simp) (ReadAs.own rfl (by simp)) (ones_map (fun _ => rfl)) (ap_by hm13) (ap_mx hm13) rfl ?_
           refine zN ?_
           refine RAny.more (i0 := 9) (l := []) (by kernel_rfl) (RAnys.cons rfl ?_ RAnys.nil)
           refine zL (r := optr 3 1 2) rfl rfl rfl (LOp.fao und26 rfl siz24 rfl rfl rfl) ?_
           refine zN ?_
           refine RAny.more (i0 := 10) (l := []) (by kernel_rfl) (RAnys.cons rfl ?_ RAnys.nil)
           refine ROps.store_le (r := oref 2 (u5 + 1) 0 (L7.length + 1)) (l' := [i64 r1, i64 r2, oref 2 (u5 + 1) 0 (L7.length + 1)]) (Γ' := [⟨0, some [sl a2.length (a2.map (ik .u8)), i64 r18, ik .u64 r19]⟩, ⟨1, some [i64 0, i64 0, nilsl]⟩, ⟨(u5 + 1), some ((L7 ++ ([x22] : List F)).map f32)⟩, ⟨1, some [i64 r1, i64 r2, oref 2 (u5 + 1) 0 (L7.length + 1)]⟩, ⟨(u6 + 1), some (([x22] : List F).map f32)⟩]) rfl siz24 rfl rfl rfl aR rfl rfl rfl rfl (Nat.le_of_ble_eq_true rfl) rfl rfl ?_
           refine zN ?_
           refine RAny.done (by kernel_rfl) ?_
           exact ⟨⟨aR, aR, aR, aR, aR, aR, aR, aR, aR, aR, aR, aR, aR, aR, aR, aR, trivial⟩, ⟨⟨rfl, .inr rfl⟩, ⟨rfl, .inr rfl⟩, ⟨rfl, .inr rfl⟩, ⟨rfl, .inr rfl⟩, ⟨rfl, .inr rfl⟩, trivial⟩⟩
          ·refine ROps.d (r := oref 4 (u6 + 1) 0 1) (fs := [(4, (([x22] : List F).map f32))]) (Γ' := [⟨0, some [sl a2.length (a2.map (ik .u8)), i64 r18, ik .u64 r19]⟩, ⟨1, some [i64 0, i64 0, nilsl]⟩, ⟨u5, some (L7.map f32)⟩, ⟨1, some [i64 r1, i64 r2, oref 2 u5 0 L7.length]⟩, ⟨(u6 + 1), some (([x22] : List F).map f32)⟩]) rfl rfl rfl (TOp.buildSlice_o (g := ⟨u6, none⟩) (za := f32 (some 0)) (qs := [(0, [f32 x22])]) 4 rfl und24 siz36 zer36 rfl zel36 rfl rfl ⟨rfl, ⟨_, ALe.refl _, rfl⟩, trivial⟩ rfl) rfl ?_
           refine zN ?_
           refine RAny.more (i0 := 1) (l := []) (by kernel_rfl) (RAnys.cons rfl ?_ RAnys.nil)
           refine ROps.d (r := oref 2 u5 0 L7.length) (fs := []) (Γ' := [⟨0, some [sl a2.length (a2.map (ik .u8)), i64 r18, ik .u64 r19]⟩, ⟨1, some [i64 0, i64 0, nilsl]⟩, ⟨u5, some (L7.map f32)⟩, ⟨1, some [i64 r1, i64 r2, oref 2 u5 0 L7.length]⟩, ⟨(u6 + 1), some (([x22] : List F).map f32)⟩]) rfl rfl rfl (TOp.load1_o rfl rfl agg24 rfl rfl) rfl ?_
           refine zN ?_
           refine RAny.more (i0 := 8) (l := []) (by kernel_rfl) (RAnys.cons rfl ?_ RAnys.nil)
           refine ROps.app (f := f32) (xs := L7) (ys := ([x22] : List F)) (Γ' := [⟨0, some [sl a2.length (a2.map (ik .u8)), i64 r18, ik .u64 r19]⟩, ⟨1, some [i64 0, i64 0, nilsl]⟩, ⟨(u5 + 1), some ((L7 ++ ([x22] : List F)).map f32)⟩, ⟨1, some [i64 r1, i64 r2, oref 2 u5 0 L7.length]⟩, ⟨(u6 + 1), some (([x22] : List F).map f32)⟩]) rfl pun24 inf36 rfl rfl rfl rfl rfl rfl rfl rfl rfl (by simp) (ReadAs.own rfl (by simp)) (ones_map (fun _ => rfl)) (ap_by hm13) (ap_mx hm13) rfl ?_
           refine zN ?_
           refine RAny.more (i0 := 9) (l := []) (by kernel_rfl) (RAnys.cons rfl ?_ RAnys.nil)
           refine zL (r := optr 3 1 2) rfl rfl rfl (LOp.fao und26 rfl siz24 rfl rfl rfl) ?_
           refine zN ?_
           refine RAny.more (i0 := 10) (l := []) (by kernel_rfl) (RAnys.cons rfl ?_ RAnys.nil)
           refine ROps.store_le (r := oref 2 (u5 + 1) 0 (L7.length + 1)) (l' := [i64 r1, i64 r2, oref 2 (u5 + 1) 0 (L7.length + 1)]) (Γ' := [⟨0, some [sl a2.length (a2.map (ik .u8)), i64 r18, ik .u64 r19]⟩, ⟨1, some [i64 0, i64 0, nilsl]⟩, ⟨(u5 + 1), some ((L7 ++ ([x22] : List F)).map f32)⟩, ⟨1, some [i64 r1, i64 r2, oref 2 (u5 + 1) 0 (L7.length + 1)]⟩, ⟨(u6 + 1), some (([x22] : List F).map f32)⟩]) rfl siz24 rfl rfl rfl aR rfl rfl rfl rfl (Nat.le_of_ble_eq_true rfl) rfl rfl ?_
           refine zN ?_
           refine RAny.done (by kernel_rfl) ?_
           exact ⟨⟨aR, aR, aR, aR, aR, aR, aR, aR, aR, aR, aR, aR, aR, aR, aR, aR, trivial⟩, ⟨⟨rfl, .inr rfl⟩, ⟨rfl, .inr rfl⟩, ⟨rfl, .inr rfl⟩, ⟨rfl, .inr rfl⟩, ⟨rfl, .inr rfl⟩, trivial⟩⟩
        ·refine ROps.d (r := f32 x22) (fs := []) (Γ' := [⟨0, some [sl a2.length (a2.map (ik .u8)), i64 r18, ik .u64 r19]⟩, ⟨1, some [i64 0, i64 0, nilsl]⟩, ⟨u5, some (L7.map f32)⟩, ⟨1, some [i64 r1, i64 r2, oref 2 u5 0 L7.length]⟩, ⟨u6, none⟩]) rfl rfl rfl (TOp.eqr (TOp.fop (.inr (.inr (.inr rfl))) rfl (OpF.tmp rfl) (OpF.const rfl (by kernel_rfl) (by kernel_rfl))) (congrArg (f .f32) hx12)) rfl ?_
         refine zN ?_
         refine RAny.more (i0 := 0) (l := [7]) (by kernel_rfl) (RAnys.cons rfl ?_ (RAnys.cons rfl ?_ RAnys.nil))
         ·refine zL (r := optr 3 1 2) rfl rfl rfl (LOp.fao und26 rfl siz24 rfl rfl rfl) ?_
          refine zN ?_
          refine RAny.more (i0 := 1) (l := [7]) (by kernel_rfl) (RAnys.cons rfl ?_ (RAnys.cons rfl ?_ RAnys.nil))
          ·refine ROps.d (r := oref 2 u5 0 L7.length) (fs := []) (Γ' := [⟨0, some [sl a2.length (a2.map (ik .u8)), i64 r18, ik .u64 r19]⟩, ⟨1, some [i64 0, i64 0, nilsl]⟩, ⟨u5, some (L7.map f32)⟩, ⟨1, some [i64 r1, i64 r2, oref 2 u5 0 L7.length]⟩, ⟨u6, none⟩]) rfl rfl rfl (TOp.load1_o rfl rfl agg24 rfl rfl) rfl ?_
           refine zN ?_
           refine RAny.more (i0 := 7) (l := []) (by kernel_rfl) (RAnys.cons rfl ?_ RAnys.nil)
           refine ROps.d (r := oref 4 (u6 + 1) 0 1) (fs := [(4, (([x22] : List F).map f32))]) (Γ' := [⟨0, some [sl a2.length (a2.map (ik .u8)), i64 r18, ik .u64 r19]⟩, ⟨1, some [i64 0, i64 0, nilsl]⟩, ⟨u5, some (L7.map f32)⟩, ⟨1, some [i64 r1, i64 r2, oref 2 u5 0 L7.length]⟩, ⟨(u6 + 1), some (([x22] : List F).map f32)⟩]) rfl rfl rfl (TOp.buildSlice_o (g := ⟨u6, none⟩) (za := f32 (some 0)) (qs := [(0, [f32 x22])]) 4 rfl und24 siz36 zer36 rfl zel36 rfl rfl ⟨rfl, ⟨_, ALe.refl _, rfl⟩, trivial⟩ rfl) rfl ?_
           refine zN ?_
           refine RAny.more (i0 := 8) (l := []) (by kernel_rfl) (RAnys.cons rfl ?_ RAnys.nil)
           refine ROps.app (f := f32) (xs := L7) (ys := ([x22] : List F)) (Γ' := [⟨0, some [sl a2.length (a2.map (ik .u8)), i64 r18, ik .u64 r19]⟩, ⟨1, some [i64 0, i64 0, nilsl]⟩, ⟨(u5 + 1), some ((L7 ++ ([x22] : List F)).map f32)⟩, ⟨1, some [i64 r1, i64 r2, oref 2 u5 0 L7.length]⟩, ⟨(u6 + 1), some (([x22] : List F).map f32)⟩]) rfl pun24 inf36 rfl rfl rfl rfl rfl rfl rfl rfl rfl (by simp) (ReadAs.own rfl (by simp)) (ones_map (fun _ => rfl)) (ap_by hm13) (ap_mx hm13) rfl ?_
           refine zN ?_
           refine RAny.more (i0 := 9) (l := []) (by kernel_rfl) (RAnys.cons rfl ?_ RAnys.nil)
           refine zL (r := optr 3 1 2) rfl rfl rfl (LOp.fao und26 rfl siz24 rfl rfl rfl) ?_
           refine zN ?_
           refine RAny.more (i0 := 10) (l := []) (by kernel_rfl) (RAnys.cons rfl ?_ RAnys.nil)
           refine ROps.store_le (r := oref 2 (u5 + 1) 0 (L7.length + 1)) (l' := [i64 r1, i64 r2, oref 2 (u5 + 1) 0 (L7.length + 1)]) (Γ' := [⟨0, some [sl a2.length (a2.map (ik .u8)), i64 r18, ik .u64 r19]⟩, ⟨1, some [i64 0, i64 0, nilsl]⟩, ⟨(u5 + 1), some ((L7 ++ ([x22] : List F)).map f32)⟩, ⟨1, some [i64 r1, i64 r2, oref 2 (u5 + 1) 0 (L7.length + 1)]⟩, ⟨(u6 + 1), some (([x22] : List F).map f32)⟩]) rfl siz24 rfl rfl rfl aR rfl rfl rfl rfl (Nat.le_of_ble_eq_true rfl) rfl rfl ?_
           refine zN ?_
           refine RAny.done (by kernel_rfl) ?_
           exact ⟨⟨aR, aR, aR, aR, aR, aR, aR, aR, aR, aR, aR, aR, aR, aR, aR, aR, trivial⟩, ⟨⟨rfl, .inr rfl⟩, ⟨rfl, .inr rfl⟩, ⟨rfl, .inr rfl⟩, ⟨rfl, .inr rfl⟩, ⟨rfl, .inr rfl⟩, trivial⟩⟩
          ·refine ROps.d (r := oref 4 (u6 + 1) 0 1) (fs := [(4, (([x22] : List F).map f32))]) (Γ' := [⟨0, some [sl a2.length (a2.map (ik .u8)), i64 r18, ik .u64 r19]⟩, ⟨1, some [i64 0, i64 0, nilsl]⟩, ⟨u5, some (L7.map f32)⟩, ⟨1, some [i64 r1, i64 r2, oref 2 u5 0 L7.length]⟩, ⟨(u6 + 1), some (([x22] : List F).map f32)⟩]) rfl rfl rfl (TOp.buildSlice_o (g := ⟨u6, none⟩) (za := f32 (some 0)) (qs := [(0, [f32 x22])]) 4 rfl und24 siz36 zer36 rfl zel36 rfl rfl ⟨rfl, ⟨_, ALe.refl _, rfl⟩, trivial⟩ rfl) rfl ?_
           refine zN ?_
           refine RAny.more (i0 := 1) (l := []) (by kernel_rfl) (RAnys.cons rfl ?_ RAnys.nil)
           refine ROps.d (r := oref 2 u5 0 L7.length) (fs := []) (Γ' := [⟨0, some [sl a2.length (a2.map (ik .u8)), i64 r18, ik .u64 r19]⟩, ⟨1, some [i64 0, i64 0, nilsl]⟩, ⟨u5, some (L7.map f32)⟩, ⟨1, some [i64 r1, i64 r2, oref 2 u5 0 L7.length]⟩, ⟨(u6 + 1), some (([x22] : List F).map f32)⟩]) rfl rfl rfl (TOp.load1_o rfl rfl agg24 rfl rfl) rfl ?_
           refine zN ?_
           refine RAny.more (i0 := 8) (l := []) (by kernel_rfl) (RAnys.cons rfl ?_ RAnys.nil)
           refine ROps.app (f := f32) (xs := L7) (ys := ([x22] : List F)) (Γ' := [⟨0, some [sl a2.length (a2.map (ik .u8)), i64 r18, ik .u64 r19]⟩, ⟨1, some [i64 0, i64 0, nilsl]⟩, ⟨(u5 + 1), some ((L7 ++ ([x22] : List F)).map f32)⟩, ⟨1, some [i64 r1, i64 r2, oref 2 u5 0 L7.length]⟩, ⟨(u6 + 1), some (([x22] : List F).map f32)⟩]) rfl pun24 inf36 rfl rfl rfl rfl rfl rfl rfl rfl rfl (by simp) (ReadAs.own rfl (by simp)) (ones_map (fun _ => rfl)) (ap_by hm13) (ap_mx hm13) rfl ?_
           refine zN ?_
           refine RAny.more (i0 := 9) (l := []) (by kernel_rfl) (RAnys.cons rfl ?_ RAnys.nil)
           refine zL (r := optr 3 1 2) rfl rfl rfl (LOp.fao und26 rfl siz24 rfl rfl rfl) ?_
           refine zN ?_
           refine RAny.more (i0 := 10) (l := []) (by kernel_rfl) (RAnys.cons rfl ?_ RAnys.nil)
           refine ROps.store_le (r := oref 2 (u5 + 1) 0 (L7.length + 1)) (l' := [i64 r1, i64 r2, oref 2 (u5 + 1) 0 (L7.length + 1)]) (Γ' := [⟨0, some [sl a2.length (a2.map (ik .u8)), i64 r18, ik .u64 r19]⟩, ⟨1, some [i64 0, i64 0, nilsl]⟩, ⟨(u5 + 1), some ((L7 ++ ([x22] : List F)).map f32)⟩, ⟨1, some [i64 r1, i64 r2, oref 2 (u5 + 1) 0 (L7.length + 1)]⟩, ⟨(u6 + 1), some (([x22] : List F).map f32)⟩]) rfl siz24 rfl rfl rfl aR rfl rfl rfl rfl (Nat.le_of_ble_eq_true rfl) rfl rfl ?_
           refine zN ?_
           refine RAny.done (by kernel_rfl) ?_
           exact ⟨⟨aR, aR, aR, aR, aR, aR, aR, aR, aR, aR, aR, aR, aR, aR, aR, aR, trivial⟩, ⟨⟨rfl, .inr rfl⟩, ⟨rfl, .inr rfl⟩, ⟨rfl, .inr rfl⟩, ⟨rfl, .inr rfl⟩, ⟨rfl, .inr rfl⟩, trivial⟩⟩
         ·refine ROps.d (r := oref 4 (u6 + 1) 0 1) (fs := [(4, (([x22] : List F).map f32))]) (Γ' := [⟨0, some [sl a2.length (a2.map (ik .u8)), i64 r18, ik .u64 r19]⟩, ⟨1, some [i64 0, i64 0, nilsl]⟩, ⟨u5, some (L7.map f32)⟩, ⟨1, some [i64 r1, i64 r2, oref 2 u5 0 L7.length]⟩, ⟨(u6 + 1), some (([x22] : List F).map f32)⟩]) rfl rfl rfl (TOp.buildSlice_o (g := ⟨u6, none⟩) (za := f32 (some 0)) (qs := [(0, [f32 x22])]) 4 rfl und24 siz36 zer36 rfl zel36 rfl rfl ⟨rfl, ⟨_, ALe.refl _, rfl⟩, trivial⟩ rfl) rfl ?_
          refine zN ?_
          refine RAny.more (i0 := 0) (l := []) (by kernel_rfl) (RAnys.cons rfl ?_ RAnys.nil)
          refine zL (r := optr 3 1 2) rfl rfl rfl (LOp.fao und26 rfl siz24 rfl rfl rfl) ?_
          refine zN ?_
          refine RAny.more (i0 := 1) (l := []) (by kernel_rfl) (RAnys.cons rfl ?_ RAnys.nil)
          refine ROps.d (r := oref 2 u5 0 L7.length) (fs := []) (Γ' := [⟨0, some [sl a2.length (a2.map (ik .u8)), i64 r18, ik .u64 r19]⟩, ⟨1, some [i64 0, i64 0, nilsl]⟩, ⟨u5, some (L7.map f32)⟩, ⟨1, some [i64 r1, i64 r2, oref 2 u5 0 L7.length]⟩, ⟨(u6 + 1), some (([x22] : List F).map f32)⟩]) rfl rfl rfl (TOp.load1_o rfl rfl agg24 rfl rfl) rfl ?_
          refine zN ?_
          refine RAny.more (i0 := 8) (l := []) (by kernel_rfl) (RAnys.cons rfl ?_ RAnys.nil)
          refine ROps.app (f := f32) (xs := L7) (ys := ([x22] : List F)) (Γ' := [⟨0, some [sl a2.length (a2.map (ik .u8)), i64 r18, ik .u64 r19]⟩, ⟨1, some [i64 0, i64 0, nilsl]⟩, ⟨(u5 + 1), some ((L7 ++ ([x22] : List F)).map f32)⟩, ⟨1, some [i64 r1, i64 r2, oref 2 u5 0 L7.length]⟩, ⟨(u6 + 1), some (([x22] : List F).map f32)⟩]) rfl pun24 inf36 rfl rfl rfl rfl rfl rfl rfl rfl rfl (by simp) (ReadAs.own rfl (by simp)) (ones_map (fun _ => rfl)) (ap_by hm13) (ap_mx hm13) rfl ?_
          refine zN ?_
          refine RAny.more (i0 := 9) (l := []) (by kernel_rfl) (RAnys.cons rfl ?_ RAnys.nil)
          refine zL (r := optr 3 1 2) rfl rfl rfl (LOp.fao und26 rfl siz24 rfl rfl rfl) ?_
          refine zN ?_
          refine RAny.more (i0 := 10) (l := []) (by kernel_rfl) (RAnys.cons rfl ?_ RAnys.nil)
          refine ROps.store_le (r := oref 2 (u5 + 1) 0 (L7.length + 1)) (l' := [i64 r1, i64 r2, oref 2 (u5 + 1) 0 (L7.length + 1)]) (Γ' := [⟨0, some [sl a2.length (a2.map (ik .u8)), i64 r18, ik .u64 r19]⟩, ⟨1, some [i64 0, i64 0, nilsl]⟩, ⟨(u5 + 1), some ((L7 ++ ([x22] : List F)).map f32)⟩, ⟨1, some [i64 r1, i64 r2, oref 2 (u5 + 1) 0 (L7.length + 1)]⟩, ⟨(u6 + 1), some (([x22] : List F).map f32)⟩]) rfl siz24 rfl rfl rfl aR rfl rfl rfl rfl (Nat.le_of_ble_eq_true rfl) rfl rfl ?_
          refine zN ?_
          refine RAny.done (by kernel_rfl) ?_
          exact ⟨⟨aR, aR, aR, aR, aR, aR, aR, aR, aR, aR, aR, aR, aR, aR, aR, aR, trivial⟩, ⟨⟨rfl, .inr rfl⟩, ⟨rfl, .inr rfl⟩, ⟨rfl, .inr rfl⟩, ⟨rfl, .inr rfl⟩, ⟨rfl, .inr rfl⟩, trivial⟩⟩
   ·rintro τ3 Γ3 ⟨hw3, hd3⟩
    refine RunC.wl hw3 hd3 ?_
    refine RunC.wl (τ' := [(0, optr 0 0 0), (6, optr 1 1 0), (7, optr 3 1 0), (8, i64 v10)]) (Γ' := [⟨0, some [sl a2.length (a2.map (ik .u8)), i64 r18, ik .u64 r19]⟩, ⟨1, some [i64 0, i64 0, nilsl]⟩, ⟨(u5 + 1), some ((L7 ++ ([x22] : List F)).map f32)⟩, ⟨1, some [i64 r1, i64 r2, oref 2 (u5 + 1) 0 (L7.length + 1)]⟩, ⟨(u6 + 1), none⟩]) ⟨aR, aR, aR, aR, trivial⟩ ⟨⟨rfl, .inr rfl⟩, ⟨rfl, .inr rfl⟩, ⟨rfl, .inr rfl⟩, ⟨rfl, .inr rfl⟩, ⟨rfl, .inl rfl⟩, trivial⟩ ?_
    obtain ⟨x23, hx14, h2_⟩ := olet_some h2_
    refine RunC.regionW ?_
    refine zM (r := i64 v10) rfl rfl rfl rfl rfl ?_
    refine zL (r := i64 x23) rfl rfl rfl (LOp.eqr (LOp.sub rfl rfl rfl) (congrArg (ik .i64) hx14)) ?_
    refine zA (r := i64 x23) rfl rfl rfl rfl rfl ?_
    refine zN ?_
    cases Option.some.inj h2_
    exact ⟨_, rfl, (u5 + 1), (u6 + 1), ⟨aR, aR, aR, aR, trivial⟩, ⟨⟨rfl, .inr rfl⟩, ⟨rfl, .inr rfl⟩, ⟨rfl, .inr rfl⟩, ⟨rfl, .inr (by first | rfl | simp)⟩, ⟨rfl, .inl rfl⟩, trivial⟩⟩
  ·refine RunC.regionW ?_
   refine zM (r := i64 v10) rfl rfl rfl rfl rfl ?_
   refine zL (r := b false) rfl rfl rfl (LOp.eqb (LOp.gtr rfl rfl rfl) hc3) ?_
   refine zN ?_
   refine RunC.cond_false rfl rfl ?_
   refine RunC.exit ?_
   cases Option.some.inj h2_
   have hx := ho2 _ rfl
   exact ⟨L7, v8, v9, u5, u6, ⟨aR, aR, trivial⟩, ⟨⟨rfl, .inr rfl⟩, ⟨rfl, .inr rfl⟩, ⟨rfl, .inr rfl⟩, ⟨rfl, .inr (by first | rfl | simp)⟩, ⟨rfl, .inl rfl⟩, trivial⟩, hx⟩
 ·rintro τ4 Γ4 ⟨L26, v27, v28, u24, u25, hw4, hd4, rfl⟩
  refine RunC.wl hw4 hd4 ?_
  replace h : s_l02DrawSides_0p0_C0_k1 r1 r2 L26 v27 v28 = some (q0, q1, q2, q3, q4) := h
  unfold s_l02DrawSides_0p0_C0_k1 at h
  refine zQ ?_
  refine ROps.d (r := agg [i64 r1, i64 r2, oref 2 u24 0 L26.length]) (fs := []) (Γ' := [⟨0, some [sl a2.length (a2.map (ik .u8)), i64 v27, ik .u64 v28]⟩, ⟨1, some [i64 0, i64 0, nilsl]⟩, ⟨u24, some (L26.map f32)⟩, ⟨1, some [i64 r1, i64 r2, oref 2 u24 0 L26.length]⟩, ⟨u25, none⟩]) rfl rfl rfl (TOp.loadAgg_o rfl agg26 siz26 rfl rfl rfl rfl) rfl ?_
  refine ROps.store_le (r := agg [i64 r1, i64 r2, oref 2 u24 0 L26.length]) (l' := [i64 r1, i64 r2, oref 2 u24 0 L26.length]) (Γ' := [⟨0, some [sl a2.length (a2.map (ik .u8)), i64 v27, ik .u64 v28]⟩, ⟨1, some [i64 r1, i64 r2, oref 2 u24 0 L26.length]⟩, ⟨u24, some (L26.map f32)⟩, ⟨1, some [i64 r1, i64 r2, oref 2 u24 0 L26.length]⟩, ⟨u25, none⟩]) rfl siz26 rfl rfl rfl aR rfl rfl rfl rfl (Nat.le_of_ble_eq_true rfl) rfl rfl ?_
  refine zN ?_
  refine RunC.ret ?_
  have hq := Option.some.inj h
  obtain ⟨hq0, hq⟩ := Prod.mk.inj hq
  obtain ⟨hq1, hq⟩ := Prod.mk.inj hq
  obtain ⟨hq2, hq⟩ := Prod.mk.inj hq
  obtain ⟨hq3, hq⟩ := Prod.mk.inj hq
  subst q0
  subst q1
  subst q2
  subst q3
  subst q4
  exact bodyQ.mk (r' := agg [i64 r1, i64 r2, oref 2 u24 0 L26.length]) [(0, 0), (2, u24)] (.inr rfl) rfl (show List.Nodup [0, 2] from by decide) (by simp [ren, rens, sigma]) rfl (Res.one rfl (RV.cell agg26 siz26 rfl rfl rfl rfl)) (SelL.cells rfl (by first | rfl | simp [ren, rens, sigma, rens_f32, rens_f64, rens_i64, rens_ik, rens_str, rens_cp]) (lts_cons (lt_slk (fun _ => rfl)) (lts_cons rfl (lts_cons rfl lts_nil))) (SelL.arr0 (f := f32) (fun _ => rfl) rfl trivial))
noncomputable def s_l02DrawOk_0p0_C0 (a0 : List Int) (a1 : Int) (a2 : Int) : Option (Int × Int × Int × Int × (List F)) :=
 obind3 (s_l00Src_pick_0p0_C0 5 a0 a1 a2) fun (r1 : Int) (r2 : Int) (r3 : Int) =>
 olet (IntKind.i64.wrap (1 + r1)) fun (x4 : Int) =>
 obind3 (s_l00Src_pick_0p0_C0 5 a0 r2 r3) fun (r5 : Int) (r6 : Int) (r7 : Int) =>
 olet (IntKind.i64.wrap (1 + r5)) fun (x8 : Int) =>
 obind5 (s_l02DrawSides_0p0_C0 x4 x8 a0 r6 r7) fun (r9 : Int) (r10 : Int) (r11 : Int) (r12 : Int) (r13 : List F) =>
 some (r9, r10, r11, r12, r13)
theorem s_l02DrawOk_0p0_C0_ok (a0 : List Int) (a1 : Int) (a2 : Int) (q0 : Int) (q1 : Int) (q2 : Int) (q3 : Int) (q4 : List F) (h : s_l02DrawOk_0p0_C0 a0 a1 a2 = some (q0, q1, q2, q3, q4)) : Ev Try.prog 54 [optr 0 0 0] [⟨0, some [sl a0.length (a0.map (ik .u8)), i64 a1, ik .u64 a2]⟩] (agg [i64 q0, i64 q1, oref 1 0 0 q4.length]) [⟨0, some [sl a0.length (a0.map (ik .u8)), i64 q2, ik .u64 q3]⟩, ⟨0, some (q4.map f32)⟩] := by
 refine Ev.start Try.func54 rfl rfl 2 (τ := [(0, optr 0 0 0)]) rfl (Γ' := [⟨0, some [sl a0.length (a0.map (ik .u8)), i64 a1, ik .u64 a2]⟩, ⟨0, none⟩, ⟨0, none⟩]) rfl (n := 30) rfl (g := 1) rfl (by decide) ?_
 unfold s_l02DrawOk_0p0_C0 at h
 refine zQ ?_
 refine ROps.d (r := optr 1 1 0) (fs := [(1, [i64 0, i64 0, nilsl])]) (Γ' := [⟨0, some [sl a0.length (a0.map (ik .u8)), i64 a1, ik .u64 a2]⟩, ⟨1, some [i64 0, i64 0, nilsl]⟩, ⟨0, none⟩]) rfl rfl rfl (TOp.alloc_o (g := ⟨0, none⟩) 1 rfl zer26 zok26 rfl) rfl ?_
 refine zN ?_
 refine RunC.seq ?_
 obtain ⟨r1, r2, r3, hf1, h⟩ := obind3_some h
 obtain ⟨x4, hx2, h⟩ := olet_some h
 refine RunC.regionW ?_
 refine zM (r := optr 0 0 0) rfl rfl rfl rfl rfl ?_
 refine ROps.callO (A := [optr 0 0 0, i64 5]) (args := [optr 0 0 0, i64 5]) (Γc := [⟨0, some [sl a0.length (a0.map (ik .u8)), i64 a1, ik .u64 a2]⟩]) (Γc' := [⟨0, some [sl a0.length (a0.map (ik .u8)), i64 r2, ik .u64 r3]⟩]) (r' := i64 r1) (Γ' := [⟨0, some [sl a0.length (a0.map (ik .u8)), i64 r2, ik .u64 r3]⟩, ⟨1, some [i64 0, i64 0, nilsl]⟩, ⟨0, none⟩]) [(0, 0)] [] rfl (CallAs.func ent112 rfl rfl) rfl rfl (SelOk.of (show List.Nodup [0] from by decide) (SelL.cells0 rfl (by simp [ren, rens, sigma, rens_f32, rens_f64, rens_i64, rens_ik, rens_str, rens_cp]) (lts_cons (lt_slk (fun _ => rfl)) (lts_cons rfl (lts_cons rfl lts_nil))) trivial)) (live_of ⟨⟨_, _, rfl⟩, trivial⟩) (by simp [ren, rens, sigma, rens_f32, rens_f64, rens_i64, rens_ik, rens_str, rens_cp]) rfl (s_l00Src_pick_0p0_C0_ok 5 a0 a1 a2 r1 r2 r3 hf1) rfl (news_of trivial) (show List.Nodup [0] from by decide) (by simp [ren, rens, sigma]) (by simp [backOb, sigma, ren, rens, rens_f32, rens_f64, rens_i64, rens_ik, rens_str, rens_cp]) ?_
 refine zL (r := i64 x4) rfl rfl rfl (LOp.eqr (LOp.add rfl rfl rfl) (congrArg (ik .i64) hx2)) ?_
 refine zA (r := i64 x4) rfl rfl rfl rfl rfl ?_
 refine zN ?_
 refine RunC.seq ?_
 obtain ⟨r5, r6, r7, hf3, h⟩ := obind3_some h
 obtain ⟨x8, hx4, h⟩ := olet_some h
 refine RunC.regionW ?_
 refine zM (r := optr 0 0 0) rfl rfl rfl rfl rfl ?_
 refine ROps.callO (A := [optr 0 0 0, i64 5]) (args := [optr 0 0 0, i64 5]) (Γc := [⟨0, some [sl a0.length (a0.map (ik .u8)), i64 r2, ik .u64 r3]⟩]) (Γc' := [⟨0, some [sl a0.length (a0.map (ik .u8)), i64 r6, ik .u64 r7]⟩]) (r' := i64 r5) (Γ' := [⟨0, some [sl a0.length (a0.map (ik .u8)), i64 r6, ik .u64 r7]⟩, ⟨1, some [i64 0, i64 0, nilsl]⟩, ⟨0, none⟩]) [(0, 0)] [] rfl (CallAs.func ent112 rfl rfl) rfl rfl (SelOk.of (show List.Nodup [0] from by decide) (SelL.cells0 rfl (by simp [ren, rens, sigma, rens_f32, rens_f64, rens_i64, rens_ik, rens_str, rens_cp]) (lts_cons (lt_slk (fun _ => rfl)) (lts_cons rfl (lts_cons rfl lts_nil))) trivial)) (live_of ⟨⟨_, _, rfl⟩, trivial⟩) (by simp [ren, rens, sigma, rens_f32, rens_f64, rens_i64, rens_ik, rens_str, rens_cp]) rfl (s_l00Src_pick_0p0_C0_ok 5 a0 r2 r3 r5 r6 r7 hf3) rfl (news_of trivial) (show List.Nodup [0] from by decide) (by simp [ren, rens, sigma]) (by simp [backOb, sigma, ren, rens, rens_f32, rens_f64, rens_i64, rens_ik, rens_str, rens_cp]) ?_
 refine zL (r := i64 x8) rfl rfl rfl (LOp.eqr (LOp.add rfl rfl rfl) (congrArg (ik .i64) hx4)) ?_
 refine zA (r := i64 x8) rfl rfl rfl rfl rfl ?_
 refine zN ?_
 refine RunC.seq ?_
 obtain ⟨r9, r10, r11, r12, r13, hf5, h⟩ := obind5_some h
 refine RunC.regionW ?_
 refine zM (r := optr 0 0 0) rfl rfl rfl rfl rfl ?_
 refine zM (r := i64 x4) rfl rfl rfl rfl rfl ?_
 refine zM (r := i64 x8) rfl rfl rfl rfl rfl ?_
 refine ROps.callO (A := [optr 0 0 0, i64 x4, i64 x8]) (args := [optr 0 0 0, i64 x4, i64 x8]) (Γc := [⟨0, some [sl a0.length (a0.map (ik .u8)), i64 r6, ik .u64 r7]⟩]) (Γc' := [⟨0, some [sl a0.length (a0.map (ik .u8)), i64 r11, ik .u64 r12]⟩, ⟨0, some (r13.map f32)⟩]) (r' := agg [i64 r9, i64 r10, oref 2 1 0 r13.length]) (Γ' := [⟨0, some [sl a0.length (a0.map (ik .u8)), i64 r11, ik .u64 r12]⟩, ⟨1, some [i64 0, i64 0, nilsl]⟩, ⟨1, some (r13.map f32)⟩]) [(0, 0)] [(2, 1)] rfl (CallAs.func ent55 rfl rfl) rfl rfl (SelOk.of (show List.Nodup [0] from by decide) (SelL.cells0 rfl (by simp [ren, rens, sigma, rens_f32, rens_f64, rens_i64, rens_ik, rens_str, rens_cp]) (lts_cons (lt_slk (fun _ => rfl)) (lts_cons rfl (lts_cons rfl lts_nil))) trivial)) (live_of ⟨⟨_, _, rfl⟩, trivial⟩) (by simp [ren, rens, sigma, rens_f32, rens_f64, rens_i64, rens_ik, rens_str, rens_cp]) rfl (s_l02DrawSides_0p0_C0_ok x4 x8 a0 r6 r7 r9 r10 r11 r12 r13 hf5) rfl (news_of ⟨⟨_, rfl, rfl⟩, trivial⟩) (show List.Nodup [0, 2] from by decide) (by simp [ren, rens, sigma]) (by simp [backOb, sigma, ren, rens, rens_f32, rens_f64, rens_i64, rens_ik, rens_str, rens_cp]) ?_
 refine ROps.store_le (r := agg [i64 r9, i64 r10, oref 2 1 0 r13.length]) (l' := [i64 r9, i64 r10, oref 2 1 0 r13.length]) (Γ' := [⟨0, some [sl a0.length (a0.map (ik .u8)), i64 r11, ik .u64 r12]⟩, ⟨1, some [i64 r9, i64 r10, oref 2 1 0 r13.length]⟩, ⟨1, some (r13.map f32)⟩]) rfl siz26 rfl rfl rfl aR rfl rfl rfl rfl (Nat.le_of_ble_eq_true rfl) rfl rfl ?_
 refine zN ?_
 refine RunC.ret ?_
 have hq := Option.some.inj h
 obtain ⟨hq0, hq⟩ := Prod.mk.inj hq
 obtain ⟨hq1, hq⟩ := Prod.mk.inj hq
 obtain ⟨hq2, hq⟩ := Prod.mk.inj hq
 obtain ⟨hq3, hq⟩ := Prod.mk.inj hq
 subst q0
 subst q1
 subst q2
 subst q3
 subst q4
 exact bodyQ.mk (r' := agg [i64 r9, i64 r10, oref 2 1 0 r13.length]) [(0, 0), (2, 1)] (.inr rfl) rfl (show List.Nodup [0, 2] from by decide) rfl rfl (Res.one rfl (RV.cell agg26 siz26 rfl rfl rfl rfl)) (SelL.cells rfl (by first | rfl | simp [ren, rens, sigma, rens_f32, rens_f64, rens_i64, rens_ik, rens_str, rens_cp]) (lts_cons (lt_slk (fun _ => rfl)) (lts_cons rfl (lts_cons rfl lts_nil))) (SelL.arr0 (f := f32) (fun _ => rfl) rfl trivial))
noncomputable def s_R8Matrix (a0 : List Int) : Option (Int × Int × (List F)) :=
 obind3 (s_l00From a0) fun (r1 : List Int) (r2 : Int) (r3 : Int) =>
 obind5 (s_l02DrawOk_0p0_C0 r1 r2 r3) fun (r4 : Int) (r5 : Int) (r6 : Int) (r7 : Int) (r8 : List F) =>
 some (r4, r5, r8)
theorem s_R8Matrix_ok (a0 : List Int) (q0 : Int) (q1 : Int) (q2 : List F) (h : s_R8Matrix a0 = some (q0, q1, q2)) : Ev Try.prog 8 [sl a0.length (a0.map (ik .u8))] [] (agg [i64 q0, i64 q1, oref 0 0 0 q2.length]) [⟨0, some (q2.map f32)⟩] := by
 refine Ev.start Try.func8 rfl rfl 3 (τ := [(0, sl a0.length (a0.map (ik .u8)))]) rfl (Γ' := [⟨0, none⟩, ⟨0, none⟩, ⟨0, none⟩]) rfl (n := 17) rfl (g := 0) rfl (fun _ => rfl) ?_
 unfold s_R8Matrix at h
 refine zQ ?_
 refine ROps.d (r := optr 0 1 0) (fs := [(0, [i64 0, i64 0, nilsl])]) (Γ' := [⟨1, some [i64 0, i64 0, nilsl]⟩, ⟨0, none⟩, ⟨0, none⟩]) rfl rfl rfl (TOp.alloc_o (g := ⟨0, none⟩) 0 rfl zer26 zok26 rfl) rfl ?_
 refine zN ?_
 refine RunC.seq ?_
 obtain ⟨r1, r2, r3, hf1, h⟩ := obind3_some h
 refine RunC.regionW ?_
 refine zM (r := sl a0.length (a0.map (ik .u8))) rfl rfl rfl rfl rfl ?_
 refine ROps.d (r := optr 1 1 0) (fs := [(1, [sl r1.length (r1.map (ik .u8)), i64 r2, ik .u64 r3])]) (Γ' := [⟨1, some [i64 0, i64 0, nilsl]⟩, ⟨1, some [sl r1.length (r1.map (ik .u8)), i64 r2, ik .u64 r3]⟩, ⟨0, none⟩]) rfl rfl rfl (TOp.callN (A := [sl a0.length (a0.map (ik .u8))]) (ls := [[sl r1.length (r1.map (ik .u8)), i64 r2, ik .u64 r3]]) [1] (by exact (CallAs.func ent53 rfl rfl)) (lts_cons (lt_sl (fun _ => rfl)) lts_nil) (s_l00From_ok a0 r1 r2 r3 hf1) (and_all (lts_cons (lt_sl (fun _ => rfl)) (lts_cons rfl (lts_cons rfl lts_nil))) rfl) rfl (by decide) (ns_of ⟨⟨_, rfl⟩, trivial⟩)) rfl ?_
 refine zA (r := optr 1 1 0) rfl rfl rfl rfl rfl ?_
 refine zN ?_
 refine RunC.seq ?_
 obtain ⟨r4, r5, r6, r7, r8, hf2, h⟩ := obind5_some h
 refine RunC.regionW ?_
 refine zM (r := optr 1 1 0) rfl rfl rfl rfl rfl ?_
 refine ROps.callO (A := [optr 1 1 0]) (args := [optr 0 0 0]) (Γc := [⟨0, some [sl r1.length (r1.map (ik .u8)), i64 r2, ik .u64 r3]⟩]) (Γc' := [⟨0, some [sl r1.length (r1.map (ik .u8)), i64 r6, ik .u64 r7]⟩, ⟨0, some (r8.map f32)⟩]) (r' := agg [i64 r4, i64 r5, oref 2 1 0 r8.length]) (Γ' := [⟨1, some [i64 0, i64 0, nilsl]⟩, ⟨1, some [sl r1.length (r1.map (ik .u8)), i64 r6, ik .u64 r7]⟩, ⟨1, some (r8.map f32)⟩]) [(1, 1)] [(2, 1)] rfl (CallAs.func ent54 rfl rfl) rfl rfl (SelOk.of (show List.Nodup [1] from by decide) (SelL.cells0 rfl (by simp [ren, rens, sigma, rens_f32, rens_f64, rens_i64, rens_ik, rens_str, rens_cp]) (lts_cons (lt_slk (fun _ => rfl)) (lts_cons rfl (lts_cons rfl lts_nil))) trivial)) (live_of ⟨⟨_, _, rfl⟩, trivial⟩) (by simp [ren, rens, sigma, rens_f32, rens_f64, rens_i64, rens_ik, rens_str, rens_cp]) rfl (s_l02DrawOk_0p0_C0_ok r1 r2 r3 r4 r5 r6 r7 r8 hf2) rfl (news_of ⟨⟨_, rfl, rfl⟩, trivial⟩) (show List.Nodup [1, 2] from by decide) (by simp [ren, rens, sigma]) (by simp [backOb, sigma, ren, rens, rens_f32, rens_f64, rens_i64, rens_ik, rens_str, rens_cp]) ?_
 refine ROps.store_le (r := agg [i64 r4, i64 r5, oref 2 1 0 r8.length]) (l' := [i64 r4, i64 r5, oref 2 1 0 r8.length]) (Γ' := [⟨1, some [i64 r4, i64 r5, oref 2 1 0 r8.length]⟩, ⟨1, some [sl r1.length (r1.map (ik .u8)), i64 r6, ik .u64 r7]⟩, ⟨1, some (r8.map f32)⟩]) rfl siz26 rfl rfl rfl aR rfl rfl rfl rfl (Nat.le_of_ble_eq_true rfl) rfl rfl ?_
 refine zN ?_
 refine RunC.ret ?_
 have hq := Option.some.inj h
 obtain ⟨hq0, hq⟩ := Prod.mk.inj hq
 obtain ⟨hq1, hq⟩ := Prod.mk.inj hq
 subst q0
 subst q1
 subst q2
 exact bodyQ.mk (r' := agg [i64 r4, i64 r5, oref 2 1 0 r8.length]) [(2, 1)] (.inr rfl) rfl (show List.Nodup [2] from by decide) rfl rfl (Res.one rfl (RV.cell agg26 siz26 rfl rfl rfl rfl)) (SelL.arr0 (f := f32) (fun _ => rfl) rfl trivial)
noncomputable def w_r8At (a0 : List Int) (a1 : Int) (a2 : Int) : Option (Int) :=
 bsel (decide (a2 ≤ 1)) (
  some 0) (
  bsel (decide ((a0.length : Int) ≤ a1)) (
   some 0) (
   obind (at? a0 a1) fun (e1 : Int) =>
   olet (IntKind.i64.wrap e1) fun (x2 : Int) =>
   need (!decide (a2 = 0)) <|
   olet (x2.tmod a2) fun (x3 : Int) =>
   some x3))
theorem w_r8At_ok (a0 : List Int) (a1 : Int) (a2 : Int) (q0 : Int) (h : w_r8At a0 a1 a2 = some q0) : Ev Try.prog 9 [sl a0.length (a0.map (ik .u8)), i64 a1, i64 a2] [] (i64 q0) [] := by
 refine Ev.start Try.func9 rfl rfl 0 (τ := [(0, sl a0.length (a0.map (ik .u8))), (1, i64 a1), (2, i64 a2)]) rfl (Γ' := []) rfl (n := 45) rfl (g := 0) rfl (fun _ => rfl) ?_
 unfold w_r8At at h
 refine zQ ?_
 refine zA (r := i64 0) rfl rfl rfl rfl rfl ?_
 refine zN ?_
 iterate 2 (refine RunC.seq ?_)
 rcases bsel_some h with ⟨hc1, h⟩ | ⟨hc1, h⟩
 ·refine RunC.regionW ?_
  refine zM (r := i64 a2) rfl rfl rfl rfl rfl ?_
  refine zL (r := b true) rfl rfl rfl (LOp.eqb (LOp.leq rfl rfl rfl) hc1) ?_
  refine zM (r := b true) rfl rfl rfl rfl rfl ?_
  iterate 4 (refine ROps.s rfl rfl rfl ?_)
  refine zL (r := b true) rfl rfl rfl (LOp.pick_true rfl rfl rfl) ?_
  refine zN ?_
  refine RunC.cond_true rfl rfl ?_
  refine zQ ?_
  refine zA (r := i64 0) rfl rfl rfl rfl rfl ?_
  refine zN ?_
  refine RunC.ret ?_
  have hq := Option.some.inj h
  subst q0
  exact bodyQ.pure (.inr rfl) rfl (Res.one rfl (RV.tmp rfl))
 ·rcases bsel_some h with ⟨hc2, h⟩ | ⟨hc2, h⟩
  ·refine RunC.regionW ?_
   refine zM (r := i64 a2) rfl rfl rfl rfl rfl ?_
   refine zL (r := b false) rfl rfl rfl (LOp.eqb (LOp.leq rfl rfl rfl) hc1) ?_
   refine zM (r := b false) rfl rfl rfl rfl rfl ?_
   refine zM (r := i64 a1) rfl rfl rfl rfl rfl ?_
   refine zM (r := sl a0.length (a0.map (ik .u8))) rfl rfl rfl rfl rfl ?_
   refine zL (r := i64 (a0.length : Int)) rfl rfl rfl (LOp.len_sl und22 rfl rfl) ?_
   refine zL (r := b true) rfl rfl rfl (LOp.eqb (LOp.geq rfl rfl rfl) hc2) ?_
   refine zL (r := b true) rfl rfl rfl (LOp.pick_false rfl rfl rfl) ?_
   refine zN ?_
   refine RunC.cond_true rfl rfl ?_
   refine zQ ?_
   refine zA (r := i64 0) rfl rfl rfl rfl rfl ?_
   refine zN ?_
   refine RunC.ret ?_
   have hq := Option.some.inj h
   subst q0
   exact bodyQ.pure (.inr rfl) rfl (Res.one rfl (RV.tmp rfl))
  ·refine RunC.regionW ?_
   refine zM (r := i64 a2) rfl rfl rfl rfl rfl ?_
   refine zL (r := b false) rfl rfl rfl (LOp.eqb (LOp.leq rfl rfl rfl) hc1) ?_
   refine zM (r := b false) rfl rfl rfl rfl rfl ?_
   refine zM (r := i64 a1) rfl rfl rfl rfl rfl ?_
   refine zM (r := sl a0.length (a0.map (ik .u8))) rfl rfl rfl rfl rfl ?_
   refine zL (r := i64 (a0.length : Int)) rfl rfl rfl (LOp.len_sl und22 rfl rfl) ?_
   refine zL (r := b false) rfl rfl rfl (LOp.eqb (LOp.geq rfl rfl rfl) hc2) ?_
   refine zL (r := b false) rfl rfl rfl (LOp.pick_false rfl rfl rfl) ?_
   refine zN ?_
   refine RunC.cond_false rfl rfl ?_
   refine RunC.skip ?_
   refine RunC.seq ?_
   obtain ⟨e1, he3, h⟩ := obind_some h
   obtain ⟨x2, hx4, h⟩ := olet_some h
   obtain ⟨hz5, h⟩ := need_some h
   obtain ⟨x3, hx6, h⟩ := olet_some h
   refine RunC.regionW ?_
   refine zM (r := sl a0.length (a0.map (ik .u8))) rfl rfl rfl rfl rfl ?_
   refine zM (r := i64 a1) rfl rfl rfl rfl rfl ?_
   refine zL (r := ptr [ik .u8 e1]) rfl rfl rfl (LOp.le (LOp.ix (f := (ik .u8)) und22 siz5 rfl rfl rfl rfl he3) ALe.ptr) ?_
   refine zL (r := ik .u8 e1) rfl rfl rfl (LOp.load1 agg5 rfl rfl) ?_
   refine zL (r := i64 x2) rfl rfl rfl (LOp.eqr (LOp.i2i (src := 5) (dst := 2) ⟨_, pun5⟩ pun2 rfl rfl) (congrArg (ik .i64) hx4)) ?_
   refine zM (r := i64 a2) rfl rfl rfl rfl rfl ?_
   refine zL (r := i64 x3) rfl rfl rfl (LOp.eqr (LOp.rem rfl rfl rfl (nz hz5)) (congrArg (ik .i64) hx6)) ?_
   refine zA (r := i64 x3) rfl rfl rfl rfl rfl ?_
   refine zN ?_
   refine RunC.ret ?_
   have hq := Option.some.inj h
   subst q0
   exact bodyQ.pure (.inr rfl) rfl (Res.one rfl (RV.tmp rfl))
noncomputable def s_R8Sides (a0 : List Int) (a1 : Int) (a2 : Int) : Option (Int × Int × (List F)) :=
 obind3 (s_l00From a0) fun (r1 : List Int) (r2 : Int) (r3 : Int) =>
 obind5 (s_l02DrawSides_0p0_C0 a1 a2 r1 r2 r3) fun (r4 : Int) (r5 : Int) (r6 : Int) (r7 : Int) (r8 : List F) =>
 some (r4, r5, r8)
theorem s_R8Sides_ok (a0 : List Int) (a1 : Int) (a2 : Int) (q0 : Int) (q1 : Int) (q2 : List F) (h : s_R8Sides a0 a1 a2 = some (q0, q1, q2)) : Ev Try.prog 10 [sl a0.length (a0.map (ik .u8)), i64 a1, i64 a2] [] (agg [i64 q0, i64 q1, oref 0 0 0 q2.length]) [⟨0, some (q2.map f32)⟩] := by
 refine Ev.start Try.func10 rfl rfl 3 (τ := [(0, sl a0.length (a0.map (ik .u8))), (1, i64 a1), (2, i64 a2)]) rfl (Γ' := [⟨0, none⟩, ⟨0, none⟩, ⟨0, none⟩]) rfl (n := 29) rfl (g := 0) rfl (fun _ => rfl) ?_
 unfold s_R8Sides at h
 refine zQ ?_
 refine ROps.d (r := optr 0 1 0) (fs := [(0, [i64 0, i64 0, nilsl])]) (Γ' := [⟨1, some [i64 0, i64 0, nilsl]⟩, ⟨0, none⟩, ⟨0, none⟩]) rfl rfl rfl (TOp.alloc_o (g := ⟨0, none⟩) 0 rfl zer26 zok26 rfl) rfl ?_
 refine zN ?_
 refine RunC.seq ?_
 obtain ⟨r1, r2, r3, hf1, h⟩ := obind3_some h
 refine RunC.regionW ?_
 refine zM (r := sl a0.length (a0.map (ik .u8))) rfl rfl rfl rfl rfl ?_
 refine ROps.d (r := optr 1 1 0) (fs := [(1, [sl r1.length (r1.map (ik .u8)), i64 r2, ik .u64 r3])]) (Γ' := [⟨1, some [i64 0, i64 0, nilsl]⟩, ⟨1, some [sl r1.length (r1.map (ik .u8)), i64 r2, ik .u64 r3]⟩, ⟨0, none⟩]) rfl rfl rfl (TOp.callN (A := [sl a0.length (a0.map (ik .u8))]) (ls := [[sl r1.length (r1.map (ik .u8)), i64 r2, ik .u64 r3]]) [1] (by exact (CallAs.func ent53 rfl rfl)) (lts_cons (lt_sl (fun _ => rfl)) lts_nil) (s_l00From_ok a0 r1 r2 r3 hf1) (and_all (lts_cons (lt_sl (fun _ => rfl)) (lts_cons rfl (lts_cons rfl lts_nil))) rfl) rfl (by decide) (ns_of ⟨⟨_, rfl⟩, trivial⟩)) rfl ?_
 refine zA (r := optr 1 1 0) rfl rfl rfl rfl rfl ?_
 refine zN ?_
 refine RunC.seq ?_
 obtain ⟨r4, r5, r6, r7, r8, hf2, h⟩ := obind5_some h
 refine RunC.regionW ?_
 refine zM (r := optr 1 1 0) rfl rfl rfl rfl rfl ?_
 refine zM (r := i64 a1) rfl rfl rfl rfl rfl ?_
 refine zM (r := i64 a2) rfl rfl rfl rfl rfl ?_
 refine ROps.callO (A := [optr 1 1 0, i64 a1, i64 a2]) (args := [optr 0 0 0, i64 a1, i64 a2]) (Γc := [⟨0, some [sl r1.length (r1.map (ik .u8)), i64 r2, ik .u64 r3]⟩]) (Γc' := [⟨0, some [sl r1.length (r1.map (ik .u8)), i64 r6, ik .u64 r7]⟩, ⟨0, some (r8.map f32)⟩]) (r' := agg [i64 r4, i64 r5, oref 2 1 0 r8.length]) (Γ' := [⟨1, some [i64 0, i64 0, nilsl]⟩, ⟨1, some [sl r1.length (r1.map (ik .u8)), i64 r6, ik .u64 r7]⟩, ⟨1, some (r8.map f32)⟩]) [(1, 1)] [(2, 1)] rfl (CallAs.func ent55 rfl rfl) rfl rfl (SelOk.of (show List.Nodup [1] from by decide) (SelL.cells0 rfl (by simp [ren, rens, sigma, rens_f32, rens_f64, rens_i64, rens_ik, rens_str, rens_cp]) (lts_cons (lt_slk (fun _ => rfl)) (lts_cons rfl (lts_cons rfl lts_nil))) trivial)) (live_of ⟨⟨_, _, rfl⟩, trivial⟩) (by simp [ren, rens, sigma, rens_f32, rens_f64, rens_i64, rens_ik, rens_str, rens_cp]) rfl (s_l02DrawSides_0p0_C0_ok a1 a2 r1 r2 r3 r4 r5 r6 r7 r8 hf2) rfl (news_of ⟨⟨_, rfl, rfl⟩, trivial⟩) (show List.Nodup [1, 2] from by decide) (by simp [ren, rens, sigma]) (by simp [backOb, sigma, ren, rens, rens_f32, rens_f64, rens_i64, rens_ik, rens_str, rens_cp]) ?_
 refine ROps.store_le (r := agg [i64 r4, i64 r5, oref 2 1 0 r8.length]) (l' := [i64 r4, i64 r5, oref 2 1 0 r8.length]) (Γ' := [⟨1, some [i64 r4, i64 r5, oref 2 1 0 r8.length]⟩, ⟨1, some [sl r1.length (r1.map (ik .u8)), i64 r6, ik .u64 r7]⟩, ⟨1, some (r8.map f32)⟩]) rfl siz26 rfl rfl rfl aR rfl rfl rfl rfl (Nat.le_of_ble_eq_true rfl) rfl rfl ?_
 refine zN ?_
 refine RunC.ret ?_
 have hq := Option.some.inj h
 obtain ⟨hq0, hq⟩ := Prod.mk.inj hq
 obtain ⟨hq1, hq⟩ := Prod.mk.inj hq
 subst q0
 subst q1
 subst q2
 exact bodyQ.mk (r' := agg [i64 r4, i64 r5, oref 2 1 0 r8.length]) [(2, 1)] (.inr rfl) rfl (show List.Nodup [2] from by decide) rfl rfl (Res.one rfl (RV.cell agg26 siz26 rfl rfl rfl rfl)) (SelL.arr0 (f := f32) (fun _ => rfl) rfl trivial)
noncomputable def i_inRange (a0 : Int) (a1 : Int) (a2 : Int) : Option (Bool) :=
 bsel (decide (a1 ≤ a0)) (
  some (decide (a0 ≤ a2))) (
  some false)
theorem i_inRange_ok (a0 : Int) (a1 : Int) (a2 : Int) (q0 : Bool) (h : i_inRange a0 a1 a2 = some q0) : Ev Try.prog 65 [i64 a0, i64 a1, i64 a2] [] (b q0) [] := by
 refine Ev.start Try.func65 rfl rfl 0 (τ := [(0, i64 a0), (1, i64 a1), (2, i64 a2)]) rfl (Γ' := []) rfl (n := 31) rfl (g := 0) rfl (fun _ => rfl) ?_
 unfold i_inRange at h
 refine zQ ?_
 refine zA (r := b false) rfl rfl rfl rfl rfl ?_
 refine zN ?_
 refine RunC.seq ?_
 rcases bsel_some h with ⟨hc1, h⟩ | ⟨hc1, h⟩
 ·refine RunC.regionW ?_
  refine zM (r := i64 a1) rfl rfl rfl rfl rfl ?_
  refine zM (r := i64 a0) rfl rfl rfl rfl rfl ?_
  refine zL (r := b true) rfl rfl rfl (LOp.eqb (LOp.leq rfl rfl rfl) hc1) ?_
  refine zM (r := b true) rfl rfl rfl rfl rfl ?_
  refine zM (r := i64 a0) rfl rfl rfl rfl rfl ?_
  refine zM (r := i64 a2) rfl rfl rfl rfl rfl ?_
  refine zL (r := b (decide (a0 ≤ a2))) rfl rfl rfl (LOp.leq rfl rfl rfl) ?_
  refine zL (r := b (decide (a0 ≤ a2))) rfl rfl rfl (LOp.pick_true rfl rfl rfl) ?_
  refine zA (r := b (decide (a0 ≤ a2))) rfl rfl rfl rfl rfl ?_
  refine zN ?_
  refine RunC.ret ?_
  have hq := Option.some.inj h
  subst q0
  exact bodyQ.pure (.inr rfl) rfl (Res.one rfl (RV.tmp rfl))
 ·refine RunC.regionW ?_
  refine zM (r := i64 a1) rfl rfl rfl rfl rfl ?_
  refine zM (r := i64 a0) rfl rfl rfl rfl rfl ?_
  refine zL (r := b false) rfl rfl rfl (LOp.eqb (LOp.leq rfl rfl rfl) hc1) ?_
  refine zM (r := b false) rfl rfl rfl rfl rfl ?_
  iterate 3 (refine ROps.s rfl rfl rfl ?_)
  refine zL (r := b false) rfl rfl rfl (LOp.pick_false rfl rfl rfl) ?_
  refine zA (r := b false) rfl rfl rfl rfl rfl ?_
  refine zN ?_
  refine RunC.ret ?_
  have hq := Option.some.inj h
  subst q0
  exact bodyQ.pure (.inr rfl) rfl (Res.one rfl (RV.tmp rfl))
noncomputable def i_isSide (a0 : Int) : Option (Bool) :=
 obind (i_inRange a0 1 12) fun (r1 : Bool) =>
 some r1
theorem i_isSide_ok (a0 : Int) (q0 : Bool) (h : i_isSide a0 = some q0) : Ev Try.prog 59 [i64 a0] [] (b q0) [] := by
 refine Ev.start Try.func59 rfl rfl 0 (τ := [(0, i64 a0)]) rfl (Γ' := []) rfl (n := 11) rfl (g := 0) rfl (fun _ => rfl) ?_
 unfold i_isSide at h
 refine zQ ?_
 refine zA (r := b false) rfl rfl rfl rfl rfl ?_
 refine zN ?_
 refine RunC.seq ?_
 obtain ⟨r1, hf1, h⟩ := obind_some h
 refine RunC.regionW ?_
 refine zM (r := i64 a0) rfl rfl rfl rfl rfl ?_
 refine ROps.d (r := b r1) (fs := []) (Γ' := []) rfl rfl rfl (TOp.callB (CallAs.func ent65 rfl rfl) (Bors.cons (Bor.pure rfl) (Bors.cons (Bor.pure rfl) (Bors.cons (Bor.pure rfl) Bors.nil))) rfl rfl (i_inRange_ok a0 1 12 r1 hf1)) rfl ?_
 refine zA (r := b r1) rfl rfl rfl rfl rfl ?_
 refine zN ?_
 refine RunC.ret ?_
 have hq := Option.some.inj h
 subst q0
 exact bodyQ.pure (.inr rfl) rfl (Res.one rfl (RV.tmp rfl))
noncomputable def i_length_float32 (a0 : List F) : Option (Int) :=
 some (a0.length : Int)
theorem i_length_float32_ok (a0 : List F) (q0 : Int) (h : i_length_float32 a0 = some q0) : Ev Try.prog 71 [sl a0.length (a0.map f32)] [] (i64 q0) [] := by
 refine Ev.start Try.func71 rfl rfl 0 (τ := [(0, sl a0.length (a0.map f32))]) rfl (Γ' := []) rfl (n := 11) rfl (g := 0) rfl (fun _ => rfl) ?_
 unfold i_length_float32 at h
 refine zQ ?_
 refine zA (r := i64 0) rfl rfl rfl rfl rfl ?_
 refine zN ?_
 refine zQ ?_
 refine zM (r := sl a0.length (a0.map f32)) rfl rfl rfl rfl rfl ?_
 refine zL (r := i64 (a0.length : Int)) rfl rfl rfl (LOp.len_sl und24 rfl rfl) ?_
 refine zA (r := i64 (a0.length : Int)) rfl rfl rfl rfl rfl ?_
 refine zN ?_
 refine RunC.ret ?_
 have hq := Option.some.inj h
 subst q0
 exact bodyQ.pure (.inr rfl) rfl (Res.one rfl (RV.tmp rfl))
noncomputable def x_math_IsNaN (a0 : F) : Option (Bool) :=
 some (!feq .f64 a0 a0)
theorem x_math_IsNaN_ok (a0 : F) (q0 : Bool) (h : x_math_IsNaN a0 = some q0) : Ev Try.prog 162 [f64 a0] [] (b q0) [] := by
 refine Ev.start Try.func162 rfl rfl 0 (τ := [(0, f64 a0)]) rfl (Γ' := []) rfl (n := 13) rfl (g := 0) rfl (fun _ => rfl) ?_
 unfold x_math_IsNaN at h
 refine zQ ?_
 refine zA (r := b false) rfl rfl rfl rfl rfl ?_
 refine zN ?_
 refine zQ ?_
 iterate 2 (refine zM (r := f64 a0) rfl rfl rfl rfl rfl ?_)
 refine zL (r := b (!feq .f64 a0 a0)) rfl rfl rfl (LOp.fne rfl (OpF.tmp rfl) (OpF.tmp rfl)) ?_
 refine zA (r := b (!feq .f64 a0 a0)) rfl rfl rfl rfl rfl ?_
 refine zN ?_
 refine RunC.ret ?_
 have hq := Option.some.inj h
 subst q0
 exact bodyQ.pure (.inr rfl) rfl (Res.one rfl (RV.tmp rfl))
noncomputable def x_math_Abs (a0 : F) : Option (F) :=
 olet (fabs a0) fun (x1 : F) =>
 some x1
theorem x_math_Abs_ok (a0 : F) (q0 : F) (h : x_math_Abs a0 = some q0) : Ev Try.prog 110 [f64 a0] [] (f64 q0) [] := by
 refine Ev.start Try.func110 rfl rfl 0 (τ := [(0, f64 a0)]) rfl (Γ' := []) rfl (n := 15) rfl (g := 0) rfl (fun _ => rfl) ?_
 unfold x_math_Abs at h
 refine zQ ?_
 refine zL (r := f64 (some 0)) rfl rfl rfl (LOp.le (LOp.assign rfl rfl) (ALe.fl (by kernel_rfl) (by kernel_rfl))) ?_
 refine zN ?_
 refine RunC.seq ?_
 obtain ⟨x1, hx1, h⟩ := olet_some h
 refine RunC.regionW ?_
 refine zM (r := f64 a0) rfl rfl rfl rfl rfl ?_
 refine zL (r := bt .f64 .u64 a0) rfl rfl rfl (LOp.fbits ext154 rfl (OpF.tmp rfl)) ?_
 refine zL (r := bt .f64 .u64 x1) rfl rfl rfl (LOp.eqr (LOp.andNot_bt rfl rfl rfl) (congrArg (bt .f64 .u64) hx1)) ?_
 refine zL (r := f64 x1) rfl rfl rfl (LOp.ffrom ext153 rfl rfl) ?_
 refine zA (r := f64 x1) rfl rfl rfl rfl rfl ?_
 refine zN ?_
 refine RunC.ret ?_
 have hq := Option.some.inj h
 subst q0
 exact bodyQ.pure (.inr rfl) rfl (Res.one rfl (RV.tmp rfl))
noncomputable def x_math_IsInf_k1 (y3 : F) : Option (Bool) :=
 some (flt .f64 (some 9218868437227405311) y3)
noncomputable def x_math_IsInf (a0 : F) (a1 : Int) : Option (Bool) :=
 bsel (decide (a1 = 0)) (
  obind (x_math_Abs a0) fun (r1 : F) =>
  x_math_IsInf_k1 r1) (
  bsel (decide (a1 < 0)) (
   olet (fneg .f64 a0) fun (x2 : F) =>
   x_math_IsInf_k1 x2) (
   x_math_IsInf_k1 a0))
theorem x_math_IsInf_ok (a0 : F) (a1 : Int) (q0 : Bool) (h : x_math_IsInf a0 a1 = some q0) : Ev Try.prog 163 [f64 a0, i64 a1] [] (b q0) [] := by
 refine Ev.start Try.func163 rfl rfl 0 (τ := [(0, f64 a0), (1, i64 a1)]) rfl (Γ' := []) rfl (n := 31) rfl (g := 0) rfl (fun _ => rfl) ?_
 unfold x_math_IsInf at h
 refine zQ ?_
 refine zA (r := b false) rfl rfl rfl rfl rfl ?_
 refine zN ?_
 refine RunC.seq ?_
 refine RunC.cutN (fun τ Γ => ∃ (y3 : F), WeakLe τ [(0, f64 y3)] ∧ DeadLe Γ [] ∧ x_math_IsInf_k1 y3 = some q0) ?_ ?_
 ·refine RunC.seq ?_
  rcases bsel_some h with ⟨hc1, h⟩ | ⟨hc1, h⟩
  ·refine RunC.regionW ?_
   refine zM (r := i64 a1) rfl rfl rfl rfl rfl ?_
   refine zL (r := b true) rfl rfl rfl (LOp.eqb (LOp.eql rfl rfl rfl) hc1) ?_
   refine zN ?_
   refine RunC.cond_true rfl rfl ?_
   obtain ⟨r1, hf2, h⟩ := obind_some h
   refine RunC.regionW ?_
   refine zM (r := f64 a0) rfl rfl rfl rfl rfl ?_
   refine ROps.d (r := f64 r1) (fs := []) (Γ' := []) rfl rfl rfl (TOp.callB (CallAs.func ent110 rfl rfl) (Bors.cons (Bor.pure rfl) Bors.nil) rfl rfl (x_math_Abs_ok a0 r1 hf2)) rfl ?_
   refine zA (r := f64 r1) rfl rfl rfl rfl rfl ?_
   refine zN ?_
   exact ⟨r1, ⟨aR, trivial⟩, trivial, h⟩
  ·refine RunC.regionW ?_
   refine zM (r := i64 a1) rfl rfl rfl rfl rfl ?_
   refine zL (r := b false) rfl rfl rfl (LOp.eqb (LOp.eql rfl rfl rfl) hc1) ?_
   refine zN ?_
   refine RunC.cond_false rfl rfl ?_
   refine RunC.seq ?_
   rcases bsel_some h with ⟨hc3, h⟩ | ⟨hc3, h⟩
   ·refine RunC.regionW ?_
    refine zM (r := i64 a1) rfl rfl rfl rfl rfl ?_
    refine zL (r := b true) rfl rfl rfl (LOp.eqb (LOp.lss rfl rfl rfl) hc3) ?_
    refine zN ?_
    refine RunC.cond_true rfl rfl ?_
    obtain ⟨x2, hx4, h⟩ := olet_some h
    refine RunC.regionW ?_
    refine zM (r := f64 a0) rfl rfl rfl rfl rfl ?_
    refine zL (r := f64 x2) rfl rfl rfl (LOp.eqr (LOp.fneg rfl (OpF.tmp rfl)) (congrArg (f .f64) hx4)) ?_
    refine zA (r := f64 x2) rfl rfl rfl rfl rfl ?_
    refine zN ?_
    exact ⟨x2, ⟨aR, trivial⟩, trivial, h⟩
   ·refine RunC.regionW ?_
    refine zM (r := i64 a1) rfl rfl rfl rfl rfl ?_
    refine zL (r := b false) rfl rfl rfl (LOp.eqb (LOp.lss rfl rfl rfl) hc3) ?_
    refine zN ?_
    refine RunC.cond_false rfl rfl ?_
    refine RunC.skip ?_
    exact ⟨a0, ⟨aR, trivial⟩, trivial, h⟩
 ·rintro τ2 Γ2 ⟨y3, hw2, hd2, h⟩
  refine RunC.wl hw2 hd2 ?_
  unfold x_math_IsInf_k1 at h
  refine zQ ?_
  refine zM (r := f64 y3) rfl rfl rfl rfl rfl ?_
  refine zL (r := b (flt .f64 (some 9218868437227405311) y3)) rfl rfl rfl (LOp.fgt rfl (OpF.tmp rfl) (OpF.const rfl (by kernel_rfl) (by kernel_rfl))) ?_
  refine zA (r := b (flt .f64 (some 9218868437227405311) y3)) rfl rfl rfl rfl rfl ?_
  refine zN ?_
  refine RunC.ret ?_
  have hq := Option.some.inj h
  subst q0
  exact bodyQ.pure (.inr rfl) rfl (Res.one rfl (RV.tmp rfl))
noncomputable def i_isFinite64 (a0 : F) : Option (Bool) :=
 obind (x_math_IsNaN a0) fun (r1 : Bool) =>
 bsel r1 (
  some false) (
  obind (x_math_IsInf a0 0) fun (r2 : Bool) =>
  some (!r2))
theorem i_isFinite64_ok (a0 : F) (q0 : Bool) (h : i_isFinite64 a0 = some q0) : Ev Try.prog 150 [f64 a0] [] (b q0) [] := by
 refine Ev.start Try.func150 rfl rfl 0 (τ := [(0, f64 a0)]) rfl (Γ' := []) rfl (n := 23) rfl (g := 0) rfl (fun _ => rfl) ?_
 unfold i_isFinite64 at h
 refine zQ ?_
 refine zA (r := b false) rfl rfl rfl rfl rfl ?_
 refine zN ?_
 refine RunC.seq ?_
 obtain ⟨r1, hf1, h⟩ := obind_some h
 rcases bsel_some h with ⟨hc2, h⟩ | ⟨hc2, h⟩
 ·refine RunC.regionW ?_
  refine zM (r := f64 a0) rfl rfl rfl rfl rfl ?_
  refine ROps.d (r := b true) (fs := []) (Γ' := []) rfl rfl rfl (TOp.eqb (TOp.callB (CallAs.func ent162 rfl rfl) (Bors.cons (Bor.pure rfl) Bors.nil) rfl rfl (x_math_IsNaN_ok a0 r1 hf1)) hc2) rfl ?_
  refine zL (r := b false) rfl rfl rfl (LOp.eqb (LOp.not rfl rfl) rfl) ?_
  refine zM (r := b false) rfl rfl rfl rfl rfl ?_
  iterate 3 (refine ROps.s rfl rfl rfl ?_)
  refine zL (r := b false) rfl rfl rfl (LOp.pick_false rfl rfl rfl) ?_
  refine zA (r := b false) rfl rfl rfl rfl rfl ?_
  refine zN ?_
  refine RunC.ret ?_
  have hq := Option.some.inj h
  subst q0
  exact bodyQ.pure (.inr rfl) rfl (Res.one rfl (RV.tmp rfl))
 ·obtain ⟨r2, hf3, h⟩ := obind_some h
  refine RunC.regionW ?_
  refine zM (r := f64 a0) rfl rfl rfl rfl rfl ?_
  refine ROps.d (r := b false) (fs := []) (Γ' := []) rfl rfl rfl (TOp.eqb (TOp.callB (CallAs.func ent162 rfl rfl) (Bors.cons (Bor.pure rfl) Bors.nil) rfl rfl (x_math_IsNaN_ok a0 r1 hf1)) hc2) rfl ?_
  refine zL (r := b true) rfl rfl rfl (LOp.eqb (LOp.not rfl rfl) rfl) ?_
  refine zM (r := b true) rfl rfl rfl rfl rfl ?_
  refine zM (r := f64 a0) rfl rfl rfl rfl rfl ?_
  refine ROps.d (r := b r2) (fs := []) (Γ' := []) rfl rfl rfl (TOp.callB (CallAs.func ent163 rfl rfl) (Bors.cons (Bor.pure rfl) (Bors.cons (Bor.pure rfl) Bors.nil)) rfl rfl (x_math_IsInf_ok a0 0 r2 hf3)) rfl ?_
  refine zL (r := b (!r2)) rfl rfl rfl (LOp.not rfl rfl) ?_
  refine zL (r := b (!r2)) rfl rfl rfl (LOp.pick_true rfl rfl rfl) ?_
  refine zA (r := b (!r2)) rfl rfl rfl rfl rfl ?_
  refine zN ?_
  refine RunC.ret ?_
  have hq := Option.some.inj h
  subst q0
  exact bodyQ.pure (.inr rfl) rfl (Res.one rfl (RV.tmp rfl))
noncomputable def i_IsFinite (a0 : F) : Option (Bool) :=
 olet (fwiden a0) fun (x1 : F) =>
 obind (i_isFinite64 x1) fun (r2 : Bool) =>
 some r2
theorem i_IsFinite_ok (a0 : F) (q0 : Bool) (h : i_IsFinite a0 = some q0) : Ev Try.prog 107 [f32 a0] [] (b q0) [] := by
 refine Ev.start Try.func107 rfl rfl 0 (τ := [(0, f32 a0)]) rfl (Γ' := []) rfl (n := 13) rfl (g := 0) rfl (fun _ => rfl) ?_
 unfold i_IsFinite at h
 refine zQ ?_
 refine zA (r := b false) rfl rfl rfl rfl rfl ?_
 refine zN ?_
 refine RunC.seq ?_
 obtain ⟨x1, hx1, h⟩ := olet_some h
 obtain ⟨r2, hf2, h⟩ := obind_some h
 refine RunC.regionW ?_
 refine zM (r := f32 a0) rfl rfl rfl rfl rfl ?_
 refine ROps.d (r := f64 x1) (fs := []) (Γ' := []) rfl rfl rfl (TOp.eqr (TOp.widen (src := 36) (dst := 37) ⟨_, pun36⟩ pun37 rfl (OpF.tmp rfl)) (congrArg (f .f64) hx1)) rfl ?_
 refine ROps.d (r := b r2) (fs := []) (Γ' := []) rfl rfl rfl (TOp.callB (CallAs.func ent150 rfl rfl) (Bors.cons (Bor.pure rfl) Bors.nil) rfl rfl (i_isFinite64_ok x1 r2 hf2)) rfl ?_
 refine zA (r := b r2) rfl rfl rfl rfl rfl ?_
 refine zN ?_
 refine RunC.ret ?_
 have hq := Option.some.inj h
 subst q0
 exact bodyQ.pure (.inr rfl) rfl (Res.one rfl (RV.tmp rfl))
noncomputable def i_areFinite_1 (a0 : F) : Option (Bool) :=
 obind (i_IsFinite a0) fun (r1 : Bool) =>
 some (!r1)
theorem i_areFinite_1_ok (a0 : F) (q0 : Bool) (h : i_areFinite_1 a0 = some q0) : Ev Try.prog 133 [f32 a0] [] (b q0) [] := by
 refine Ev.start Try.func133 rfl rfl 0 (τ := [(0, f32 a0)]) rfl (Γ' := []) rfl (n := 13) rfl (g := 0) rfl (fun _ => rfl) ?_
 unfold i_areFinite_1 at h
 refine zQ ?_
 refine zA (r := b false) rfl rfl rfl rfl rfl ?_
 refine zN ?_
 refine RunC.seq ?_
 obtain ⟨r1, hf1, h⟩ := obind_some h
 refine RunC.regionW ?_
 refine zM (r := f32 a0) rfl rfl rfl rfl rfl ?_
 refine ROps.d (r := b r1) (fs := []) (Γ' := []) rfl rfl rfl (TOp.callB (CallAs.func ent107 rfl rfl) (Bors.cons (Bor.pure rfl) Bors.nil) rfl rfl (i_IsFinite_ok a0 r1 hf1)) rfl ?_
 refine zL (r := b (!r1)) rfl rfl rfl (LOp.not rfl rfl) ?_
 refine zA (r := b (!r1)) rfl rfl rfl rfl rfl ?_
 refine zN ?_
 refine RunC.ret ?_
 have hq := Option.some.inj h
 subst q0
 exact bodyQ.pure (.inr rfl) rfl (Res.one rfl (RV.tmp rfl))
noncomputable def x_slices_IndexFunc_float32_float32_1Fi_areFinite_1_b1 (a0 : List F) (v1 : Int) : Option (LR (Int) (Unit) (Int)) :=
 bsel (decide (v1 < (a0.length : Int))) (
  obind (at? a0 v1) fun (e2 : F) =>
  obind (i_areFinite_1 e2) fun (r3 : Bool) =>
  bsel r3 (
   some (LR.ret v1)) (
   olet (IntKind.i64.wrap (v1 + 1)) fun (x4 : Int) =>
   some (LR.next x4))) (
  some (LR.out ()))
noncomputable def x_slices_IndexFunc_float32_float32_1Fi_areFinite_1_s1 (a0 : List F) : (Int) → Option (LR (Int) (Unit) (Int)) := fun s => x_slices_IndexFunc_float32_float32_1Fi_areFinite_1_b1 a0 s
noncomputable def x_slices_IndexFunc_float32_float32_1Fi_areFinite_1_k1  : Option (Int) :=
 some (-1)
noncomputable def x_slices_IndexFunc_float32_float32_1Fi_areFinite_1 (a0 : List F) : Option (Int) :=
 obind (loopM (x_slices_IndexFunc_float32_float32_1Fi_areFinite_1_s1 a0) 0) fun z => osum z (fun _ => x_slices_IndexFunc_float32_float32_1Fi_areFinite_1_k1) (fun r => some r)
theorem x_slices_IndexFunc_float32_float32_1Fi_areFinite_1_ok (a0 : List F) (q0 : Int) (h : x_slices_IndexFunc_float32_float32_1Fi_areFinite_1 a0 = some q0) : Ev Try.prog 160 [sl a0.length (a0.map f32), fn (.func 133) [] []] [] (i64 q0) [] := by
 refine Ev.start Try.func160 rfl rfl 0 (τ := [(0, sl a0.length (a0.map f32)), (1, fn (.func 133) [] [])]) rfl (Γ' := []) rfl (n := 39) rfl (g := 0) rfl (fun _ => rfl) ?_
 unfold x_slices_IndexFunc_float32_float32_1Fi_areFinite_1 at h
 refine zQ ?_
 refine zA (r := i64 0) rfl rfl rfl rfl rfl ?_
 refine zN ?_
 refine RunC.seq ?_
 refine zQ ?_
 refine zM (r := sl a0.length (a0.map f32)) rfl rfl rfl rfl rfl ?_
 refine zL (r := i64 (a0.length : Int)) rfl rfl rfl (LOp.len_sl und24 rfl rfl) ?_
 refine zM (r := i64 0) rfl rfl rfl rfl rfl ?_
 refine zN ?_
 obtain ⟨z2, hz_2, h⟩ := obind_some h
 refine RunC.cutN (fun τ Γ => WeakLe τ [] ∧ DeadLe Γ [] ∧ z2 = .inl ()) ?_ ?_
 ·refine RunC.block (RunC.loop (RunL.loopM (x := z2) (x_slices_IndexFunc_float32_float32_1Fi_areFinite_1_s1 a0) (fun (s : Int) τ Γ => WeakLe τ [(0, sl a0.length (a0.map f32)), (1, fn (.func 133) [] []), (7, i64 (a0.length : Int)), (8, i64 s)] ∧ DeadLe Γ []) ?_ _ _ _ hz_2 ⟨⟨aR, aR, aR, aR, trivial⟩, trivial⟩))
  rintro v1 τ2 Γ2 y2_ ⟨hw2, hd2⟩ h2_ ho2 hr2
  refine RunC.wl (τ' := [(0, sl a0.length (a0.map f32)), (1, fn (.func 133) [] []), (7, i64 (a0.length : Int)), (8, i64 v1)]) (Γ' := []) hw2 hd2 ?_
  replace h2_ : x_slices_IndexFunc_float32_float32_1Fi_areFinite_1_b1 a0 v1 = some y2_ := h2_
  unfold x_slices_IndexFunc_float32_float32_1Fi_areFinite_1_b1 at h2_
  refine RunC.seq ?_
  rcases bsel_some h2_ with ⟨hc1, h2_⟩ | ⟨hc1, h2_⟩
  ·refine RunC.regionW ?_
   refine zL (r := b true) rfl rfl rfl (LOp.eqb (LOp.lss rfl rfl rfl) hc1) ?_
   refine zN ?_
   refine RunC.seq ?_
   refine RunC.cond_true rfl rfl ?_
   refine RunC.skip ?_
   refine RunC.seq ?_
   refine RunC.block ?_
   refine zQ ?_
   refine zM (r := i64 v1) rfl rfl rfl rfl rfl ?_
   refine zA (r := i64 v1) rfl rfl rfl rfl rfl ?_
   refine zN ?_
   refine RunC.seq ?_
   obtain ⟨e2, he2, h2_⟩ := obind_some h2_
   obtain ⟨r3, hf3, h2_⟩ := obind_some h2_
   rcases bsel_some h2_ with ⟨hc4, h2_⟩ | ⟨hc4, h2_⟩
   ·refine RunC.regionW ?_
    refine zM (r := fn (.func 133) [] []) rfl rfl rfl rfl rfl ?_
    refine zM (r := sl a0.length (a0.map f32)) rfl rfl rfl rfl rfl ?_
    refine zM (r := i64 v1) rfl rfl rfl rfl rfl ?_
    refine zL (r := ptr [f32 e2]) rfl rfl rfl (LOp.le (LOp.ix (f := f32) und24 siz36 rfl rfl rfl rfl he2) ALe.ptr) ?_
    refine zL (r := f32 e2) rfl rfl rfl (LOp.load1 agg36 rfl rfl) ?_
    refine ROps.d (r := b true) (fs := []) (Γ' := []) rfl rfl rfl (TOp.eqb (TOp.callB (CallAs.fn ent133 rfl rfl rfl rfl) (Bors.cons (Bor.pure rfl) Bors.nil) rfl rfl (i_areFinite_1_ok e2 r3 hf3)) hc4) rfl ?_
    refine zN ?_
    refine RunC.cond_true rfl rfl ?_
    refine zQ ?_
    refine zM (r := i64 v1) rfl rfl rfl rfl rfl ?_
    refine zA (r := i64 v1) rfl rfl rfl rfl rfl ?_
    refine zN ?_
    refine RunC.ret ?_
    cases Option.some.inj h2_
    have hx3_ := hr2 _ rfl
    subst hx3_
    have hq := Option.some.inj h
    subst q0
    exact bodyQ.pure (.inr rfl) rfl (Res.one rfl (RV.tmp rfl))
   ·refine RunC.regionW ?_
    refine zM (r := fn (.func 133) [] []) rfl rfl rfl rfl rfl ?_
    refine zM (r := sl a0.length (a0.map f32)) rfl rfl rfl rfl rfl ?_
    refine zM (r := i64 v1) rfl rfl rfl rfl rfl ?_
    refine zL (r := ptr [f32 e2]) rfl rfl rfl (LOp.le (LOp.ix (f := f32) und24 siz36 rfl rfl rfl rfl he2) ALe.ptr) ?_
    refine zL (r := f32 e2) rfl rfl rfl (LOp.load1 agg36 rfl rfl) ?_
    refine ROps.d (r := b false) (fs := []) (Γ' := []) rfl rfl rfl (TOp.eqb (TOp.callB (CallAs.fn ent133 rfl rfl rfl rfl) (Bors.cons (Bor.pure rfl) Bors.nil) rfl rfl (i_areFinite_1_ok e2 r3 hf3)) hc4) rfl ?_
    refine zN ?_
    refine RunC.cond_false rfl rfl ?_
    refine RunC.skip ?_
    obtain ⟨x4, hx5, h2_⟩ := olet_some h2_
    refine RunC.regionW ?_
    refine zL (r := i64 x4) rfl rfl rfl (LOp.eqr (LOp.add rfl rfl rfl) (congrArg (ik .i64) hx5)) ?_
    refine zM (r := i64 x4) rfl rfl rfl rfl rfl ?_
    refine zN ?_
    cases Option.some.inj h2_
    exact ⟨_, rfl, ⟨aR, aR, aR, aR, trivial⟩, trivial⟩
  ·refine RunC.regionW ?_
   refine zL (r := b false) rfl rfl rfl (LOp.eqb (LOp.lss rfl rfl rfl) hc1) ?_
   refine zN ?_
   refine RunC.seq ?_
   refine RunC.cond_false rfl rfl ?_
   refine RunC.exit ?_
   cases Option.some.inj h2_
   have hx := ho2 _ rfl
   exact ⟨trivial, trivial, hx⟩
 ·rintro τ4 Γ4 ⟨hw4, hd4, rfl⟩
  refine RunC.wl hw4 hd4 ?_
  replace h : x_slices_IndexFunc_float32_float32_1Fi_areFinite_1_k1 = some q0 := h
  unfold x_slices_IndexFunc_float32_float32_1Fi_areFinite_1_k1 at h
  refine zQ ?_
  refine zA (r := i64 (-1)) rfl rfl rfl rfl rfl ?_
  refine zN ?_
  refine RunC.ret ?_
  have hq := Option.some.inj h
  subst q0
  exact bodyQ.pure (.inr rfl) rfl (Res.one rfl (RV.tmp rfl))
noncomputable def x_slices_ContainsFunc_float32_float32_1Fi_areFinite_1 (a0 : List F) : Option (Bool) :=
 obind (x_slices_IndexFunc_float32_float32_1Fi_areFinite_1 a0) fun (r1 : Int) =>
 some (decide (0 ≤ r1))
theorem x_slices_ContainsFunc_float32_float32_1Fi_areFinite_1_ok (a0 : List F) (q0 : Bool) (h : x_slices_ContainsFunc_float32_float32_1Fi_areFinite_1 a0 = some q0) : Ev Try.prog 132 [sl a0.length (a0.map f32), fn (.func 133) [] []] [] (b q0) [] := by
 refine Ev.start Try.func132 rfl rfl 0 (τ := [(0, sl a0.length (a0.map f32)), (1, fn (.func 133) [] [])]) rfl (Γ' := []) rfl (n := 19) rfl (g := 0) rfl (fun _ => rfl) ?_
 unfold x_slices_ContainsFunc_float32_float32_1Fi_areFinite_1 at h
 refine zQ ?_
 refine zA (r := b false) rfl rfl rfl rfl rfl ?_
 refine zN ?_
 refine RunC.seq ?_
 obtain ⟨r1, hf1, h⟩ := obind_some h
 refine RunC.regionW ?_
 refine zM (r := sl a0.length (a0.map f32)) rfl rfl rfl rfl rfl ?_
 refine zM (r := fn (.func 133) [] []) rfl rfl rfl rfl rfl ?_
 refine ROps.d (r := i64 r1) (fs := []) (Γ' := []) rfl rfl rfl (TOp.callB (CallAs.func ent160 rfl rfl) (Bors.cons (Bor.sl (fun _ => rfl)) (Bors.cons (Bor.fn Bors.nil Bors.nil) Bors.nil)) rfl rfl (x_slices_IndexFunc_float32_float32_1Fi_areFinite_1_ok a0 r1 hf1)) rfl ?_
 refine zL (r := b (decide (0 ≤ r1))) rfl rfl rfl (LOp.geq rfl rfl rfl) ?_
 refine zA (r := b (decide (0 ≤ r1))) rfl rfl rfl rfl rfl ?_
 refine zN ?_
 refine RunC.ret ?_
 have hq := Option.some.inj h
 subst q0
 exact bodyQ.pure (.inr rfl) rfl (Res.one rfl (RV.tmp rfl))
noncomputable def i_areFinite (a0 : List F) : Option (Bool) :=
 obind (x_slices_ContainsFunc_float32_float32_1Fi_areFinite_1 a0) fun (r1 : Bool) =>
 some (!r1)
theorem i_areFinite_ok (a0 : List F) (q0 : Bool) (h : i_areFinite a0 = some q0) : Ev Try.prog 79 [sl a0.length (a0.map f32)] [] (b q0) [] := by
 refine Ev.start Try.func79 rfl rfl 0 (τ := [(0, sl a0.length (a0.map f32))]) rfl (Γ' := []) rfl (n := 13) rfl (g := 0) rfl (fun _ => rfl) ?_
 unfold i_areFinite at h
 refine zQ ?_
 refine zA (r := b false) rfl rfl rfl rfl rfl ?_
 refine zN ?_
 refine RunC.seq ?_
 obtain ⟨r1, hf1, h⟩ := obind_some h
 refine RunC.regionW ?_
 refine zM (r := sl a0.length (a0.map f32)) rfl rfl rfl rfl rfl ?_
 refine ROps.d (r := b r1) (fs := []) (Γ' := []) rfl rfl rfl (TOp.callB (CallAs.func ent132 rfl rfl) (Bors.cons (Bor.sl (fun _ => rfl)) (Bors.cons (Bor.fn Bors.nil Bors.nil) Bors.nil)) rfl rfl (x_slices_ContainsFunc_float32_float32_1Fi_areFinite_1_ok a0 r1 hf1)) rfl ?_
 refine zL (r := b (!r1)) rfl rfl rfl (LOp.not rfl rfl) ?_
 refine zA (r := b (!r1)) rfl rfl rfl rfl rfl ?_
 refine zN ?_
 refine RunC.ret ?_
 have hq := Option.some.inj h
 subst q0
 exact bodyQ.pure (.inr rfl) rfl (Res.one rfl (RV.tmp rfl))
noncomputable def i_ValidMatrix (a0 : Int) (a1 : Int) (a2 : List F) : Option (Bool) :=
 obind (i_isSide a0) fun (r1 : Bool) =>
 bsel r1 (
  obind (i_isSide a1) fun (r2 : Bool) =>
  bsel r2 (
   obind (i_length_float32 a2) fun (r3 : Int) =>
   olet (IntKind.i64.wrap (a0 * a1)) fun (x4 : Int) =>
   bsel (decide (r3 = x4)) (
    obind (i_areFinite a2) fun (r5 : Bool) =>
    some r5) (
    some false)) (
   some false)) (
  some false)
theorem i_ValidMatrix_ok (a0 : Int) (a1 : Int) (a2 : List F) (q0 : Bool) (h : i_ValidMatrix a0 a1 a2 = some q0) : Ev Try.prog 66 [agg [i64 a0, i64 a1, sl a2.length (a2.map f32)]] [] (b q0) [] := by
 refine Ev.start Try.func66 rfl rfl 0 (τ := [(0, agg [i64 a0, i64 a1, sl a2.length (a2.map f32)])]) rfl (Γ' := []) rfl (n := 55) rfl (g := 0) rfl (fun _ => rfl) ?_
 unfold i_ValidMatrix at h
 refine zQ ?_
 refine ROps.d (r := ptr [i64 a0, i64 a1, sl a2.length (a2.map f32)]) (fs := []) (Γ' := []) rfl rfl rfl (TOp.box_s rfl rfl rfl) rfl ?_
 refine zA (r := b false) rfl rfl rfl rfl rfl ?_
 refine zN ?_
 refine RunC.seq ?_
 obtain ⟨r1, hf1, h⟩ := obind_some h
 rcases bsel_some h with ⟨hc2, h⟩ | ⟨hc2, h⟩
 ·obtain ⟨r2, hf3, h⟩ := obind_some h
  rcases bsel_some h with ⟨hc4, h⟩ | ⟨hc4, h⟩
  ·obtain ⟨r3, hf5, h⟩ := obind_some h
   obtain ⟨x4, hx6, h⟩ := olet_some h
   rcases bsel_some h with ⟨hc7, h⟩ | ⟨hc7, h⟩
   ·obtain ⟨r5, hf8, h⟩ := obind_some h
    refine RunC.region_draw (Γ' := []) 25 mixed 
     (TR.l (r := ptr [i64 a0, i64 a1, sl a2.length (a2.map f32)]) rfl rfl (LOp.fap und26 rfl siz2 rfl rfl rfl) <|
     (TR.l (r := i64 a0) rfl rfl (LOp.load1 agg2 rfl rfl) <|
     (TR.d (r := b true) (fs := []) rfl rfl (TOp.eqb (TOp.callB (CallAs.func ent59 rfl rfl) (Bors.cons (Bor.pure rfl) Bors.nil) rfl rfl (i_isSide_ok a0 r1 hf1)) hc2) <|
     (TR.l (r := b true) rfl rfl (LOp.move rfl rfl) <|
     (TR.l (r := ptr [i64 a1, sl a2.length (a2.map f32)]) rfl rfl (LOp.fap und26 rfl siz2 rfl rfl rfl) <|
     (TR.l (r := i64 a1) rfl rfl (LOp.load1 agg2 rfl rfl) <|
     (TR.d (r := b true) (fs := []) rfl rfl (TOp.eqb (TOp.callB (CallAs.func ent59 rfl rfl) (Bors.cons (Bor.pure rfl) Bors.nil) rfl rfl (i_isSide_ok a1 r2 hf3)) hc4) <|
     (TR.l (r := b true) rfl rfl (LOp.pick_true rfl rfl rfl) <|
     (TR.l (r := b true) rfl rfl (LOp.move rfl rfl) <|
     (TR.l (r := ptr [sl a2.length (a2.map f32)]) rfl rfl (LOp.fap und26 rfl siz24 rfl rfl rfl) <|
     (TR.l (r := sl a2.length (a2.map f32)) rfl rfl (LOp.load1 agg24 rfl rfl) <|
     (TR.d (r := i64 r3) (fs := []) rfl rfl (TOp.callB (CallAs.func ent71 rfl rfl) (Bors.cons (Bor.sl (fun _ => rfl)) Bors.nil) rfl rfl (i_length_float32_ok a2 r3 hf5)) <|
     (TR.l (r := ptr [i64 a0, i64 a1, sl a2.length (a2.map f32)]) rfl rfl (LOp.fap und26 rfl siz2 rfl rfl rfl) <|
     (TR.l (r := i64 a0) rfl rfl (LOp.load1 agg2 rfl rfl) <|
     (TR.l (r := ptr [i64 a1, sl a2.length (a2.map f32)]) rfl rfl (LOp.fap und26 rfl siz2 rfl rfl rfl) <|
     (TR.l (r := i64 a1) rfl rfl (LOp.load1 agg2 rfl rfl) <|
     (TR.l (r := i64 x4) rfl rfl (LOp.eqr (LOp.mul rfl rfl rfl) (congrArg (ik .i64) hx6)) <|
     (TR.l (r := b true) rfl rfl (LOp.eqb (LOp.eql rfl rfl rfl) hc7) <|
     (TR.l (r := b true) rfl rfl (LOp.pick_true rfl rfl rfl) <|
     (TR.l (r := b true) rfl rfl (LOp.move rfl rfl) <|
     (TR.l (r := ptr [sl a2.length (a2.map f32)]) rfl rfl (LOp.fap und26 rfl siz24 rfl rfl rfl) <|
     (TR.l (r := sl a2.length (a2.map f32)) rfl rfl (LOp.load1 agg24 rfl rfl) <|
     (TR.d (r := b r5) (fs := []) rfl rfl (TOp.callB (CallAs.func ent79 rfl rfl) (Bors.cons (Bor.sl (fun _ => rfl)) Bors.nil) rfl rfl (i_areFinite_ok a2 r5 hf8)) <|
     (TR.l (r := b r5) rfl rfl (LOp.pick_true rfl rfl rfl) <|
     (TR.l (r := b r5) rfl rfl (LOp.assign rfl rfl) <|
     TR.nil))))))))))))))))))))))))) rfl (by kernel_rfl) rfl fills_nil rfl ?_
    iterate 25 refine ROps.dropS ?_
    refine ROps.drop0 ?_
    refine zN ?_
    refine RunC.ret ?_
    have hq := Option.some.inj h
    subst q0
    exact bodyQ.pure (.inr rfl) rfl (Res.one rfl (RV.tmp rfl))
   ·refine RunC.region_draw (Γ' := []) 25 mixed 
     (TR.l (r := ptr [i64 a0, i64 a1, sl a2.length (a2.map f32)]) rfl rfl (LOp.fap und26 rfl siz2 rfl rfl rfl) <|
     (TR.l (r := i64 a0) rfl rfl (LOp.load1 agg2 rfl rfl) <|
     (TR.d (r := b true) (fs := []) rfl rfl (TOp.eqb (TOp.callB (CallAs.func ent59 rfl rfl) (Bors.cons (Bor.pure rfl) Bors.nil) rfl rfl (i_isSide_ok a0 r1 hf1)) hc2) <|
     (TR.l (r := b true) rfl rfl (LOp.move rfl rfl) <|
     (TR.l (r := ptr [i64 a1, sl a2.length (a2.map f32)]) rfl rfl (LOp.fap und26 rfl siz2 rfl rfl rfl) <|
     (TR.l (r := i64 a1) rfl rfl (LOp.load1 agg2 rfl rfl) <|
     (TR.d (r := b true) (fs := []) rfl rfl (TOp.eqb (TOp.callB (CallAs.func ent59 rfl rfl) (Bors.cons (Bor.pure rfl) Bors.nil) rfl rfl (i_isSide_ok a1 r2 hf3)) hc4) <|
     (TR.l (r := b true) rfl rfl (LOp.pick_true rfl rfl rfl) <|
     (TR.l (r := b true) rfl rfl (LOp.move rfl rfl) <|
     (TR.l (r := ptr [sl a2.length (a2.map f32)]) rfl rfl (LOp.fap und26 rfl siz24 rfl rfl rfl) <|
     (TR.l (r := sl a2.length (a2.map f32)) rfl rfl (LOp.load1 agg24 rfl rfl) <|
     (TR.d (r := i64 r3) (fs := []) rfl rfl (TOp.callB (CallAs.func ent71 rfl rfl) (Bors.cons (Bor.sl (fun _ => rfl)) Bors.nil) rfl rfl (i_length_float32_ok a2 r3 hf5)) <|
     (TR.l (r := ptr [i64 a0, i64 a1, sl a2.length (a2.map f32)]) rfl rfl (LOp.fap und26 rfl siz2 rfl rfl rfl) <|
     (TR.l (r := i64 a0) rfl rfl (LOp.load1 agg2 rfl rfl) <|
     (TR.l (r := ptr [i64 a1, sl a2.length (a2.map f32)]) rfl rfl (LOp.fap und26 rfl siz2 rfl rfl rfl) <|
     (TR.l (r := i64 a1) rfl rfl (LOp.load1 agg2 rfl rfl) <|
     (TR.l (r := i64 x4) rfl rfl (LOp.eqr (LOp.mul rfl rfl rfl) (congrArg (ik .i64) hx6)) <|
     (TR.l (r := b false) rfl rfl (LOp.eqb (LOp.eql rfl rfl rfl) hc7) <|
     (TR.l (r := b false) rfl rfl (LOp.pick_true rfl rfl rfl) <|
     (TR.l (r := b false) rfl rfl (LOp.move rfl rfl) <|
     (TR.s rfl rfl <|
     (TR.s rfl rfl <|
     (TR.s rfl rfl <|
     (TR.l (r := b false) rfl rfl (LOp.pick_false rfl rfl rfl) <|
     (TR.l (r := b false) rfl rfl (LOp.assign rfl rfl) <|
     TR.nil))))))))))))))))))))))))) rfl (by kernel_rfl) rfl fills_nil rfl ?_
    iterate 25 refine ROps.dropS ?_
    refine ROps.drop0 ?_
    refine zN ?_
    refine RunC.ret ?_
    have hq := Option.some.inj h
    subst q0
    exact bodyQ.pure (.inr rfl) rfl (Res.one rfl (RV.tmp rfl))
  ·refine RunC.region_draw (Γ' := []) 25 mixed 
    (TR.l (r := ptr [i64 a0, i64 a1, sl a2.length (a2.map f32)]) rfl rfl (LOp.fap und26 rfl siz2 rfl rfl rfl) <|
    (TR.l (r := i64 a0) rfl rfl (LOp.load1 agg2 rfl rfl) <|
    (TR.d (r := b true) (fs := []) rfl rfl (TOp.eqb (TOp.callB (CallAs.func ent59 rfl rfl) (Bors.cons (Bor.pure rfl) Bors.nil) rfl rfl (i_isSide_ok a0 r1 hf1)) hc2) <|
    (TR.l (r := b true) rfl rfl (LOp.move rfl rfl) <|
    (TR.l (r := ptr [i64 a1, sl a2.length (a2.map f32)]) rfl rfl (LOp.fap und26 rfl siz2 rfl rfl rfl) <|
    (TR.l (r := i64 a1) rfl rfl (LOp.load1 agg2 rfl rfl) <|
    (TR.d (r := b false) (fs := []) rfl rfl (TOp.eqb (TOp.callB (CallAs.func ent59 rfl rfl) (Bors.cons (Bor.pure rfl) Bors.nil) rfl rfl (i_isSide_ok a1 r2 hf3)) hc4) <|
    (TR.l (r := b false) rfl rfl (LOp.pick_true rfl rfl rfl) <|
    (TR.l (r := b false) rfl rfl (LOp.move rfl rfl) <|
    (TR.s rfl rfl <|
    (TR.s rfl rfl <|
    (TR.s rfl rfl <|
    (TR.s rfl rfl <|
    (TR.s rfl rfl <|
    (TR.s rfl rfl <|
    (TR.s rfl rfl <|
    (TR.s rfl rfl <|
    (TR.s rfl rfl <|
    (TR.l (r := b false) rfl rfl (LOp.pick_false rfl rfl rfl) <|
    (TR.l (r := b false) rfl rfl (LOp.move rfl rfl) <|
    (TR.s rfl rfl <|
    (TR.s rfl rfl <|
    (TR.s rfl rfl <|
    (TR.l (r := b false) rfl rfl (LOp.pick_false rfl rfl rfl) <|
    (TR.l (r := b false) rfl rfl (LOp.assign rfl rfl) <|
    TR.nil))))))))))))))))))))))))) rfl (by kernel_rfl) rfl fills_nil rfl ?_
   iterate 25 refine ROps.dropS ?_
   refine ROps.drop0 ?_
   refine zN ?_
   refine RunC.ret ?_
   have hq := Option.some.inj h
   subst q0
   exact bodyQ.pure (.inr rfl) rfl (Res.one rfl (RV.tmp rfl))
 ·refine RunC.region_draw (Γ' := []) 25 mixed 
   (TR.l (r := ptr [i64 a0, i64 a1, sl a2.length (a2.map f32)]) rfl rfl (LOp.fap und26 rfl siz2 rfl rfl rfl) <|
   (TR.l (r := i64 a0) rfl rfl (LOp.load1 agg2 rfl rfl) <|
   (TR.d (r := b false) (fs := []) rfl rfl (TOp.eqb (TOp.callB (CallAs.func ent59 rfl rfl) (Bors.cons (Bor.pure rfl) Bors.nil) rfl rfl (i_isSide_ok a0 r1 hf1)) hc2) <|
   (TR.l (r := b false) rfl rfl (LOp.move rfl rfl) <|
   (TR.s rfl rfl <|
   (TR.s rfl rfl <|
   (TR.s rfl rfl <|
   (TR.l (r := b false) rfl rfl (LOp.pick_false rfl rfl rfl) <|
   (TR.l (r := b false) rfl rfl (LOp.move rfl rfl) <|
   (TR.s rfl rfl <|
   (TR.s rfl rfl <|
   (TR.s rfl rfl <|
   (TR.s rfl rfl <|
   (TR.s rfl rfl <|
   (TR.s rfl rfl <|
   (TR.s rfl rfl <|
   (TR.s rfl rfl <|
   (TR.s rfl rfl <|
   (TR.l (r := b false) rfl rfl (LOp.pick_false rfl rfl rfl) <|
   (TR.l (r := b false) rfl rfl (LOp.move rfl rfl) <|
   (TR.s rfl rfl <|
   (TR.s rfl rfl <|
   (TR.s rfl rfl <|
   (TR.l (r := b false) rfl rfl (LOp.pick_false rfl rfl rfl) <|
   (TR.l (r := b false) rfl rfl (LOp.assign rfl rfl) <|
   TR.nil))))))))))))))))))))))))) rfl (by kernel_rfl) rfl fills_nil rfl ?_
  iterate 25 refine ROps.dropS ?_
  refine ROps.drop0 ?_
  refine zN ?_
  refine RunC.ret ?_
  have hq := Option.some.inj h
  subst q0
  exact bodyQ.pure (.inr rfl) rfl (Res.one rfl (RV.tmp rfl))
noncomputable def i_areFactors (a0 : Int) (a1 : Int) (a2 : List F) (a3 : Int) (a4 : Int) (a5 : List F) : Option (Bool) :=
 obind (i_ValidMatrix a0 a1 a2) fun (r1 : Bool) =>
 bsel r1 (
  obind (i_ValidMatrix a3 a4 a5) fun (r2 : Bool) =>
  bsel r2 (
   some (decide (a1 = a3))) (
   some false)) (
  some false)
theorem i_areFactors_ok (a0 : Int) (a1 : Int) (a2 : List F) (a3 : Int) (a4 : Int) (a5 : List F) (q0 : Bool) (h : i_areFactors a0 a1 a2 a3 a4 a5 = some q0) : Ev Try.prog 56 [agg [i64 a0, i64 a1, sl a2.length (a2.map f32)], agg [i64 a3, i64 a4, sl a5.length (a5.map f32)]] [] (b q0) [] := by
 refine Ev.start Try.func56 rfl rfl 0 (τ := [(0, agg [i64 a0, i64 a1, sl a2.length (a2.map f32)]), (1, agg [i64 a3, i64 a4, sl a5.length (a5.map f32)])]) rfl (Γ' := []) rfl (n := 37) rfl (g := 0) rfl (fun _ => rfl) ?_
 unfold i_areFactors at h
 refine zQ ?_
 refine ROps.d (r := ptr [i64 a0, i64 a1, sl a2.length (a2.map f32)]) (fs := []) (Γ' := []) rfl rfl rfl (TOp.box_s rfl rfl rfl) rfl ?_
 refine ROps.d (r := ptr [i64 a3, i64 a4, sl a5.length (a5.map f32)]) (fs := []) (Γ' := []) rfl rfl rfl (TOp.box_s rfl rfl rfl) rfl ?_
 refine zA (r := b false) rfl rfl rfl rfl rfl ?_
 refine zN ?_
 refine RunC.seq ?_
 obtain ⟨r1, hf1, h⟩ := obind_some h
 rcases bsel_some h with ⟨hc2, h⟩ | ⟨hc2, h⟩
 ·obtain ⟨r2, hf3, h⟩ := obind_some h
  rcases bsel_some h with ⟨hc4, h⟩ | ⟨hc4, h⟩
  ·refine RunC.regionW ?_
   refine zL (r := agg [i64 a0, i64 a1, sl a2.length (a2.map f32)]) rfl rfl rfl (LOp.loadAgg agg26 siz26 rfl rfl rfl rfl) ?_
   refine ROps.d (r := b true) (fs := []) (Γ' := []) rfl rfl rfl (TOp.eqb (TOp.callB (CallAs.func ent66 rfl rfl) (Bors.cons (Bor.agg (Bors.cons (Bor.pure rfl) (Bors.cons (Bor.pure rfl) (Bors.cons (Bor.sl (fun _ => rfl)) Bors.nil)))) Bors.nil) rfl rfl (i_ValidMatrix_ok a0 a1 a2 r1 hf1)) hc2) rfl ?_
   refine zM (r := b true) rfl rfl rfl rfl rfl ?_
   refine zL (r := agg [i64 a3, i64 a4, sl a5.length (a5.map f32)]) rfl rfl rfl (LOp.loadAgg agg26 siz26 rfl rfl rfl rfl) ?_
   refine ROps.d (r := b true) (fs := []) (Γ' := []) rfl rfl rfl (TOp.eqb (TOp.callB (CallAs.func ent66 rfl rfl) (Bors.cons (Bor.agg (Bors.cons (Bor.pure rfl) (Bors.cons (Bor.pure rfl) (Bors.cons (Bor.sl (fun _ => rfl)) Bors.nil)))) Bors.nil) rfl rfl (i_ValidMatrix_ok a3 a4 a5 r2 hf3)) hc4) rfl ?_
   refine zL (r := b true) rfl rfl rfl (LOp.pick_true rfl rfl rfl) ?_
   refine zM (r := b true) rfl rfl rfl rfl rfl ?_
   refine zL (r := ptr [i64 a1, sl a2.length (a2.map f32)]) rfl rfl rfl (LOp.fap und26 rfl siz2 rfl rfl rfl) ?_
   refine zL (r := i64 a1) rfl rfl rfl (LOp.load1 agg2 rfl rfl) ?_
   refine zL (r := ptr [i64 a3, i64 a4, sl a5.length (a5.map f32)]) rfl rfl rfl (LOp.fap und26 rfl siz2 rfl rfl rfl) ?_
   refine zL (r := i64 a3) rfl rfl rfl (LOp.load1 agg2 rfl rfl) ?_
   refine zL (r := b (decide (a1 = a3))) rfl rfl rfl (LOp.eql rfl rfl rfl) ?_
   refine zL (r := b (decide (a1 = a3))) rfl rfl rfl (LOp.pick_true rfl rfl rfl) ?_
   refine zA (r := b (decide (a1 = a3))) rfl rfl rfl rfl rfl ?_
   refine zN ?_
   refine RunC.ret ?_
   have hq := Option.some.inj h
   subst q0
   exact bodyQ.pure (.inr rfl) rfl (Res.one rfl (RV.tmp rfl))
  ·refine RunC.regionW ?_
   refine zL (r := agg [i64 a0, i64 a1, sl a2.length (a2.map f32)]) rfl rfl rfl (LOp.loadAgg agg26 siz26 rfl rfl rfl rfl) ?_
   refine ROps.d (r := b true) (fs := []) (Γ' := []) rfl rfl rfl (TOp.eqb (TOp.callB (CallAs.func ent66 rfl rfl) (Bors.cons (Bor.agg (Bors.cons (Bor.pure rfl) (Bors.cons (Bor.pure rfl) (Bors.cons (Bor.sl (fun _ => rfl)) Bors.nil)))) Bors.nil) rfl rfl (i_ValidMatrix_ok a0 a1 a2 r1 hf1)) hc2) rfl ?_
   refine zM (r := b true) rfl rfl rfl rfl rfl ?_
   refine zL (r := agg [i64 a3, i64 a4, sl a5.length (a5.map f32)]) rfl rfl rfl (LOp.loadAgg agg26 siz26 rfl rfl rfl rfl) ?_
   refine ROps.d (r := b false) (fs := []) (Γ' := []) rfl rfl rfl (TOp.eqb (TOp.callB (CallAs.func ent66 rfl rfl) (Bors.cons (Bor.agg (Bors.cons (Bor.pure rfl) (Bors.cons (Bor.pure rfl) (Bors.cons (Bor.sl (fun _ => rfl)) Bors.nil)))) Bors.nil) rfl rfl (i_ValidMatrix_ok a3 a4 a5 r2 hf3)) hc4) rfl ?_
   refine zL (r := b false) rfl rfl rfl (LOp.pick_true rfl rfl rfl) ?_
   refine zM (r := b false) rfl rfl rfl rfl rfl ?_
   iterate 5 (refine ROps.s rfl rfl rfl ?_)
   refine zL (r := b false) rfl rfl rfl (LOp.pick_false rfl rfl rfl) ?_
   refine zA (r := b false) rfl rfl rfl rfl rfl ?_
   refine zN ?_
   refine RunC.ret ?_
   have hq := Option.some.inj h
   subst q0
   exact bodyQ.pure (.inr rfl) rfl (Res.one rfl (RV.tmp rfl))
 ·refine RunC.regionW ?_
  refine zL (r := agg [i64 a0, i64 a1, sl a2.length (a2.map f32)]) rfl rfl rfl (LOp.loadAgg agg26 siz26 rfl rfl rfl rfl) ?_
  refine ROps.d (r := b false) (fs := []) (Γ' := []) rfl rfl rfl (TOp.eqb (TOp.callB (CallAs.func ent66 rfl rfl) (Bors.cons (Bor.agg (Bors.cons (Bor.pure rfl) (Bors.cons (Bor.pure rfl) (Bors.cons (Bor.sl (fun _ => rfl)) Bors.nil)))) Bors.nil) rfl rfl (i_ValidMatrix_ok a0 a1 a2 r1 hf1)) hc2) rfl ?_
  refine zM (r := b false) rfl rfl rfl rfl rfl ?_
  iterate 2 (refine ROps.s rfl rfl rfl ?_)
  refine zL (r := b false) rfl rfl rfl (LOp.pick_false rfl rfl rfl) ?_
  refine zM (r := b false) rfl rfl rfl rfl rfl ?_
  iterate 5 (refine ROps.s rfl rfl rfl ?_)
  refine zL (r := b false) rfl rfl rfl (LOp.pick_false rfl rfl rfl) ?_
  refine zA (r := b false) rfl rfl rfl rfl rfl ?_
  refine zN ?_
  refine RunC.ret ?_
  have hq := Option.some.inj h
  subst q0
  exact bodyQ.pure (.inr rfl) rfl (Res.one rfl (RV.tmp rfl))
noncomputable def i_newMatrix (a0 : Int) (a1 : Int) : Option (Int × Int × (List F)) :=
 olet (IntKind.i64.wrap (a0 * a1)) fun (x1 : Int) =>
 need (mkok 4 x1) <|
 some (a0, a1, (List.replicate x1.toNat (some 0)))
theorem i_newMatrix_ok (a0 : Int) (a1 : Int) (q0 : Int) (q1 : Int) (q2 : List F) (h : i_newMatrix a0 a1 = some (q0, q1, q2)) : Ev Try.prog 126 [i64 a0, i64 a1] [] (agg [i64 q0, i64 q1, oref 0 0 0 q2.length]) [⟨0, some (q2.map f32)⟩] := by
 refine Ev.start Try.func126 rfl rfl 2 (τ := [(0, i64 a0), (1, i64 a1)]) rfl (Γ' := [⟨0, none⟩, ⟨0, none⟩]) rfl (n := 25) rfl (g := 0) rfl (fun _ => rfl) ?_
 unfold i_newMatrix at h
 refine zQ ?_
 refine ROps.d (r := optr 0 1 0) (fs := [(0, [i64 0, i64 0, nilsl])]) (Γ' := [⟨1, some [i64 0, i64 0, nilsl]⟩, ⟨0, none⟩]) rfl rfl rfl (TOp.alloc_o (g := ⟨0, none⟩) 0 rfl zer26 zok26 rfl) rfl ?_
 refine zN ?_
 refine RunC.seq ?_
 obtain ⟨x1, hx1, h⟩ := olet_some h
 obtain ⟨hm2, h⟩ := need_some h
 refine RunC.regionW ?_
 iterate 2 (refine zM (r := i64 a0) rfl rfl rfl rfl rfl ?_; refine zM (r := i64 a1) rfl rfl rfl rfl rfl ?_)
 refine zL (r := i64 x1) rfl rfl rfl (LOp.eqr (LOp.mul rfl rfl rfl) (congrArg (ik .i64) hx1)) ?_
 refine ROps.d (r := oref 1 1 0 x1.toNat) (fs := [(1, ((List.replicate x1.toNat (some 0)).map f32))]) (Γ' := [⟨1, some [i64 0, i64 0, nilsl]⟩, ⟨1, some ((List.replicate x1.toNat (some 0)).map f32)⟩]) rfl rfl rfl (TOp.mkS (g := ⟨0, none⟩) (t := 24) (e := 36) (by_ := 4) (f := f32) (zv := some 0) 1 rfl und24 tin36 rfl siz36 zer36 rfl zel36 rfl rfl rfl hm2) rfl ?_
 refine zL (r := agg [i64 a0, i64 a1, oref 1 1 0 x1.toNat]) rfl rfl rfl (LOp.build (qs := [(0, [i64 a0]), (1, [i64 a1]), (2, [oref 1 1 0 x1.toNat])]) zer26 zok26 und26 plc26 rfl ⟨rfl, ⟨_, ALe.refl _, rfl⟩, ⟨rfl, ⟨_, ALe.refl _, rfl⟩, ⟨rfl, ⟨_, ALe.refl _, rfl⟩, trivial⟩⟩⟩ rfl) ?_
 refine ROps.store_le (r := agg [i64 a0, i64 a1, oref 1 1 0 x1.toNat]) (l' := [i64 a0, i64 a1, oref 1 1 0 x1.toNat]) (Γ' := [⟨1, some [i64 a0, i64 a1, oref 1 1 0 x1.toNat]⟩, ⟨1, some ((List.replicate x1.toNat (some 0)).map f32)⟩]) rfl siz26 rfl rfl rfl aR rfl rfl rfl rfl (Nat.le_of_ble_eq_true rfl) rfl rfl ?_
 refine zN ?_
 refine RunC.ret ?_
 have hq := Option.some.inj h
 obtain ⟨hq0, hq⟩ := Prod.mk.inj hq
 obtain ⟨hq1, hq⟩ := Prod.mk.inj hq
 subst q0
 subst q1
 subst q2
 exact bodyQ.mk (r' := agg [i64 a0, i64 a1, oref 1 1 0 ((List.replicate x1.toNat (some 0)).length)]) [(1, 1)] (.inr rfl) rfl (show List.Nodup [1] from by decide) rfl rfl (Res.eq (Res.one rfl (RV.cell agg26 siz26 rfl rfl rfl rfl)) (by rw [(show (List.replicate x1.toNat (some 0)).length = x1.toNat from by simp)] <;> rfl)) (SelL.arr0 (f := f32) (fun _ => rfl) rfl trivial)
noncomputable def x_slices_Clone_float32_float32 (a0 : List F) : Option ((List F)) :=
 need (apok 4 0 a0.length) <|
 some (([] : List F) ++ a0)
theorem x_slices_Clone_float32_float32_ok (a0 : List F) (q0 : List F) (h : x_slices_Clone_float32_float32 a0 = some q0) : Ev Try.prog 127 [sl a0.length (a0.map f32)] [] (oref 0 0 0 q0.length) [⟨0, some (q0.map f32)⟩] := by
 refine Ev.start Try.func127 rfl rfl 1 (τ := [(0, sl a0.length (a0.map f32))]) rfl (Γ' := [⟨0, none⟩]) rfl (n := 17) rfl (g := 0) rfl (fun _ => rfl) ?_
 unfold x_slices_Clone_float32_float32 at h
 refine zQ ?_
 refine zA (r := nilsl) rfl rfl rfl rfl rfl ?_
 refine zN ?_
 refine RunC.seq ?_
 refine zQ ?_
 refine zM (r := sl a0.length (a0.map f32)) rfl rfl rfl rfl rfl ?_
 refine ROps.eqnil rfl pun24 rfl rfl rfl rfl rfl ?_ ?_
 ·intro hnil1
  refine zN ?_
  refine RunC.cond_true rfl rfl ?_
  refine zQ ?_
  refine zA (r := nilsl) rfl rfl rfl rfl rfl ?_
  refine zN ?_
  refine RunC.nil_slot (Γ' := [⟨1, some (([] : List F).map f32)⟩]) 2 0 rfl rfl rfl ?_
  refine RunC.ret ?_
  have hnl := List.map_eq_nil_iff.1 hnil1
  have hq : some ([] : List F) = some q0 := by
   rw [← h]; subst hnl; simp [need, apok]
  have hq := Option.some.inj hq
  subst q0
  exact bodyQ.mk (r' := oref 0 1 0 (([] : List F).length)) [(0, 1)] (.inr rfl) rfl (show List.Nodup [0] from by decide) rfl rfl (Res.eq (Res.one rfl (RV.tmp rfl)) (by rw [(show ([] : List F).length = 0 from rfl)] <;> rfl)) (SelL.arr0 (f := f32) (fun _ => rfl) rfl trivial)
 ·refine zN ?_
  refine RunC.cond_false rfl rfl ?_
  refine RunC.skip ?_
  refine RunC.seq ?_
  obtain ⟨hm2, h⟩ := need_some h
  refine RunC.regionW ?_
  refine ROps.d (r := oref 0 1 0 0) (fs := [(0, (([] : List F).map f32))]) (Γ' := [⟨1, some (([] : List F).map f32)⟩]) rfl rfl rfl (TOp.buildSlice_o (g := ⟨0, none⟩) (za := f32 (some 0)) (qs := []) 0 rfl und24 siz36 zer36 rfl zel36 rfl rfl trivial rfl) rfl ?_
  refine zM (r := sl a0.length (a0.map f32)) rfl rfl rfl rfl rfl ?_
  refine ROps.app (f := f32) (xs := ([] : List F)) (ys := a0) (Γ' := [⟨2, some ((([] : List F) ++ a0).map f32)⟩]) rfl pun24 inf36 rfl rfl rfl rfl rfl rfl rfl rfl rfl (by simp) (ReadAs.sl (by simp)) (ones_map (fun _ => rfl)) (ap_by hm2) (ap_mx hm2) rfl ?_
  refine zA (r := oref 0 2 0 (0 + a0.length)) rfl rfl rfl rfl rfl ?_
  refine zN ?_
  refine RunC.ret ?_
  have hq := Option.some.inj h
  subst q0
  exact bodyQ.mk (r' := oref 0 2 0 ((([] : List F) ++ a0).length)) [(0, 2)] (.inr rfl) rfl (show List.Nodup [0] from by decide) rfl rfl (Res.eq (Res.one rfl (RV.tmp rfl)) (by rw [(show (([] : List F) ++ a0).length = (0 + a0.length) from (app_len rfl rfl))] <;> rfl)) (SelL.arr0 (f := f32) (fun _ => rfl) rfl trivial)
noncomputable def i_Matrix_row (a0 : Int) (a1 : Int) (a2 : List F) (a3 : Int) : Option ((List F)) :=
 olet (IntKind.i64.wrap (a3 * a1)) fun (x1 : Int) =>
 olet (IntKind.i64.wrap (a3 + 1)) fun (x2 : Int) =>
 olet (IntKind.i64.wrap (x2 * a1)) fun (x3 : Int) =>
 obind (sub? a2 x1 x3) fun (l4 : List F) =>
 obind (x_slices_Clone_float32_float32 l4) fun (r5 : List F) =>
 some r5
theorem i_Matrix_row_ok (a0 : Int) (a1 : Int) (a2 : List F) (a3 : Int) (q0 : List F) (h : i_Matrix_row a0 a1 a2 a3 = some q0) : Ev Try.prog 62 [agg [i64 a0, i64 a1, sl a2.length (a2.map f32)], i64 a3] [] (oref 0 0 0 q0.length) [⟨0, some (q0.map f32)⟩] := by
 refine Ev.start Try.func62 rfl rfl 1 (τ := [(0, agg [i64 a0, i64 a1, sl a2.length (a2.map f32)]), (1, i64 a3)]) rfl (Γ' := [⟨0, none⟩]) rfl (n := 37) rfl (g := 0) rfl (fun _ => rfl) ?_
 unfold i_Matrix_row at h
 refine zQ ?_
 refine ROps.d (r := ptr [i64 a0, i64 a1, sl a2.length (a2.map f32)]) (fs := []) (Γ' := [⟨0, none⟩]) rfl rfl rfl (TOp.box_s rfl rfl rfl) rfl ?_
 refine zA (r := nilsl) rfl rfl rfl rfl rfl ?_
 refine zN ?_
 refine RunC.seq ?_
 obtain ⟨x1, hx1, h⟩ := olet_some h
 obtain ⟨x2, hx2, h⟩ := olet_some h
 obtain ⟨x3, hx3, h⟩ := olet_some h
 obtain ⟨l4, hs4, h⟩ := obind_some h
 obtain ⟨r5, hf5, h⟩ := obind_some h
 refine RunC.regionW ?_
 refine zL (r := ptr [sl a2.length (a2.map f32)]) rfl rfl rfl (LOp.fap und26 rfl siz24 rfl rfl rfl) ?_
 refine zL (r := sl a2.length (a2.map f32)) rfl rfl rfl (LOp.load1 agg24 rfl rfl) ?_
 refine zM (r := i64 a3) rfl rfl rfl rfl rfl ?_
 refine zL (r := ptr [i64 a1, sl a2.length (a2.map f32)]) rfl rfl rfl (LOp.fap und26 rfl siz2 rfl rfl rfl) ?_
 refine zL (r := i64 a1) rfl rfl rfl (LOp.load1 agg2 rfl rfl) ?_
 refine zL (r := i64 x1) rfl rfl rfl (LOp.eqr (LOp.mul rfl rfl rfl) (congrArg (ik .i64) hx1)) ?_
 refine zM (r := i64 a3) rfl rfl rfl rfl rfl ?_
 refine zL (r := i64 x2) rfl rfl rfl (LOp.eqr (LOp.add rfl rfl rfl) (congrArg (ik .i64) hx2)) ?_
 refine zL (r := ptr [i64 a1, sl a2.length (a2.map f32)]) rfl rfl rfl (LOp.fap und26 rfl siz2 rfl rfl rfl) ?_
 refine zL (r := i64 a1) rfl rfl rfl (LOp.load1 agg2 rfl rfl) ?_
 refine zL (r := i64 x3) rfl rfl rfl (LOp.eqr (LOp.mul rfl rfl rfl) (congrArg (ik .i64) hx3)) ?_
 refine zL (r := sl l4.length (l4.map f32)) rfl rfl rfl (LOp.slice_sl (f := f32) und24 siz36 rfl rfl rfl rfl rfl hs4) ?_
 refine ROps.d (r := oref 0 1 0 r5.length) (fs := [(0, (r5.map f32))]) (Γ' := [⟨1, some (r5.map f32)⟩]) rfl rfl rfl (TOp.callBN (ls := [(r5.map f32)]) [0] (CallAs.func ent127 rfl rfl) (Bors.cons (Bor.sl (fun _ => rfl)) Bors.nil) rfl (x_slices_Clone_float32_float32_ok l4 r5 hf5) (and_all (lts0_map (f := f32) (fun _ => rfl) _) rfl) (and_all (noss_map (f := f32) (fun _ => rfl) _) rfl) rfl (by decide) (ns_of ⟨⟨_, rfl⟩, trivial⟩)) rfl ?_
 refine zA (r := oref 0 1 0 r5.length) rfl rfl rfl rfl rfl ?_
 refine zN ?_
 refine RunC.ret ?_
 have hq := Option.some.inj h
 subst q0
 exact bodyQ.mk (r' := oref 0 1 0 r5.length) [(0, 1)] (.inr rfl) rfl (show List.Nodup [0] from by decide) rfl rfl (Res.one rfl (RV.tmp rfl)) (SelL.arr0 (f := f32) (fun _ => rfl) rfl trivial)
noncomputable def i_Matrix_at (a0 : Int) (a1 : Int) (a2 : List F) (a3 : Int) (a4 : Int) : Option (F) :=
 olet (IntKind.i64.wrap (a3 * a1)) fun (x1 : Int) =>
 olet (IntKind.i64.wrap (x1 + a4)) fun (x2 : Int) =>
 obind (at? a2 x2) fun (e3 : F) =>
 some e3
theorem i_Matrix_at_ok (a0 : Int) (a1 : Int) (a2 : List F) (a3 : Int) (a4 : Int) (q0 : F) (h : i_Matrix_at a0 a1 a2 a3 a4 = some q0) : Ev Try.prog 76 [agg [i64 a0, i64 a1, sl a2.length (a2.map f32)], i64 a3, i64 a4] [] (f32 q0) [] := by
 refine Ev.start Try.func76 rfl rfl 0 (τ := [(0, agg [i64 a0, i64 a1, sl a2.length (a2.map f32)]), (1, i64 a3), (2, i64 a4)]) rfl (Γ' := []) rfl (n := 35) rfl (g := 0) rfl (fun _ => rfl) ?_
 unfold i_Matrix_at at h
 refine zQ ?_
 refine ROps.d (r := ptr [i64 a0, i64 a1, sl a2.length (a2.map f32)]) (fs := []) (Γ' := []) rfl rfl rfl (TOp.box_s rfl rfl rfl) rfl ?_
 refine zL (r := f32 (some 0)) rfl rfl rfl (LOp.le (LOp.assign rfl rfl) (ALe.fl (by kernel_rfl) (by kernel_rfl))) ?_
 refine zN ?_
 refine RunC.seq ?_
 obtain ⟨x1, hx1, h⟩ := olet_some h
 obtain ⟨x2, hx2, h⟩ := olet_some h
 obtain ⟨e3, he3, h⟩ := obind_some h
 refine RunC.regionW ?_
 refine zL (r := ptr [sl a2.length (a2.map f32)]) rfl rfl rfl (LOp.fap und26 rfl siz24 rfl rfl rfl) ?_
 refine zL (r := sl a2.length (a2.map f32)) rfl rfl rfl (LOp.load1 agg24 rfl rfl) ?_
 refine zM (r := i64 a3) rfl rfl rfl rfl rfl ?_
 refine zL (r := ptr [i64 a1, sl a2.length (a2.map f32)]) rfl rfl rfl (LOp.fap und26 rfl siz2 rfl rfl rfl) ?_
 refine zL (r := i64 a1) rfl rfl rfl (LOp.load1 agg2 rfl rfl) ?_
 refine zL (r := i64 x1) rfl rfl rfl (LOp.eqr (LOp.mul rfl rfl rfl) (congrArg (ik .i64) hx1)) ?_
 refine zM (r := i64 a4) rfl rfl rfl rfl rfl ?_
 refine zL (r := i64 x2) rfl rfl rfl (LOp.eqr (LOp.add rfl rfl rfl) (congrArg (ik .i64) hx2)) ?_
 refine zL (r := ptr [f32 e3]) rfl rfl rfl (LOp.le (LOp.ix (f := f32) und24 siz36 rfl rfl rfl rfl he3) ALe.ptr) ?_
 refine zL (r := f32 e3) rfl rfl rfl (LOp.load1 agg36 rfl rfl) ?_
 refine zA (r := f32 e3) rfl rfl rfl rfl rfl ?_
 refine zN ?_
 refine RunC.ret ?_
 have hq := Option.some.inj h
 subst q0
 exact bodyQ.pure (.inr rfl) rfl (Res.one rfl (RV.tmp rfl))
noncomputable def i_Matrix_column_b1 (a0 : Int) (a1 : Int) (a2 : List F) (a3 : Int) (L3 : List F) (v4 : Int) : Option (LR ((List F) × Int) ((List F)) ((List F))) :=
 bsel (decide (v4 < a0)) (
  obind (i_Matrix_at a0 a1 a2 v4 a3) fun (r5 : F) =>
  need (apok 4 L3.length 1) <|
  olet (IntKind.i64.wrap (v4 + 1)) fun (x6 : Int) =>
  some (LR.next ((L3 ++ ([r5] : List F)), x6))) (
  some (LR.out L3))
noncomputable def i_Matrix_column_s1 (a0 : Int) (a1 : Int) (a2 : List F) (a3 : Int) : ((List F) × Int) → Option (LR ((List F) × Int) ((List F)) ((List F))) := fun s => i_Matrix_column_b1 a0 a1 a2 a3 s.1 s.2
noncomputable def i_Matrix_column_k1 (L9 : List F) : Option ((List F)) :=
 some L9
noncomputable def i_Matrix_column (a0 : Int) (a1 : Int) (a2 : List F) (a3 : Int) : Option ((List F)) :=
 obind (loopM (i_Matrix_column_s1 a0 a1 a2 a3) (([] : List F), 0)) fun z => osum z (fun e => i_Matrix_column_k1 e) (fun r => some r)
theorem i_Matrix_column_ok (a0 : Int) (a1 : Int) (a2 : List F) (a3 : Int) (q0 : List F) (h : i_Matrix_column a0 a1 a2 a3 = some q0) : Ev Try.prog 63 [agg [i64 a0, i64 a1, sl a2.length (a2.map f32)], i64 a3] [] (oref 0 0 0 q0.length) [⟨0, some (q0.map f32)⟩] := by
 refine Ev.start Try.func63 rfl rfl 2 (τ := [(0, agg [i64 a0, i64 a1, sl a2.length (a2.map f32)]), (1, i64 a3)]) rfl (Γ' := [⟨0, none⟩, ⟨0, none⟩]) rfl (n := 45) rfl (g := 0) rfl (fun _ => rfl) ?_
 unfold i_Matrix_column at h
 refine zQ ?_
 refine ROps.d (r := ptr [i64 a0, i64 a1, sl a2.length (a2.map f32)]) (fs := []) (Γ' := [⟨0, none⟩, ⟨0, none⟩]) rfl rfl rfl (TOp.box_s rfl rfl rfl) rfl ?_
 refine zA (r := nilsl) rfl rfl rfl rfl rfl ?_
 refine zN ?_
 refine zQ ?_
 refine ROps.d (r := oref 0 1 0 0) (fs := [(0, (([] : List F).map f32))]) (Γ' := [⟨1, some (([] : List F).map f32)⟩, ⟨0, none⟩]) rfl rfl rfl (TOp.buildSlice_o (g := ⟨0, none⟩) (za := f32 (some 0)) (qs := []) 0 rfl und24 siz36 zer36 rfl zel36 rfl rfl trivial rfl) rfl ?_
 refine zA (r := oref 0 1 0 0) rfl rfl rfl rfl rfl ?_
 refine zN ?_
 refine RunC.seq ?_
 refine zQ ?_
 refine zL (r := ptr [i64 a0, i64 a1, sl a2.length (a2.map f32)]) rfl rfl rfl (LOp.fap und26 rfl siz2 rfl rfl rfl) ?_
 refine zL (r := i64 a0) rfl rfl rfl (LOp.load1 agg2 rfl rfl) ?_
 refine zM (r := i64 0) rfl rfl rfl rfl rfl ?_
 refine zN ?_
 obtain ⟨z2, hz_2, h⟩ := obind_some h
 refine RunC.cutN (fun τ Γ => ∃ (L9 : List F) (u7 : Nat) (u8 : Nat), WeakLe τ [(5, oref 0 u7 0 L9.length)] ∧ DeadLe Γ [⟨u7, some (L9.map f32)⟩, ⟨u8, none⟩] ∧ z2 = .inl L9) ?_ ?_
 ·refine RunC.block (RunC.loop (RunL.loopM (x := z2) (i_Matrix_column_s1 a0 a1 a2 a3) (fun (s : (List F) × Int) τ Γ => ∃ (u1 : Nat) (u2 : Nat), WeakLe τ [(1, i64 a3), (2, ptr [i64 a0, i64 a1, sl a2.length (a2.map f32)]), (5, oref 0 u1 0 s.1.length), (9, i64 a0), (10, i64 s.2)] ∧ DeadLe Γ [⟨u1, some (s.1.map f32)⟩, ⟨u2, none⟩]) ?_ _ _ _ hz_2 ⟨1, 0, ⟨aR, aR, aR, aR, aR, trivial⟩, ⟨⟨rfl, .inr rfl⟩, ⟨rfl, .inl rfl⟩, trivial⟩⟩))
  rintro ⟨L3, v4⟩ τ2 Γ2 y2_ ⟨u1, u2, hw2, hd2⟩ h2_ ho2 hr2
  refine RunC.wl (τ' := [(1, i64 a3), (2, ptr [i64 a0, i64 a1, sl a2.length (a2.map f32)]), (5, oref 0 u1 0 L3.length), (9, i64 a0), (10, i64 v4)]) (Γ' := [⟨u1, some (L3.map f32)⟩, ⟨u2, none⟩]) hw2 hd2 ?_
  replace h2_ : i_Matrix_column_b1 a0 a1 a2 a3 L3 v4 = some y2_ := h2_
  unfold i_Matrix_column_b1 at h2_
  refine RunC.seq ?_
  rcases bsel_some h2_ with ⟨hc1, h2_⟩ | ⟨hc1, h2_⟩
  ·refine RunC.regionW ?_
   refine zL (r := b true) rfl rfl rfl (LOp.eqb (LOp.lss rfl rfl rfl) hc1) ?_
   refine zN ?_
   refine RunC.seq ?_
   refine RunC.cond_true rfl rfl ?_
   refine RunC.skip ?_
   refine RunC.seq ?_
   refine RunC.block ?_
   refine zQ ?_
   refine zM (r := i64 v4) rfl rfl rfl rfl rfl ?_
   refine zA (r := i64 v4) rfl rfl rfl rfl rfl ?_
   refine zN ?_
   obtain ⟨r5, hf2, h2_⟩ := obind_some h2_
   obtain ⟨hm3, h2_⟩ := need_some h2_
   refine RunC.regionW ?_
   refine zM (r := oref 0 u1 0 L3.length) rfl rfl rfl rfl rfl ?_
   refine zL (r := agg [i64 a0, i64 a1, sl a2.length (a2.map f32)]) rfl rfl rfl (LOp.loadAgg agg26 siz26 rfl rfl rfl rfl) ?_
   refine zM (r := i64 v4) rfl rfl rfl rfl rfl ?_
   refine zM (r := i64 a3) rfl rfl rfl rfl rfl ?_
   refine ROps.d (r := f32 r5) (fs := []) (Γ' := [⟨u1, some (L3.map f32)⟩, ⟨u2, none⟩]) rfl rfl rfl (TOp.callB (CallAs.func ent76 rfl rfl) (Bors.cons (Bor.agg (Bors.cons (Bor.pure rfl) (Bors.cons (Bor.pure rfl) (Bors.cons (Bor.sl (fun _ => rfl)) Bors.nil)))) (Bors.cons (Bor.pure rfl) (Bors.cons (Bor.pure rfl) Bors.nil))) rfl rfl (i_Matrix_at_ok a0 a1 a2 v4 a3 r5 hf2)) rfl ?_
   refine ROps.d (r := oref 1 (u2 + 1) 0 1) (fs := [(1, (([r5] : List F).map f32))]) (Γ' := [⟨u1, some (L3.map f32)⟩, ⟨(u2 + 1), some (([r5] : List F).map f32)⟩]) rfl rfl rfl (TOp.buildSlice_o (g := ⟨u2, none⟩) (za := f32 (some 0)) (qs := [(0, [f32 r5])]) 1 rfl und24 siz36 zer36 rfl zel36 rfl rfl ⟨rfl, ⟨_, ALe.refl _, rfl⟩, trivial⟩ rfl) rfl ?_
   refine ROps.app (f := f32) (xs := L3) (ys := ([r5] : List F)) (Γ' := [⟨(u1 + 1), some ((L3 ++ ([r5] : List F)).map f32)⟩, ⟨(u2 + 1), some (([r5] : List F).map f32)⟩]) rfl pun24 inf36 rfl rfl rfl rfl rfl rfl rfl rfl rfl (by simp) (ReadAs.own rfl (by simp)) (ones_map (fun _ => rfl)) (ap_by hm3) (ap_mx hm3) rfl ?_
   refine zA (r := oref 0 (u1 + 1) 0 (L3.length + 1)) rfl rfl rfl rfl rfl ?_
   refine zN ?_
   refine RunC.wl (τ' := [(1, i64 a3), (2, ptr [i64 a0, i64 a1, sl a2.length (a2.map f32)]), (5, oref 0 (u1 + 1) 0 (L3.length + 1)), (9, i64 a0), (10, i64 v4)]) (Γ' := [⟨(u1 + 1), some ((L3 ++ ([r5] : List F)).map f32)⟩, ⟨(u2 + 1), none⟩]) ⟨aR, aR, aR, aR, aR, trivial⟩ ⟨⟨rfl, .inr rfl⟩, ⟨rfl, .inl rfl⟩, trivial⟩ ?_
   obtain ⟨x6, hx4, h2_⟩ := olet_some h2_
   refine RunC.regionW ?_
   refine zL (r := i64 x6) rfl rfl rfl (LOp.eqr (LOp.add rfl rfl rfl) (congrArg (ik .i64) hx4)) ?_
   refine zM (r := i64 x6) rfl rfl rfl rfl rfl ?_
   refine zN ?_
   cases Option.some.inj h2_
   exact ⟨_, rfl, (u1 + 1), (u2 + 1), ⟨aR, aR, (ALe.eq (by rw [(app_len rfl rfl)] <;> rfl)), aR, aR, trivial⟩, ⟨⟨rfl, .inr rfl⟩, ⟨rfl, .inl rfl⟩, trivial⟩⟩
  ·refine RunC.regionW ?_
   refine zL (r := b false) rfl rfl rfl (LOp.eqb (LOp.lss rfl rfl rfl) hc1) ?_
   refine zN ?_
   refine RunC.seq ?_
   refine RunC.cond_false rfl rfl ?_
   refine RunC.exit ?_
   cases Option.some.inj h2_
   have hx := ho2 _ rfl
   exact ⟨L3, u1, u2, ⟨aR, trivial⟩, ⟨⟨rfl, .inr rfl⟩, ⟨rfl, .inl rfl⟩, trivial⟩, hx⟩
 ·rintro τ3 Γ3 ⟨L9, u7, u8, hw3, hd3, rfl⟩
  refine RunC.wl hw3 hd3 ?_
  replace h : i_Matrix_column_k1 L9 = some q0 := h
  unfold i_Matrix_column_k1 at h
  refine zQ ?_
  refine zM (r := oref 0 u7 0 L9.length) rfl rfl rfl rfl rfl ?_
  refine zA (r := oref 0 u7 0 L9.length) rfl rfl rfl rfl rfl ?_
  refine zN ?_
  refine RunC.ret ?_
  have hq := Option.some.inj h
  subst q0
  exact bodyQ.mk (r' := oref 0 u7 0 L9.length) [(0, u7)] (.inr rfl) rfl (show List.Nodup [0] from by decide) (by simp [ren, rens, sigma]) rfl (Res.one rfl (RV.tmp rfl)) (SelL.arr0 (f := f32) (fun _ => rfl) rfl trivial)
noncomputable def i_mul (a0 : F) (a1 : F) : Option (F) :=
 olet (fop .mul .f32 a0 a1) fun (x1 : F) =>
 some x1
theorem i_mul_ok (a0 : F) (a1 : F) (q0 : F) (h : i_mul a0 a1 = some q0) : Ev Try.prog 109 [f32 a0, f32 a1] [] (f32 q0) [] := by
 refine Ev.start Try.func109 rfl rfl 0 (τ := [(0, f32 a0), (1, f32 a1)]) rfl (Γ' := []) rfl (n := 17) rfl (g := 0) rfl (fun _ => rfl) ?_
 unfold i_mul at h
 refine zQ ?_
 refine zL (r := f32 (some 0)) rfl rfl rfl (LOp.le (LOp.assign rfl rfl) (ALe.fl (by kernel_rfl) (by kernel_rfl))) ?_
 refine zN ?_
 refine RunC.seq ?_
 obtain ⟨x1, hx1, h⟩ := olet_some h
 refine RunC.regionW ?_
 refine zM (r := f32 a0) rfl rfl rfl rfl rfl ?_
 refine zM (r := f32 a1) rfl rfl rfl rfl rfl ?_
 refine ROps.d (r := f32 x1) (fs := []) (Γ' := []) rfl rfl rfl (TOp.eqr (TOp.fop (.inr (.inr (.inl rfl))) rfl (OpF.tmp rfl) (OpF.tmp rfl)) (congrArg (f .f32) hx1)) rfl ?_
 refine zA (r := f32 x1) rfl rfl rfl rfl rfl ?_
 refine zN ?_
 refine RunC.ret ?_
 have hq := Option.some.inj h
 subst q0
 exact bodyQ.pure (.inr rfl) rfl (Res.one rfl (RV.tmp rfl))
noncomputable def i_dot_b1 (a0 : List F) (a1 : List F) (y1 : F) (v2 : Int) : Option (LR (F × Int) (F) (F)) :=
 bsel (decide (v2 < (a0.length : Int))) (
  obind (at? a0 v2) fun (e3 : F) =>
  obind (at? a1 v2) fun (e4 : F) =>
  obind (i_mul e3 e4) fun (r5 : F) =>
  olet (fop .add .f32 y1 r5) fun (x6 : F) =>
  olet (IntKind.i64.wrap (v2 + 1)) fun (x7 : Int) =>
  some (LR.next (x6, x7))) (
  some (LR.out y1))
noncomputable def i_dot_s1 (a0 : List F) (a1 : List F) : (F × Int) → Option (LR (F × Int) (F) (F)) := fun s => i_dot_b1 a0 a1 s.1 s.2
noncomputable def i_dot_k1 (y8 : F) : Option (F) :=
 some y8
noncomputable def i_dot (a0 : List F) (a1 : List F) : Option (F) :=
 obind (loopM (i_dot_s1 a0 a1) (some 0, 0)) fun z => osum z (fun e => i_dot_k1 e) (fun r => some r)
theorem i_dot_ok (a0 : List F) (a1 : List F) (q0 : F) (h : i_dot a0 a1 = some q0) : Ev Try.prog 64 [sl a0.length (a0.map f32), sl a1.length (a1.map f32)] [] (f32 q0) [] := by
 refine Ev.start Try.func64 rfl rfl 0 (τ := [(0, sl a0.length (a0.map f32)), (1, sl a1.length (a1.map f32))]) rfl (Γ' := []) rfl (n := 51) rfl (g := 0) rfl (fun _ => rfl) ?_
 unfold i_dot at h
 iterate 2 (refine zQ ?_; refine zL (r := f32 (some 0)) rfl rfl rfl (LOp.le (LOp.assign rfl rfl) (ALe.fl (by kernel_rfl) (by kernel_rfl))) ?_; refine zN ?_)
 refine RunC.seq ?_
 refine zQ ?_
 refine zM (r := sl a0.length (a0.map f32)) rfl rfl rfl rfl rfl ?_
 refine zL (r := i64 (a0.length : Int)) rfl rfl rfl (LOp.len_sl und24 rfl rfl) ?_
 refine zM (r := i64 0) rfl rfl rfl rfl rfl ?_
 refine zN ?_
 obtain ⟨z2, hz_2, h⟩ := obind_some h
 refine RunC.cutN (fun τ Γ => ∃ (y8 : F), WeakLe τ [(5, f32 y8)] ∧ DeadLe Γ [] ∧ z2 = .inl y8) ?_ ?_
 ·refine RunC.block (RunC.loop (RunL.loopM (x := z2) (i_dot_s1 a0 a1) (fun (s : F × Int) τ Γ => WeakLe τ [(1, sl a1.length (a1.map f32)), (5, f32 s.1), (8, sl a0.length (a0.map f32)), (9, i64 (a0.length : Int)), (10, i64 s.2)] ∧ DeadLe Γ []) ?_ _ _ _ hz_2 ⟨⟨aR, aR, aR, aR, aR, trivial⟩, trivial⟩))
  rintro ⟨y1, v2⟩ τ2 Γ2 y2_ ⟨hw2, hd2⟩ h2_ ho2 hr2
  refine RunC.wl (τ' := [(1, sl a1.length (a1.map f32)), (5, f32 y1), (8, sl a0.length (a0.map f32)), (9, i64 (a0.length : Int)), (10, i64 v2)]) (Γ' := []) hw2 hd2 ?_
  replace h2_ : i_dot_b1 a0 a1 y1 v2 = some y2_ := h2_
  unfold i_dot_b1 at h2_
  refine RunC.seq ?_
  rcases bsel_some h2_ with ⟨hc1, h2_⟩ | ⟨hc1, h2_⟩
  ·refine RunC.regionW ?_
   refine zL (r := b true) rfl rfl rfl (LOp.eqb (LOp.lss rfl rfl rfl) hc1) ?_
   refine zN ?_
   refine RunC.seq ?_
   refine RunC.cond_true rfl rfl ?_
   refine RunC.skip ?_
   refine RunC.seq ?_
   refine RunC.block ?_
   refine RunC.seq ?_
   obtain ⟨e3, he2, h2_⟩ := obind_some h2_
   refine RunC.regionW ?_
   refine zM (r := i64 v2) rfl rfl rfl rfl rfl ?_
   refine zL (r := ptr [f32 e3]) rfl rfl rfl (LOp.le (LOp.ix (f := f32) und24 siz36 rfl rfl rfl rfl he2) ALe.ptr) ?_
   refine zL (r := f32 e3) rfl rfl rfl (LOp.load1 agg36 rfl rfl) ?_
   refine zA (r := i64 v2) rfl rfl rfl rfl rfl ?_
   refine zA (r := f32 e3) rfl rfl rfl rfl rfl ?_
   refine zN ?_
   obtain ⟨e4, he3, h2_⟩ := obind_some h2_
   obtain ⟨r5, hf4, h2_⟩ := obind_some h2_
   obtain ⟨x6, hx5, h2_⟩ := olet_some h2_
   refine RunC.regionW ?_
   refine zM (r := f32 y1) rfl rfl rfl rfl rfl ?_
   refine zM (r := f32 e3) rfl rfl rfl rfl rfl ?_
   refine zM (r := sl a1.length (a1.map f32)) rfl rfl rfl rfl rfl ?_
   refine zM (r := i64 v2) rfl rfl rfl rfl rfl ?_
   refine zL (r := ptr [f32 e4]) rfl rfl rfl (LOp.le (LOp.ix (f := f32) und24 siz36 rfl rfl rfl rfl he3) ALe.ptr) ?_
   refine zL (r := f32 e4) rfl rfl rfl (LOp.load1 agg36 rfl rfl) ?_
   refine ROps.d (r := f32 r5) (fs := []) (Γ' := []) rfl rfl rfl (TOp.callB (CallAs.func ent109 rfl rfl) (Bors.cons (Bor.pure rfl) (Bors.cons (Bor.pure rfl) Bors.nil)) rfl rfl (i_mul_ok e3 e4 r5 hf4)) rfl ?_
   refine ROps.d (r := f32 x6) (fs := []) (Γ' := []) rfl rfl rfl (TOp.eqr (TOp.fop (.inl rfl) rfl (OpF.tmp rfl) (OpF.tmp rfl)) (congrArg (f .f32) hx5)) rfl ?_
   refine zA (r := f32 x6) rfl rfl rfl rfl rfl ?_
   refine zN ?_
   refine RunC.wl (τ' := [(1, sl a1.length (a1.map f32)), (5, f32 x6), (8, sl a0.length (a0.map f32)), (9, i64 (a0.length : Int)), (10, i64 v2)]) (Γ' := []) ⟨aR, aR, aR, aR, aR, trivial⟩ trivial ?_
   obtain ⟨x7, hx6, h2_⟩ := olet_some h2_
   refine RunC.regionW ?_
   refine zL (r := i64 x7) rfl rfl rfl (LOp.eqr (LOp.add rfl rfl rfl) (congrArg (ik .i64) hx6)) ?_
   refine zM (r := i64 x7) rfl rfl rfl rfl rfl ?_
   refine zN ?_
   cases Option.some.inj h2_
   exact ⟨_, rfl, ⟨aR, aR, aR, aR, aR, trivial⟩, trivial⟩
  ·refine RunC.regionW ?_
   refine zL (r := b false) rfl rfl rfl (LOp.eqb (LOp.lss rfl rfl rfl) hc1) ?_
   refine zN ?_
   refine RunC.seq ?_
   refine RunC.cond_false rfl rfl ?_
   refine RunC.exit ?_
   cases Option.some.inj h2_
   have hx := ho2 _ rfl
   exact ⟨y1, ⟨aR, trivial⟩, trivial, hx⟩
 ·rintro τ3 Γ3 ⟨y8, hw3, hd3, rfl⟩
  refine RunC.wl hw3 hd3 ?_
  replace h : i_dot_k1 y8 = some q0 := h
  unfold i_dot_k1 at h
  refine zQ ?_
  refine zM (r := f32 y8) rfl rfl rfl rfl rfl ?_
  refine zA (r := f32 y8) rfl rfl rfl rfl rfl ?_
  refine zN ?_
  refine RunC.ret ?_
  have hq := Option.some.inj h
  subst q0
  exact bodyQ.pure (.inr rfl) rfl (Res.one rfl (RV.tmp rfl))
noncomputable def i_product_1 (a0 : Int) (a1 : Int) (a2 : Int) (a3 : Int) (a4 : List F) (a5 : Int) (a6 : Int) (a7 : List F) : Option (F) :=
 obind (i_Matrix_row a2 a3 a4 a0) fun (r1 : List F) =>
 obind (i_Matrix_column a5 a6 a7 a1) fun (r2 : List F) =>
 obind (i_dot r1 r2) fun (r3 : F) =>
 some r3
theorem i_product_1_ok (a0 : Int) (a1 : Int) (a2 : Int) (a3 : Int) (a4 : List F) (a5 : Int) (a6 : Int) (a7 : List F) (q0 : F) (h : i_product_1 a0 a1 a2 a3 a4 a5 a6 a7 = some q0) : Ev Try.prog 125 [i64 a0, i64 a1, ptr [i64 a2, i64 a3, sl a4.length (a4.map f32)], ptr [i64 a5, i64 a6, sl a7.length (a7.map f32)]] [] (f32 q0) [] := by
 refine Ev.start Try.func125 rfl rfl 0 (τ := [(0, i64 a0), (1, i64 a1), (2, ptr [i64 a2, i64 a3, sl a4.length (a4.map f32)]), (3, ptr [i64 a5, i64 a6, sl a7.length (a7.map f32)])]) rfl (Γ' := []) rfl (n := 29) rfl (g := 0) rfl (fun _ => rfl) ?_
 unfold i_product_1 at h
 refine zQ ?_
 refine zL (r := f32 (some 0)) rfl rfl rfl (LOp.le (LOp.assign rfl rfl) (ALe.fl (by kernel_rfl) (by kernel_rfl))) ?_
 refine zN ?_
 refine RunC.seq ?_
 obtain ⟨r1, hf1, h⟩ := obind_some h
 obtain ⟨r2, hf2, h⟩ := obind_some h
 obtain ⟨r3, hf3, h⟩ := obind_some h
 refine RunC.region_draw (Γ' := []) 8 mixed 
  (TR.l (r := agg [i64 a2, i64 a3, sl a4.length (a4.map f32)]) rfl rfl (LOp.loadAgg agg26 siz26 rfl rfl rfl rfl) <|
  (TR.l (r := i64 a0) rfl rfl (LOp.move rfl rfl) <|
  (TR.d (r := sl r1.length (r1.map f32)) (fs := []) rfl rfl (TOp.callS (CallAs.func ent62 rfl rfl) (ALes.cons aR (ALes.cons aR ALes.nil)) (lts_cons (lt_agg (lts_cons rfl (lts_cons rfl (lts_cons (lt_sl (fun _ => rfl)) lts_nil)))) (lts_cons rfl lts_nil)) (lt_sl (fun _ => rfl)) (i_Matrix_row_ok a2 a3 a4 a0 r1 hf1) (Bor.own (f := f32) (fun _ => rfl) rfl rfl)) <|
  (TR.l (r := agg [i64 a5, i64 a6, sl a7.length (a7.map f32)]) rfl rfl (LOp.loadAgg agg26 siz26 rfl rfl rfl rfl) <|
  (TR.l (r := i64 a1) rfl rfl (LOp.move rfl rfl) <|
  (TR.d (r := sl r2.length (r2.map f32)) (fs := []) rfl rfl (TOp.callS (CallAs.func ent63 rfl rfl) (ALes.cons aR (ALes.cons aR ALes.nil)) (lts_cons (lt_agg (lts_cons rfl (lts_cons rfl (lts_cons (lt_sl (fun _ => rfl)) lts_nil)))) (lts_cons rfl lts_nil)) (lt_sl (fun _ => rfl)) (i_Matrix_column_ok a5 a6 a7 a1 r2 hf2) (Bor.own (f := f32) (fun _ => rfl) rfl rfl)) <|
  (TR.d (r := f32 r3) (fs := []) rfl rfl (TOp.callB (CallAs.func ent64 rfl rfl) (Bors.cons (Bor.sl (fun _ => rfl)) (Bors.cons (Bor.sl (fun _ => rfl)) Bors.nil)) rfl rfl (i_dot_ok r1 r2 r3 hf3)) <|
  (TR.l (r := f32 r3) rfl rfl (LOp.assign rfl rfl) <|
  TR.nil)))))))) rfl (by kernel_rfl) rfl fills_nil rfl ?_
 iterate 8 refine ROps.dropS ?_
 refine ROps.drop0 ?_
 refine zN ?_
 refine RunC.ret ?_
 have hq := Option.some.inj h
 subst q0
 exact bodyQ.pure (.inr rfl) rfl (Res.one rfl (RV.tmp rfl))
noncomputable def i_Matrix_set_02o (a0 : Int) (a1 : Int) (a2 : Int) (a3 : Int) (a4 : F) (a5 : List F) : Option ((List F)) :=
 olet (IntKind.i64.wrap (a2 * a1)) fun (x1 : Int) =>
 olet (IntKind.i64.wrap (x1 + a3)) fun (x2 : Int) =>
 obind (setAt? a5 x2 a4) fun (L3 : List F) =>
 some L3
theorem i_Matrix_set_02o_ok (a0 : Int) (a1 : Int) (a2 : Int) (a3 : Int) (a4 : F) (a5 : List F) (q0 : List F) (h : i_Matrix_set_02o a0 a1 a2 a3 a4 a5 = some q0) : Ev Try.prog 78 [agg [i64 a0, i64 a1, oref 0 0 0 a5.length], i64 a2, i64 a3, f32 a4] [⟨0, some (a5.map f32)⟩] (tup []) [⟨0, some (q0.map f32)⟩] := by
 refine Ev.start Try.func78 rfl rfl 0 (τ := [(0, agg [i64 a0, i64 a1, oref 0 0 0 a5.length]), (1, i64 a2), (2, i64 a3), (3, f32 a4)]) rfl (Γ' := [⟨0, some (a5.map f32)⟩]) rfl (n := 36) rfl (g := 1) rfl (by decide) ?_
 unfold i_Matrix_set_02o at h
 refine zQ ?_
 refine ROps.d (r := ptr [i64 a0, i64 a1, oref 0 0 0 a5.length]) (fs := []) (Γ' := [⟨0, some (a5.map f32)⟩]) rfl rfl rfl (TOp.box_s rfl rfl rfl) rfl ?_
 refine zN ?_
 obtain ⟨x1, hx1, h⟩ := olet_some h
 obtain ⟨x2, hx2, h⟩ := olet_some h
 obtain ⟨L3, he3, h⟩ := obind_some h
 refine RunC.regionW ?_
 refine zL (r := ptr [oref 0 0 0 a5.length]) rfl rfl rfl (LOp.fap und26 rfl siz24 rfl rfl rfl) ?_
 refine zL (r := oref 0 0 0 a5.length) rfl rfl rfl (LOp.load1 agg24 rfl rfl) ?_
 refine zM (r := i64 a2) rfl rfl rfl rfl rfl ?_
 refine zL (r := ptr [i64 a1, oref 0 0 0 a5.length]) rfl rfl rfl (LOp.fap und26 rfl siz2 rfl rfl rfl) ?_
 refine zL (r := i64 a1) rfl rfl rfl (LOp.load1 agg2 rfl rfl) ?_
 refine zL (r := i64 x1) rfl rfl rfl (LOp.eqr (LOp.mul rfl rfl rfl) (congrArg (ik .i64) hx1)) ?_
 refine zM (r := i64 a3) rfl rfl rfl rfl rfl ?_
 refine zL (r := i64 x2) rfl rfl rfl (LOp.eqr (LOp.add rfl rfl rfl) (congrArg (ik .i64) hx2)) ?_
 refine zM (r := f32 a4) rfl rfl rfl rfl rfl ?_
 refine ROps.d (r := optr 0 0 x2.toNat) (fs := []) (Γ' := [⟨0, some (a5.map f32)⟩]) rfl rfl rfl (TOp.ixo und24 siz36 rfl rfl rfl (set_in he3 rfl) rfl) rfl ?_
 refine ROps.st (f := f32) (i := x2) (Γ' := [⟨0, some (L3.map f32)⟩]) rfl siz36 rfl rfl rfl aR rfl rfl rfl he3 rfl ?_
 refine zN ?_
 have hq := Option.some.inj h
 subst q0
 exact bodyQ.mk (r' := tup []) [(0, 0)] (.inl rfl) rfl (show List.Nodup [0] from by decide) rfl rfl (Res.zero rfl) (SelL.arr (f := f32) (fun _ => rfl) rfl trivial)
noncomputable def i_made_2Fi_product_1_b2 (a1 : Int) (a2 : Int) (a3 : Int) (a4 : List F) (a5 : Int) (a6 : Int) (a7 : List F) (r1 : Int) (r2 : Int) (r3 : List F) (v6 : Int) (L7 : List F) (v9 : Int) : Option (LR ((List F) × Int) ((List F)) (Int × Int × (List F))) :=
 bsel (decide (v9 < a1)) (
  obind (i_product_1 v6 v9 a2 a3 a4 a5 a6 a7) fun (r11 : F) =>
  obind (i_Matrix_set_02o r1 r2 v6 v9 r11 L7) fun (r12 : List F) =>
  need (decide (r12.length = r3.length)) <|
  olet (IntKind.i64.wrap (v9 + 1)) fun (x13 : Int) =>
  some (LR.next (r12, x13))) (
  some (LR.out L7))
noncomputable def i_made_2Fi_product_1_s2 (a1 : Int) (a2 : Int) (a3 : Int) (a4 : List F) (a5 : Int) (a6 : Int) (a7 : List F) (r1 : Int) (r2 : Int) (r3 : List F) (v6 : Int) : ((List F) × Int) → Option (LR ((List F) × Int) ((List F)) (Int × Int × (List F))) := fun s => i_made_2Fi_product_1_b2 a1 a2 a3 a4 a5 a6 a7 r1 r2 r3 v6 s.1 s.2
noncomputable def i_made_2Fi_product_1_k2 (v6 : Int) (L14 : List F) : Option (LR ((List F) × Int) ((List F)) (Int × Int × (List F))) :=
 olet (IntKind.i64.wrap (v6 + 1)) fun (x16 : Int) =>
 some (LR.next (L14, x16))
noncomputable def i_made_2Fi_product_1_b3 (a0 : Int) (a1 : Int) (a2 : Int) (a3 : Int) (a4 : List F) (a5 : Int) (a6 : Int) (a7 : List F) (r1 : Int) (r2 : Int) (r3 : List F) (L4 : List F) (v6 : Int) : Option (LR ((List F) × Int) ((List F)) (Int × Int × (List F))) :=
 bsel (decide (v6 < a0)) (
  obind (loopM (i_made_2Fi_product_1_s2 a1 a2 a3 a4 a5 a6 a7 r1 r2 r3 v6) (L4, 0)) fun z => osum z (fun e => i_made_2Fi_product_1_k2 v6 e) (fun r => some (LR.ret r))) (
  some (LR.out L4))
noncomputable def i_made_2Fi_product_1_s3 (a0 : Int) (a1 : Int) (a2 : Int) (a3 : Int) (a4 : List F) (a5 : Int) (a6 : Int) (a7 : List F) (r1 : Int) (r2 : Int) (r3 : List F) : ((List F) × Int) → Option (LR ((List F) × Int) ((List F)) (Int × Int × (List F))) := fun s => i_made_2Fi_product_1_b3 a0 a1 a2 a3 a4 a5 a6 a7 r1 r2 r3 s.1 s.2
noncomputable def i_made_2Fi_product_1_k3 (r1 : Int) (r2 : Int) (L17 : List F) : Option (Int × Int × (List F)) :=
 some (r1, r2, L17)
noncomputable def i_made_2Fi_product_1 (a0 : Int) (a1 : Int) (a2 : Int) (a3 : Int) (a4 : List F) (a5 : Int) (a6 : Int) (a7 : List F) : Option (Int × Int × (List F)) :=
 obind3 (i_newMatrix a0 a1) fun (r1 : Int) (r2 : Int) (r3 : List F) =>
 obind (loopM (i_made_2Fi_product_1_s3 a0 a1 a2 a3 a4 a5 a6 a7 r1 r2 r3) (r3, 0)) fun z => osum z (fun e => i_made_2Fi_product_1_k3 r1 r2 e) (fun r => some r)
theorem i_made_2Fi_product_1_ok (a0 : Int) (a1 : Int) (a2 : Int) (a3 : Int) (a4 : List F) (a5 : Int) (a6 : Int) (a7 : List F) (q0 : Int) (q1 : Int) (q2 : List F) (h : i_made_2Fi_product_1 a0 a1 a2 a3 a4 a5 a6 a7 = some (q0, q1, q2)) : Ev Try.prog 60 [i64 a0, i64 a1, fn (.func 125) [] [ptr [i64 a2, i64 a3, sl a4.length (a4.map f32)], ptr [i64 a5, i64 a6, sl a7.length (a7.map f32)]]] [] (agg [i64 q0, i64 q1, oref 0 0 0 q2.length]) [⟨0, some (q2.map f32)⟩] := by
 refine Ev.start Try.func60 rfl rfl 3 (τ := [(0, i64 a0), (1, i64 a1), (2, fn (.func 125) [] [ptr [i64 a2, i64 a3, sl a4.length (a4.map f32)], ptr [i64 a5, i64 a6, sl a7.length (a7.map f32)]])]) rfl (Γ' := [⟨0, none⟩, ⟨0, none⟩, ⟨0, none⟩]) rfl (n := 65) rfl (g := 0) rfl (fun _ => rfl) ?_
 unfold i_made_2Fi_product_1 at h
 refine zQ ?_
 refine ROps.d (r := optr 0 1 0) (fs := [(0, [i64 0, i64 0, nilsl])]) (Γ' := [⟨1, some [i64 0, i64 0, nilsl]⟩, ⟨0, none⟩, ⟨0, none⟩]) rfl rfl rfl (TOp.alloc_o (g := ⟨0, none⟩) 0 rfl zer26 zok26 rfl) rfl ?_
 refine zN ?_
 refine RunC.seq ?_
 obtain ⟨r1, r2, r3, hf1, h⟩ := obind3_some h
 refine RunC.regionW ?_
 refine zM (r := i64 a0) rfl rfl rfl rfl rfl ?_
 refine zM (r := i64 a1) rfl rfl rfl rfl rfl ?_
 refine ROps.d (r := agg [i64 r1, i64 r2, oref 1 1 0 r3.length]) (fs := [(1, (r3.map f32))]) (Γ' := [⟨1, some [i64 0, i64 0, nilsl]⟩, ⟨1, some (r3.map f32)⟩, ⟨0, none⟩]) rfl rfl rfl (TOp.callBN (ls := [(r3.map f32)]) [1] (CallAs.func ent126 rfl rfl) (Bors.cons (Bor.pure rfl) (Bors.cons (Bor.pure rfl) Bors.nil)) rfl (i_newMatrix_ok a0 a1 r1 r2 r3 hf1) (and_all (lts0_map (f := f32) (fun _ => rfl) _) rfl) (and_all (noss_map (f := f32) (fun _ => rfl) _) rfl) rfl (by decide) (ns_of ⟨⟨_, rfl⟩, trivial⟩)) rfl ?_
 refine ROps.d (r := optr 2 1 0) (fs := [(2, [i64 0, i64 0, nilsl])]) (Γ' := [⟨1, some [i64 0, i64 0, nilsl]⟩, ⟨1, some (r3.map f32)⟩, ⟨1, some [i64 0, i64 0, nilsl]⟩]) rfl rfl rfl (TOp.alloc_o (g := ⟨0, none⟩) 2 rfl zer26 zok26 rfl) rfl ?_
 refine ROps.store_le (r := agg [i64 r1, i64 r2, oref 1 1 0 r3.length]) (l' := [i64 r1, i64 r2, oref 1 1 0 r3.length]) (Γ' := [⟨1, some [i64 0, i64 0, nilsl]⟩, ⟨1, some (r3.map f32)⟩, ⟨1, some [i64 r1, i64 r2, oref 1 1 0 r3.length]⟩]) rfl siz26 rfl rfl rfl aR rfl rfl rfl rfl (Nat.le_of_ble_eq_true rfl) rfl rfl ?_
 refine zN ?_
 refine RunC.seq ?_
 refine zQ ?_
 refine zM (r := i64 a0) rfl rfl rfl rfl rfl ?_
 refine zM (r := i64 0) rfl rfl rfl rfl rfl ?_
 refine zN ?_
 obtain ⟨z4, hz_4, h⟩ := obind_some h
 refine RunC.cutN (fun τ Γ => ∃ (L17 : List F), L17.length = r3.length ∧ WeakLe τ [(6, optr 0 1 0), (7, optr 2 1 0)] ∧ DeadLe Γ [⟨1, some [i64 0, i64 0, nilsl]⟩, ⟨1, some (L17.map f32)⟩, ⟨1, some [i64 r1, i64 r2, oref 1 1 0 r3.length]⟩] ∧ z4 = .inl L17) ?_ ?_
 ·refine RunC.block (RunC.loop (RunL.loopM (x := z4) (i_made_2Fi_product_1_s3 a0 a1 a2 a3 a4 a5 a6 a7 r1 r2 r3) (fun (s : (List F) × Int) τ Γ => s.1.length = r3.length ∧ WeakLe τ [(1, i64 a1), (2, fn (.func 125) [] [ptr [i64 a2, i64 a3, sl a4.length (a4.map f32)], ptr [i64 a5, i64 a6, sl a7.length (a7.map f32)]]), (6, optr 0 1 0), (7, optr 2 1 0), (13, i64 a0), (14, i64 s.2)] ∧ DeadLe Γ [⟨1, some [i64 0, i64 0, nilsl]⟩, ⟨1, some (s.1.map f32)⟩, ⟨1, some [i64 r1, i64 r2, oref 1 1 0 r3.length]⟩]) ?_ _ _ _ hz_4 ⟨rfl, ⟨aR, aR, aR, aR, aR, aR, trivial⟩, ⟨⟨rfl, .inr rfl⟩, ⟨rfl, .inr rfl⟩, ⟨rfl, .inr rfl⟩, trivial⟩⟩))
  rintro ⟨L4, v6⟩ τ4 Γ4 y4_ ⟨hl5, hw4, hd4⟩ h4_ ho4 hr4
  refine RunC.wl (τ' := [(1, i64 a1), (2, fn (.func 125) [] [ptr [i64 a2, i64 a3, sl a4.length (a4.map f32)], ptr [i64 a5, i64 a6, sl a7.length (a7.map f32)]]), (6, optr 0 1 0), (7, optr 2 1 0), (13, i64 a0), (14, i64 v6)]) (Γ' := [⟨1, some [i64 0, i64 0, nilsl]⟩, ⟨1, some (L4.map f32)⟩, ⟨1, some [i64 r1, i64 r2, oref 1 1 0 r3.length]⟩]) hw4 hd4 ?_
  replace hl5 : L4.length = r3.length := hl5
  replace h4_ : i_made_2Fi_product_1_b3 a0 a1 a2 a3 a4 a5 a6 a7 r1 r2 r3 L4 v6 = some y4_ := h4_
  unfold i_made_2Fi_product_1_b3 at h4_
  refine RunC.seq ?_
  rcases bsel_some h4_ with ⟨hc2, h4_⟩ | ⟨hc2, h4_⟩
  ·refine RunC.regionW ?_
   refine zL (r := b true) rfl rfl rfl (LOp.eqb (LOp.lss rfl rfl rfl) hc2) ?_
   refine zN ?_
   refine RunC.seq ?_
   refine RunC.cond_true rfl rfl ?_
   refine RunC.skip ?_
   refine RunC.seq ?_
   refine RunC.block ?_
   refine zQ ?_
   refine zM (r := i64 v6) rfl rfl rfl rfl rfl ?_
   refine zA (r := i64 v6) rfl rfl rfl rfl rfl ?_
   refine zN ?_
   refine zQ ?_
   refine zM (r := i64 a1) rfl rfl rfl rfl rfl ?_
   refine zM (r := i64 0) rfl rfl rfl rfl rfl ?_
   refine zN ?_
   obtain ⟨z5, hz_5, h4_⟩ := obind_some h4_
   refine RunC.cutN (fun τ Γ => ∃ (L14 : List F), L14.length = r3.length ∧ WeakLe τ [(1, i64 a1), (2, fn (.func 125) [] [ptr [i64 a2, i64 a3, sl a4.length (a4.map f32)], ptr [i64 a5, i64 a6, sl a7.length (a7.map f32)]]), (6, optr 0 1 0), (7, optr 2 1 0), (13, i64 a0), (14, i64 v6)] ∧ DeadLe Γ [⟨1, some [i64 0, i64 0, nilsl]⟩, ⟨1, some (L14.map f32)⟩, ⟨1, some [i64 r1, i64 r2, oref 1 1 0 r3.length]⟩] ∧ z5 = .inl L14) ?_ ?_
   ·refine RunC.block (RunC.loop (RunL.loopM (x := z5) (i_made_2Fi_product_1_s2 a1 a2 a3 a4 a5 a6 a7 r1 r2 r3 v6) (fun (s : (List F) × Int) τ Γ => s.1.length = r3.length ∧ WeakLe τ [(1, i64 a1), (2, fn (.func 125) [] [ptr [i64 a2, i64 a3, sl a4.length (a4.map f32)], ptr [i64 a5, i64 a6, sl a7.length (a7.map f32)]]), (6, optr 0 1 0), (7, optr 2 1 0), (8, i64 v6), (13, i64 a0), (14, i64 v6), (17, i64 a1), (18, i64 s.2)] ∧ DeadLe Γ [⟨1, some [i64 0, i64 0, nilsl]⟩, ⟨1, some (s.1.map f32)⟩, ⟨1, some [i64 r1, i64 r2, oref 1 1 0 r3.length]⟩]) ?_ _ _ _ hz_5 ⟨hl5, ⟨aR, aR, aR, aR, aR, aR, aR, aR, aR, trivial⟩, ⟨⟨rfl, .inr rfl⟩, ⟨rfl, .inr rfl⟩, ⟨rfl, .inr rfl⟩, trivial⟩⟩))
    rintro ⟨L7, v9⟩ τ5 Γ5 y5_ ⟨hl8, hw5, hd5⟩ h5_ ho5 hr5
    refine RunC.wl (τ' := [(1, i64 a1), (2, fn (.func 125) [] [ptr [i64 a2, i64 a3, sl a4.length (a4.map f32)], ptr [i64 a5, i64 a6, sl a7.length (a7.map f32)]]), (6, optr 0 1 0), (7, optr 2 1 0), (8, i64 v6), (13, i64 a0), (14, i64 v6), (17, i64 a1), (18, i64 v9)]) (Γ' := [⟨1, some [i64 0, i64 0, nilsl]⟩, ⟨1, some (L7.map f32)⟩, ⟨1, some [i64 r1, i64 r2, oref 1 1 0 r3.length]⟩]) hw5 hd5 ?_
    replace hl8 : L7.length = r3.length := hl8
    replace h5_ : i_made_2Fi_product_1_b2 a1 a2 a3 a4 a5 a6 a7 r1 r2 r3 v6 L7 v9 = some y5_ := h5_
    unfold i_made_2Fi_product_1_b2 at h5_
    refine RunC.seq ?_
    rcases bsel_some h5_ with ⟨hc3, h5_⟩ | ⟨hc3, h5_⟩
    ·refine RunC.regionW ?_
     refine zL (r := b true) rfl rfl rfl (LOp.eqb (LOp.lss rfl rfl rfl) hc3) ?_
     refine zN ?_
     refine RunC.seq ?_
     refine RunC.cond_true rfl rfl ?_
     refine RunC.skip ?_
     refine RunC.seq ?_
     refine RunC.block ?_
     refine zQ ?_
     refine zM (r := i64 v9) rfl rfl rfl rfl rfl ?_
     refine zA (r := i64 v9) rfl rfl rfl rfl rfl ?_
     refine zN ?_
     obtain ⟨r11, hf5, h5_⟩ := obind_some h5_
     obtain ⟨r12, hf6, h5_⟩ := obind_some h5_
     obtain ⟨hn7, h5_⟩ := need_some h5_
     refine RunC.region_draw (Γ' := [⟨1, some [i64 0, i64 0, nilsl]⟩, ⟨1, some (L7.map f32)⟩, ⟨1, some [i64 r1, i64 r2, oref 1 1 0 r3.length]⟩]) 7 mixed 
      (TR.d (r := agg [i64 r1, i64 r2, oref 1 1 0 r3.length]) (fs := []) rfl rfl (TOp.loadAgg_o rfl agg26 siz26 rfl rfl rfl rfl) <|
      (TR.l (r := i64 v6) rfl rfl (LOp.move rfl rfl) <|
      (TR.l (r := i64 v9) rfl rfl (LOp.move rfl rfl) <|
      (TR.l (r := fn (.func 125) [] [ptr [i64 a2, i64 a3, sl a4.length (a4.map f32)], ptr [i64 a5, i64 a6, sl a7.length (a7.map f32)]]) rfl rfl (LOp.move rfl rfl) <|
      (TR.l (r := i64 v6) rfl rfl (LOp.move rfl rfl) <|
      (TR.l (r := i64 v9) rfl rfl (LOp.move rfl rfl) <|
      (TR.d (r := f32 r11) (fs := []) rfl rfl (TOp.callB (CallAs.fn ent125 rfl rfl rfl rfl) (Bors.cons (Bor.pure rfl) (Bors.cons (Bor.pure rfl) (Bors.cons (Bor.ptr (Bors.cons (Bor.pure rfl) (Bors.cons (Bor.pure rfl) (Bors.cons (Bor.sl (fun _ => rfl)) Bors.nil)))) (Bors.cons (Bor.ptr (Bors.cons (Bor.pure rfl) (Bors.cons (Bor.pure rfl) (Bors.cons (Bor.sl (fun _ => rfl)) Bors.nil)))) Bors.nil)))) rfl rfl (i_product_1_ok v6 v9 a2 a3 a4 a5 a6 a7 r11 hf5)) <|
      TR.nil))))))) rfl (by kernel_rfl) rfl fills_nil rfl ?_
     iterate 7 refine ROps.dropS ?_
     refine ROps.drop0 ?_
     refine ROps.callO (A := [agg [i64 r1, i64 r2, oref 1 1 0 r3.length], i64 v6, i64 v9, f32 r11]) (args := [agg [i64 r1, i64 r2, oref 0 0 0 L7.length], i64 v6, i64 v9, f32 r11]) (Γc := [⟨0, some (L7.map f32)⟩]) (Γc' := [⟨0, some (r12.map f32)⟩]) (r' := tup []) (Γ' := [⟨1, some [i64 0, i64 0, nilsl]⟩, ⟨1, some (r12.map f32)⟩, ⟨1, some [i64 r1, i64 r2, oref 1 1 0 r3.length]⟩]) [(1, 1)] [] rfl (CallAs.func ent78 rfl rfl) rfl rfl (SelOk.of (show List.Nodup [1] from by decide) (SelL.arr0 (f := f32) (fun _ => rfl) rfl trivial)) (live_of ⟨⟨_, _, rfl⟩, trivial⟩) (by simp [ren, rens, sigma, rens_f32, rens_f64, rens_i64, rens_ik, rens_str, rens_cp, hl8]) rfl (i_Matrix_set_02o_ok r1 r2 v6 v9 r11 L7 r12 hf6) rfl (news_of trivial) (show List.Nodup [1] from by decide) (by simp [ren, rens, sigma, of_decide_eq_true hn7]) (by simp [backOb, sigma, ren, rens, rens_f32, rens_f64, rens_i64, rens_ik, rens_str, rens_cp]) ?_
     refine zN ?_
     obtain ⟨x13, hx8, h5_⟩ := olet_some h5_
     refine RunC.regionW ?_
     refine zL (r := i64 x13) rfl rfl rfl (LOp.eqr (LOp.add rfl rfl rfl) (congrArg (ik .i64) hx8)) ?_
     refine zM (r := i64 x13) rfl rfl rfl rfl rfl ?_
     refine zN ?_
     cases Option.some.inj h5_
     exact ⟨_, rfl, (of_decide_eq_true hn7), ⟨aR, aR, aR, aR, aR, aR, aR, aR, aR, trivial⟩, ⟨⟨rfl, .inr rfl⟩, ⟨rfl, .inr rfl⟩, ⟨rfl, .inr rfl⟩, trivial⟩⟩
    ·refine RunC.regionW ?_
     refine zL (r := b false) rfl rfl rfl (LOp.eqb (LOp.lss rfl rfl rfl) hc3) ?_
     refine zN ?_
     refine RunC.seq ?_
     refine RunC.cond_false rfl rfl ?_
     refine RunC.exit ?_
     cases Option.some.inj h5_
     have hx := ho5 _ rfl
     exact ⟨L7, hl8, ⟨aR, aR, aR, aR, aR, aR, trivial⟩, ⟨⟨rfl, .inr rfl⟩, ⟨rfl, .inr rfl⟩, ⟨rfl, .inr rfl⟩, trivial⟩, hx⟩
   ·rintro τ6 Γ6 ⟨L14, hl15, hw6, hd6, rfl⟩
    refine RunC.wl hw6 hd6 ?_
    replace h4_ : i_made_2Fi_product_1_k2 v6 L14 = some y4_ := h4_
    unfold i_made_2Fi_product_1_k2 at h4_
    obtain ⟨x16, hx9, h4_⟩ := olet_some h4_
    refine RunC.regionW ?_
    refine zL (r := i64 x16) rfl rfl rfl (LOp.eqr (LOp.add rfl rfl rfl) (congrArg (ik .i64) hx9)) ?_
    refine zM (r := i64 x16) rfl rfl rfl rfl rfl ?_
    refine zN ?_
    cases Option.some.inj h4_
    exact ⟨_, rfl, hl15, ⟨aR, aR, aR, aR, aR, aR, trivial⟩, ⟨⟨rfl, .inr rfl⟩, ⟨rfl, .inr rfl⟩, ⟨rfl, .inr rfl⟩, trivial⟩⟩
  ·refine RunC.regionW ?_
   refine zL (r := b false) rfl rfl rfl (LOp.eqb (LOp.lss rfl rfl rfl) hc2) ?_
   refine zN ?_
   refine RunC.seq ?_
   refine RunC.cond_false rfl rfl ?_
   refine RunC.exit ?_
   cases Option.some.inj h4_
   have hx := ho4 _ rfl
   exact ⟨L4, hl5, ⟨aR, aR, trivial⟩, ⟨⟨rfl, .inr rfl⟩, ⟨rfl, .inr rfl⟩, ⟨rfl, .inr rfl⟩, trivial⟩, hx⟩
 ·rintro τ7 Γ7 ⟨L17, hl18, hw7, hd7, rfl⟩
  refine RunC.wl hw7 hd7 ?_
  replace h : i_made_2Fi_product_1_k3 r1 r2 L17 = some (q0, q1, q2) := h
  unfold i_made_2Fi_product_1_k3 at h
  refine zQ ?_
  refine ROps.d (r := agg [i64 r1, i64 r2, oref 1 1 0 r3.length]) (fs := []) (Γ' := [⟨1, some [i64 0, i64 0, nilsl]⟩, ⟨1, some (L17.map f32)⟩, ⟨1, some [i64 r1, i64 r2, oref 1 1 0 r3.length]⟩]) rfl rfl rfl (TOp.loadAgg_o rfl agg26 siz26 rfl rfl rfl rfl) rfl ?_
  refine ROps.store_le (r := agg [i64 r1, i64 r2, oref 1 1 0 r3.length]) (l' := [i64 r1, i64 r2, oref 1 1 0 r3.length]) (Γ' := [⟨1, some [i64 r1, i64 r2, oref 1 1 0 r3.length]⟩, ⟨1, some (L17.map f32)⟩, ⟨1, some [i64 r1, i64 r2, oref 1 1 0 r3.length]⟩]) rfl siz26 rfl rfl rfl aR rfl rfl rfl rfl (Nat.le_of_ble_eq_true rfl) rfl rfl ?_
  refine zN ?_
  refine RunC.ret ?_
  have hq := Option.some.inj h
  obtain ⟨hq0, hq⟩ := Prod.mk.inj hq
  obtain ⟨hq1, hq⟩ := Prod.mk.inj hq
  subst q0
  subst q1
  subst q2
  exact bodyQ.mk (r' := agg [i64 r1, i64 r2, oref 1 1 0 L17.length]) [(1, 1)] (.inr rfl) rfl (show List.Nodup [1] from by decide) rfl rfl (Res.eq (Res.one rfl (RV.cell agg26 siz26 rfl rfl rfl rfl)) (by rw [(show L17.length = r3.length from hl18)] <;> rfl)) (SelL.arr0 (f := f32) (fun _ => rfl) rfl trivial)
noncomputable def i_product (a0 : Int) (a1 : Int) (a2 : List F) (a3 : Int) (a4 : Int) (a5 : List F) : Option (Int × Int × (List F)) :=
 obind3 (i_made_2Fi_product_1 a0 a4 a0 a1 a2 a3 a4 a5) fun (r1 : Int) (r2 : Int) (r3 : List F) =>
 some (r1, r2, r3)
theorem i_product_ok (a0 : Int) (a1 : Int) (a2 : List F) (a3 : Int) (a4 : Int) (a5 : List F) (q0 : Int) (q1 : Int) (q2 : List F) (h : i_product a0 a1 a2 a3 a4 a5 = some (q0, q1, q2)) : Ev Try.prog 57 [agg [i64 a0, i64 a1, sl a2.length (a2.map f32)], agg [i64 a3, i64 a4, sl a5.length (a5.map f32)]] [] (agg [i64 q0, i64 q1, oref 0 0 0 q2.length]) [⟨0, some (q2.map f32)⟩] := by
 refine Ev.start Try.func57 rfl rfl 2 (τ := [(0, agg [i64 a0, i64 a1, sl a2.length (a2.map f32)]), (1, agg [i64 a3, i64 a4, sl a5.length (a5.map f32)])]) rfl (Γ' := [⟨0, none⟩, ⟨0, none⟩]) rfl (n := 23) rfl (g := 0) rfl (fun _ => rfl) ?_
 unfold i_product at h
 refine zQ ?_
 refine ROps.d (r := ptr [i64 a0, i64 a1, sl a2.length (a2.map f32)]) (fs := []) (Γ' := [⟨0, none⟩, ⟨0, none⟩]) rfl rfl rfl (TOp.box_s rfl rfl rfl) rfl ?_
 refine ROps.d (r := ptr [i64 a3, i64 a4, sl a5.length (a5.map f32)]) (fs := []) (Γ' := [⟨0, none⟩, ⟨0, none⟩]) rfl rfl rfl (TOp.box_s rfl rfl rfl) rfl ?_
 refine ROps.d (r := optr 0 1 0) (fs := [(0, [i64 0, i64 0, nilsl])]) (Γ' := [⟨1, some [i64 0, i64 0, nilsl]⟩, ⟨0, none⟩]) rfl rfl rfl (TOp.alloc_o (g := ⟨0, none⟩) 0 rfl zer26 zok26 rfl) rfl ?_
 refine zN ?_
 refine RunC.seq ?_
 obtain ⟨r1, r2, r3, hf1, h⟩ := obind3_some h
 refine RunC.regionW ?_
 refine zL (r := ptr [i64 a0, i64 a1, sl a2.length (a2.map f32)]) rfl rfl rfl (LOp.fap und26 rfl siz2 rfl rfl rfl) ?_
 refine zL (r := i64 a0) rfl rfl rfl (LOp.load1 agg2 rfl rfl) ?_
 refine zL (r := ptr [i64 a4, sl a5.length (a5.map f32)]) rfl rfl rfl (LOp.fap und26 rfl siz2 rfl rfl rfl) ?_
 refine zL (r := i64 a4) rfl rfl rfl (LOp.load1 agg2 rfl rfl) ?_
 refine zL (r := fn (.func 125) [] [ptr [i64 a0, i64 a1, sl a2.length (a2.map f32)], ptr [i64 a3, i64 a4, sl a5.length (a5.map f32)]]) rfl rfl rfl (LOp.makeFunc rfl rfl) ?_
 refine ROps.d (r := agg [i64 r1, i64 r2, oref 1 1 0 r3.length]) (fs := [(1, (r3.map f32))]) (Γ' := [⟨1, some [i64 0, i64 0, nilsl]⟩, ⟨1, some (r3.map f32)⟩]) rfl rfl rfl (TOp.callBN (ls := [(r3.map f32)]) [1] (CallAs.func ent60 rfl rfl) (Bors.cons (Bor.pure rfl) (Bors.cons (Bor.pure rfl) (Bors.cons (Bor.fn Bors.nil (Bors.cons (Bor.ptr (Bors.cons (Bor.pure rfl) (Bors.cons (Bor.pure rfl) (Bors.cons (Bor.sl (fun _ => rfl)) Bors.nil)))) (Bors.cons (Bor.ptr (Bors.cons (Bor.pure rfl) (Bors.cons (Bor.pure rfl) (Bors.cons (Bor.sl (fun _ => rfl)) Bors.nil)))) Bors.nil))) Bors.nil))) rfl (i_made_2Fi_product_1_ok a0 a4 a0 a1 a2 a3 a4 a5 r1 r2 r3 hf1) (and_all (lts0_map (f := f32) (fun _ => rfl) _) rfl) (and_all (noss_map (f := f32) (fun _ => rfl) _) rfl) rfl (by decide) (ns_of ⟨⟨_, rfl⟩, trivial⟩)) rfl ?_
 refine ROps.store_le (r := agg [i64 r1, i64 r2, oref 1 1 0 r3.length]) (l' := [i64 r1, i64 r2, oref 1 1 0 r3.length]) (Γ' := [⟨1, some [i64 r1, i64 r2, oref 1 1 0 r3.length]⟩, ⟨1, some (r3.map f32)⟩]) rfl siz26 rfl rfl rfl aR rfl rfl rfl rfl (Nat.le_of_ble_eq_true rfl) rfl rfl ?_
 refine zN ?_
 refine RunC.ret ?_
 have hq := Option.some.inj h
 obtain ⟨hq0, hq⟩ := Prod.mk.inj hq
 obtain ⟨hq1, hq⟩ := Prod.mk.inj hq
 subst q0
 subst q1
 subst q2
 exact bodyQ.mk (r' := agg [i64 r1, i64 r2, oref 1 1 0 r3.length]) [(1, 1)] (.inr rfl) rfl (show List.Nodup [1] from by decide) rfl rfl (Res.one rfl (RV.cell agg26 siz26 rfl rfl rfl rfl)) (SelL.arr0 (f := f32) (fun _ => rfl) rfl trivial)
end Go.Proofs.Ytcjbfpoaidjpaaa
