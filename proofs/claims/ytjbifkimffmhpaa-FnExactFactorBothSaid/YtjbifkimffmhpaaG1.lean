/- Generated. -/
import Derived.Test.YtjbifkimffmhpaaG0
namespace Go.Proofs.Ytjbifkimffmhpaa
open Go Go.AM
set_option maxRecDepth 20000
set_option maxHeartbeats 4000000
set_option linter.unusedVariables false
set_option linter.unusedSimpArgs false
noncomputable def i_Matrix_clone (a0 : Int) (a1 : Int) (a2 : List F) : Option (Int × Int × (List F)) :=
  obind (x_slices_Clone_float32_float32 a2) fun (r1 : List F) =>
  some (a0, a1, r1)
theorem i_Matrix_clone_ok (a0 : Int) (a1 : Int) (a2 : List F) (q0 : Int) (q1 : Int) (q2 : List F) (h : i_Matrix_clone a0 a1 a2 = some (q0, q1, q2)) : Ev Try.prog 48 [AV.agg [AV.i64 a0, AV.i64 a1, AV.sl a2.length (a2.map AV.f32)]] [] (AV.agg [AV.i64 q0, AV.i64 q1, AV.oref 0 0 0 q2.length]) [⟨0, some (q2.map AV.f32)⟩] := by
  refine Ev.start Try.func48 rfl rfl 2 (τ := [(0, AV.agg [AV.i64 a0, AV.i64 a1, AV.sl a2.length (a2.map AV.f32)])]) rfl (Γ' := [⟨0, none⟩, ⟨0, none⟩]) rfl (n := 11) rfl (g := 0) rfl ?_
  unfold i_Matrix_clone at h
  refine RunC.seq ?_
  refine RunC.regionW ?_
  refine ROps.d (r := AV.ptr [AV.i64 a0, AV.i64 a1, AV.sl a2.length (a2.map AV.f32)]) (fs := []) (Γ' := [⟨0, none⟩, ⟨0, none⟩]) rfl rfl rfl (TOp.box_s rfl rfl rfl) rfl ?_
  refine ROps.d (r := AV.optr 0 1 0) (fs := [(0, [AV.i64 0, AV.i64 0, AV.nilsl])]) (Γ' := [⟨1, some [AV.i64 0, AV.i64 0, AV.nilsl]⟩, ⟨0, none⟩]) rfl rfl rfl (TOp.alloc_o (g := ⟨0, none⟩) 0 rfl zer27 zok27 rfl) rfl ?_
  refine ROps.nil ?_
  refine RunC.seq ?_
  obtain ⟨r1, hf1, h⟩ := obind_some h
  refine RunC.region_draw (Γ' := [⟨1, some [AV.i64 0, AV.i64 0, AV.nilsl]⟩, ⟨1, some (r1.map AV.f32)⟩]) 8 mixed 
    (TR.l (r := AV.ptr [AV.i64 a0, AV.i64 a1, AV.sl a2.length (a2.map AV.f32)]) rfl rfl (LOp.fap und27 rfl siz2 rfl rfl rfl) <|
    (TR.l (r := AV.i64 a0) rfl rfl (LOp.load1 agg2 rfl rfl) <|
    (TR.l (r := AV.ptr [AV.i64 a1, AV.sl a2.length (a2.map AV.f32)]) rfl rfl (LOp.fap und27 rfl siz2 rfl rfl rfl) <|
    (TR.l (r := AV.i64 a1) rfl rfl (LOp.load1 agg2 rfl rfl) <|
    (TR.l (r := AV.ptr [AV.sl a2.length (a2.map AV.f32)]) rfl rfl (LOp.fap und27 rfl siz22 rfl rfl rfl) <|
    (TR.l (r := AV.sl a2.length (a2.map AV.f32)) rfl rfl (LOp.load1 agg22 rfl rfl) <|
    (TR.d (r := AV.oref 1 1 0 r1.length) (fs := [(1, (r1.map AV.f32))]) rfl rfl (TOp.callBN (ls := [(r1.map AV.f32)]) [1] (CallAs.func ent92 rfl rfl) (Bors.cons (Bor.sl (fun _ => rfl)) Bors.nil) rfl (x_slices_Clone_float32_float32_ok a2 r1 hf1) (and_all (lts0_map (f := AV.f32) (fun _ => rfl) _) rfl) (and_all (noss_map (f := AV.f32) (fun _ => rfl) _) rfl) rfl (by decide) (ns_of ⟨⟨_, rfl⟩, trivial⟩)) <|
    (TR.l (r := AV.agg [AV.i64 a0, AV.i64 a1, AV.oref 1 1 0 r1.length]) rfl rfl (LOp.build (qs := [(0, [AV.i64 a0]), (1, [AV.i64 a1]), (2, [AV.oref 1 1 0 r1.length])]) zer27 zok27 und27 plc27 rfl ⟨rfl, ⟨_, ALe.refl _, rfl⟩, ⟨rfl, ⟨_, ALe.refl _, rfl⟩, ⟨rfl, ⟨_, ALe.refl _, rfl⟩, trivial⟩⟩⟩ rfl) <|
    TR.nil)))))))) rfl (by kernel_rfl) rfl (fills_of (by show List.Nodup [1]; decide) ⟨⟨_, rfl⟩, trivial⟩) rfl ?_
  iterate 8 refine ROps.dropS ?_
  refine ROps.drop0 ?_
  refine ROps.store_le (r := AV.agg [AV.i64 a0, AV.i64 a1, AV.oref 1 1 0 r1.length]) (l' := [AV.i64 a0, AV.i64 a1, AV.oref 1 1 0 r1.length]) (Γ' := [⟨1, some [AV.i64 a0, AV.i64 a1, AV.oref 1 1 0 r1.length]⟩, ⟨1, some (r1.map AV.f32)⟩]) rfl siz27 rfl rfl rfl (ALe.refl _) rfl rfl rfl rfl (Nat.le_of_ble_eq_true rfl) rfl rfl ?_
  refine ROps.nil ?_
  refine RunC.ret ?_
  have hq := Option.some.inj h
  obtain ⟨hq0, hq⟩ := Prod.mk.inj hq
  obtain ⟨hq1, hq⟩ := Prod.mk.inj hq
  subst q0
  subst q1
  subst q2
  exact bodyQ.mk (r' := AV.agg [AV.i64 a0, AV.i64 a1, AV.oref 1 1 0 r1.length]) [(1, 1)] (.inr rfl) rfl (show List.Nodup [1] from by decide) rfl rfl (Res.one rfl (RV.cell agg27 siz27 rfl rfl rfl rfl)) (SelL.arr0 (f := AV.f32) (fun _ => rfl) rfl trivial)
noncomputable def i_ascending_b1 (a0 : Int) (L3 : List Int) (v4 : Int) : Option (LR ((List Int) × Int) ((List Int)) ((List Int))) :=
  bsel (decide (v4 < a0)) (
    need (apok 8 L3.length 1) <|
    olet (IntKind.i64.wrap (v4 + 1)) fun (x5 : Int) =>
    some (LR.next ((L3 ++ ([v4] : List Int)), x5))) (
    some (LR.out L3))
noncomputable def i_ascending_s1 (a0 : Int) : ((List Int) × Int) → Option (LR ((List Int) × Int) ((List Int)) ((List Int))) := fun s => i_ascending_b1 a0 s.1 s.2
noncomputable def i_ascending_k1 (L8 : List Int) : Option ((List Int)) :=
  some L8
noncomputable def i_ascending (a0 : Int) : Option ((List Int)) :=
  obind (loopM (i_ascending_s1 a0) (([] : List Int), 0)) fun z => osum z (fun e => i_ascending_k1 e) (fun r => some r)
theorem i_ascending_ok (a0 : Int) (q0 : List Int) (h : i_ascending a0 = some q0) : Ev Try.prog 73 [AV.i64 a0] [] (AV.oref 0 0 0 q0.length) [⟨0, some (q0.map AV.i64)⟩] := by
  refine Ev.start Try.func73 rfl rfl 2 (τ := [(0, AV.i64 a0)]) rfl (Γ' := [⟨0, none⟩, ⟨0, none⟩]) rfl (n := 16) rfl (g := 0) rfl ?_
  unfold i_ascending at h
  refine RunC.seq ?_
  refine RunC.regionW ?_
  refine ROps.l (r := AV.nilsl) rfl rfl rfl (LOp.assign rfl rfl) ?_
  refine ROps.nil ?_
  refine RunC.seq ?_
  refine RunC.regionW ?_
  refine ROps.d (r := AV.oref 0 1 0 0) (fs := [(0, (([] : List Int).map AV.i64))]) (Γ' := [⟨1, some (([] : List Int).map AV.i64)⟩, ⟨0, none⟩]) rfl rfl rfl (TOp.buildSlice_o (g := ⟨0, none⟩) (za := AV.i64 0) (qs := []) 0 rfl und28 siz2 zer2 rfl zel2 rfl rfl trivial rfl) rfl ?_
  refine ROps.l (r := AV.oref 0 1 0 0) rfl rfl rfl (LOp.assign rfl rfl) ?_
  refine ROps.nil ?_
  refine RunC.seq ?_
  refine RunC.seq ?_
  refine RunC.regionW ?_
  refine ROps.l (r := AV.i64 a0) rfl rfl rfl (LOp.move rfl rfl) ?_
  refine ROps.l (r := AV.i64 0) rfl rfl rfl (LOp.move rfl rfl) ?_
  refine ROps.nil ?_
  obtain ⟨z2, hz_2, h⟩ := obind_some h
  refine RunC.cutN (fun τ Γ => ∃ (L8 : List Int) (u6 : Nat) (u7 : Nat), WeakLe τ [(3, AV.oref 0 u6 0 L8.length)] ∧ DeadLe Γ [⟨u6, some (L8.map AV.i64)⟩, ⟨u7, none⟩] ∧ z2 = .inl L8) ?_ ?_
  · refine RunC.block (RunC.loop (RunL.loopM (x := z2) (i_ascending_s1 a0) (fun (s : (List Int) × Int) τ Γ => ∃ (u1 : Nat) (u2 : Nat), WeakLe τ [(3, AV.oref 0 u1 0 s.1.length), (6, AV.i64 a0), (7, AV.i64 s.2)] ∧ DeadLe Γ [⟨u1, some (s.1.map AV.i64)⟩, ⟨u2, none⟩]) ?_ _ _ _ hz_2 ⟨1, 0, ⟨(ALe.refl _), (ALe.refl _), (ALe.refl _), trivial⟩, ⟨⟨rfl, .inr rfl⟩, ⟨rfl, .inl rfl⟩, trivial⟩⟩))
    rintro ⟨L3, v4⟩ τ2 Γ2 y2_ ⟨u1, u2, hw2, hd2⟩ h2_ ho2 hr2
    refine RunC.wl (τ' := [(3, AV.oref 0 u1 0 L3.length), (6, AV.i64 a0), (7, AV.i64 v4)]) (Γ' := [⟨u1, some (L3.map AV.i64)⟩, ⟨u2, none⟩]) hw2 hd2 ?_
    replace h2_ : i_ascending_b1 a0 L3 v4 = some y2_ := h2_
    unfold i_ascending_b1 at h2_
    refine RunC.seq ?_
    rcases bsel_some h2_ with ⟨hc1, h2_⟩ | ⟨hc1, h2_⟩
    · refine RunC.regionW ?_
      refine ROps.l (r := AV.b true) rfl rfl rfl (LOp.eqb (LOp.lss rfl rfl rfl) hc1) ?_
      refine ROps.nil ?_
      refine RunC.seq ?_
      refine RunC.cond_true rfl rfl ?_
      refine RunC.skip ?_
      refine RunC.seq ?_
      refine RunC.block ?_
      refine RunC.seq ?_
      refine RunC.regionW ?_
      refine ROps.l (r := AV.i64 v4) rfl rfl rfl (LOp.move rfl rfl) ?_
      refine ROps.l (r := AV.i64 v4) rfl rfl rfl (LOp.assign rfl rfl) ?_
      refine ROps.nil ?_
      obtain ⟨hm2, h2_⟩ := need_some h2_
      refine RunC.regionW ?_
      refine ROps.l (r := AV.oref 0 u1 0 L3.length) rfl rfl rfl (LOp.move rfl rfl) ?_
      refine ROps.l (r := AV.i64 v4) rfl rfl rfl (LOp.move rfl rfl) ?_
      refine ROps.d (r := AV.oref 1 (u2 + 1) 0 1) (fs := [(1, (([v4] : List Int).map AV.i64))]) (Γ' := [⟨u1, some (L3.map AV.i64)⟩, ⟨(u2 + 1), some (([v4] : List Int).map AV.i64)⟩]) rfl rfl rfl (TOp.buildSlice_o (g := ⟨u2, none⟩) (za := AV.i64 0) (qs := [(0, [AV.i64 v4])]) 1 rfl und28 siz2 zer2 rfl zel2 rfl rfl ⟨rfl, ⟨_, ALe.refl _, rfl⟩, trivial⟩ rfl) rfl ?_
      refine ROps.app (f := AV.i64) (xs := L3) (ys := ([v4] : List Int)) (Γ' := [⟨(u1 + 1), some ((L3 ++ ([v4] : List Int)).map AV.i64)⟩, ⟨(u2 + 1), some (([v4] : List Int).map AV.i64)⟩]) rfl pun28 inf2 rfl rfl rfl rfl rfl rfl rfl rfl rfl (by simp) (ReadAs.own rfl (by simp)) (ones_map (fun _ => rfl)) (ap_by hm2) (ap_mx hm2) rfl ?_
      refine ROps.l (r := AV.oref 0 (u1 + 1) 0 (L3.length + 1)) rfl rfl rfl (LOp.assign rfl rfl) ?_
      refine ROps.nil ?_
      refine RunC.wl (τ' := [(3, AV.oref 0 (u1 + 1) 0 (L3.length + 1)), (6, AV.i64 a0), (7, AV.i64 v4)]) (Γ' := [⟨(u1 + 1), some ((L3 ++ ([v4] : List Int)).map AV.i64)⟩, ⟨(u2 + 1), none⟩]) ⟨(ALe.refl _), (ALe.refl _), (ALe.refl _), trivial⟩ ⟨⟨rfl, .inr rfl⟩, ⟨rfl, .inl rfl⟩, trivial⟩ ?_
      obtain ⟨x5, hx3, h2_⟩ := olet_some h2_
      refine RunC.regionW ?_
      refine ROps.l (r := AV.i64 x5) rfl rfl rfl (LOp.eqr (LOp.add rfl rfl rfl) (congrArg (AV.ik .i64) hx3)) ?_
      refine ROps.l (r := AV.i64 x5) rfl rfl rfl (LOp.move rfl rfl) ?_
      refine ROps.nil ?_
      cases Option.some.inj h2_
      exact ⟨_, rfl, (u1 + 1), (u2 + 1), ⟨(ALe.eq (by rw [(app_len rfl rfl)] <;> rfl)), (ALe.refl _), (ALe.refl _), trivial⟩, ⟨⟨rfl, .inr rfl⟩, ⟨rfl, .inl rfl⟩, trivial⟩⟩
    · refine RunC.regionW ?_
      refine ROps.l (r := AV.b false) rfl rfl rfl (LOp.eqb (LOp.lss rfl rfl rfl) hc1) ?_
      refine ROps.nil ?_
      refine RunC.seq ?_
      refine RunC.cond_false rfl rfl ?_
      refine RunC.exit ?_
      cases Option.some.inj h2_
      have hx := ho2 _ rfl
      exact ⟨L3, u1, u2, ⟨(ALe.refl _), trivial⟩, ⟨⟨rfl, .inr rfl⟩, ⟨rfl, .inl rfl⟩, trivial⟩, hx⟩
  · rintro τ3 Γ3 ⟨L8, u6, u7, hw3, hd3, rfl⟩
    refine RunC.wl (τ' := [(3, AV.oref 0 u6 0 L8.length)]) (Γ' := [⟨u6, some (L8.map AV.i64)⟩, ⟨u7, none⟩]) hw3 hd3 ?_
    replace h : i_ascending_k1 L8 = some q0 := h
    unfold i_ascending_k1 at h
    refine RunC.seq ?_
    refine RunC.regionW ?_
    refine ROps.l (r := AV.oref 0 u6 0 L8.length) rfl rfl rfl (LOp.move rfl rfl) ?_
    refine ROps.l (r := AV.oref 0 u6 0 L8.length) rfl rfl rfl (LOp.assign rfl rfl) ?_
    refine ROps.nil ?_
    refine RunC.ret ?_
    have hq := Option.some.inj h
    subst q0
    exact bodyQ.mk (r' := AV.oref 0 u6 0 L8.length) [(0, u6)] (.inr rfl) rfl (show List.Nodup [0] from by decide) (by simp [AV.ren, AV.rens, sigma]) rfl (Res.one rfl (RV.tmp rfl)) (SelL.arr0 (f := AV.i64) (fun _ => rfl) rfl trivial)
noncomputable def i_Matrix_at (a0 : Int) (a1 : Int) (a2 : List F) (a3 : Int) (a4 : Int) : Option (F) :=
  olet (IntKind.i64.wrap (a3 * a1)) fun (x1 : Int) =>
  olet (IntKind.i64.wrap (x1 + a4)) fun (x2 : Int) =>
  obind (at? a2 x2) fun (e3 : F) =>
  some e3
theorem i_Matrix_at_ok (a0 : Int) (a1 : Int) (a2 : List F) (a3 : Int) (a4 : Int) (q0 : F) (h : i_Matrix_at a0 a1 a2 a3 a4 = some q0) : Ev Try.prog 51 [AV.agg [AV.i64 a0, AV.i64 a1, AV.sl a2.length (a2.map AV.f32)], AV.i64 a3, AV.i64 a4] [] (AV.f32 q0) [] := by
  refine Ev.start Try.func51 rfl rfl 0 (τ := [(0, AV.agg [AV.i64 a0, AV.i64 a1, AV.sl a2.length (a2.map AV.f32)]), (1, AV.i64 a3), (2, AV.i64 a4)]) rfl (Γ' := []) rfl (n := 17) rfl (g := 0) rfl ?_
  unfold i_Matrix_at at h
  refine RunC.seq ?_
  refine RunC.regionW ?_
  refine ROps.d (r := AV.ptr [AV.i64 a0, AV.i64 a1, AV.sl a2.length (a2.map AV.f32)]) (fs := []) (Γ' := []) rfl rfl rfl (TOp.box_s rfl rfl rfl) rfl ?_
  refine ROps.l (r := AV.f32 (some 0)) rfl rfl rfl (LOp.le (LOp.assign rfl rfl) (ALe.fl (by kernel_rfl) (by kernel_rfl))) ?_
  refine ROps.nil ?_
  refine RunC.seq ?_
  obtain ⟨x1, hx1, h⟩ := olet_some h
  obtain ⟨x2, hx2, h⟩ := olet_some h
  obtain ⟨e3, he3, h⟩ := obind_some h
  refine RunC.regionW ?_
  refine ROps.l (r := AV.ptr [AV.sl a2.length (a2.map AV.f32)]) rfl rfl rfl (LOp.fap und27 rfl siz22 rfl rfl rfl) ?_
  refine ROps.l (r := AV.sl a2.length (a2.map AV.f32)) rfl rfl rfl (LOp.load1 agg22 rfl rfl) ?_
  refine ROps.l (r := AV.i64 a3) rfl rfl rfl (LOp.move rfl rfl) ?_
  refine ROps.l (r := AV.ptr [AV.i64 a1, AV.sl a2.length (a2.map AV.f32)]) rfl rfl rfl (LOp.fap und27 rfl siz2 rfl rfl rfl) ?_
  refine ROps.l (r := AV.i64 a1) rfl rfl rfl (LOp.load1 agg2 rfl rfl) ?_
  refine ROps.l (r := AV.i64 x1) rfl rfl rfl (LOp.eqr (LOp.mul rfl rfl rfl) (congrArg (AV.ik .i64) hx1)) ?_
  refine ROps.l (r := AV.i64 a4) rfl rfl rfl (LOp.move rfl rfl) ?_
  refine ROps.l (r := AV.i64 x2) rfl rfl rfl (LOp.eqr (LOp.add rfl rfl rfl) (congrArg (AV.ik .i64) hx2)) ?_
  refine ROps.l (r := AV.ptr [AV.f32 e3]) rfl rfl rfl (LOp.le (LOp.ix (f := AV.f32) und22 siz25 rfl rfl rfl rfl he3) ALe.ptr) ?_
  refine ROps.l (r := AV.f32 e3) rfl rfl rfl (LOp.load1 agg25 rfl rfl) ?_
  refine ROps.l (r := AV.f32 e3) rfl rfl rfl (LOp.assign rfl rfl) ?_
  refine ROps.nil ?_
  refine RunC.ret ?_
  have hq := Option.some.inj h
  subst q0
  exact bodyQ.pure (.inr rfl) rfl (Res.one rfl (RV.tmp rfl))
noncomputable def i_absolute (a0 : F) : Option (F) :=
  olet (fwiden a0) fun (x1 : F) =>
  obind (x_math_Abs x1) fun (r2 : F) =>
  obind (fnarrow r2) fun (y3 : F) =>
  some y3
theorem i_absolute_ok (a0 : F) (q0 : F) (h : i_absolute a0 = some q0) : Ev Try.prog 50 [AV.f32 a0] [] (AV.f32 q0) [] := by
  refine Ev.start Try.func50 rfl rfl 0 (τ := [(0, AV.f32 a0)]) rfl (Γ' := []) rfl (n := 7) rfl (g := 0) rfl ?_
  unfold i_absolute at h
  refine RunC.seq ?_
  refine RunC.regionW ?_
  refine ROps.l (r := AV.f32 (some 0)) rfl rfl rfl (LOp.le (LOp.assign rfl rfl) (ALe.fl (by kernel_rfl) (by kernel_rfl))) ?_
  refine ROps.nil ?_
  refine RunC.seq ?_
  obtain ⟨x1, hx1, h⟩ := olet_some h
  obtain ⟨r2, hf2, h⟩ := obind_some h
  obtain ⟨y3, hy3, h⟩ := obind_some h
  refine RunC.regionW ?_
  refine ROps.l (r := AV.f32 a0) rfl rfl rfl (LOp.move rfl rfl) ?_
  refine ROps.d (r := AV.f64 x1) (fs := []) (Γ' := []) rfl rfl rfl (TOp.eqr (TOp.widen (src := 25) (dst := 40) ⟨_, pun25⟩ pun40 rfl (OpF.tmp rfl)) (congrArg (AV.f .f64) hx1)) rfl ?_
  refine ROps.d (r := AV.f64 r2) (fs := []) (Γ' := []) rfl rfl rfl (TOp.callB (CallAs.func ent93 rfl rfl) (Bors.cons (Bor.pure rfl) Bors.nil) rfl rfl (x_math_Abs_ok x1 r2 hf2)) rfl ?_
  refine ROps.d (r := AV.f32 y3) (fs := []) (Γ' := []) rfl rfl rfl (TOp.narrow (src := 40) (dst := 25) ⟨_, pun40⟩ pun25 rfl (OpF.tmp rfl) hy3) rfl ?_
  refine ROps.l (r := AV.f32 y3) rfl rfl rfl (LOp.assign rfl rfl) ?_
  refine ROps.nil ?_
  refine RunC.ret ?_
  have hq := Option.some.inj h
  subst q0
  exact bodyQ.pure (.inr rfl) rfl (Res.one rfl (RV.tmp rfl))
noncomputable def i_Matrix_set_02o (a0 : Int) (a1 : Int) (a2 : Int) (a3 : Int) (a4 : F) (a5 : List F) : Option ((List F)) :=
  olet (IntKind.i64.wrap (a2 * a1)) fun (x1 : Int) =>
  olet (IntKind.i64.wrap (x1 + a3)) fun (x2 : Int) =>
  obind (setAt? a5 x2 a4) fun (L3 : List F) =>
  some L3
theorem i_Matrix_set_02o_ok (a0 : Int) (a1 : Int) (a2 : Int) (a3 : Int) (a4 : F) (a5 : List F) (q0 : List F) (h : i_Matrix_set_02o a0 a1 a2 a3 a4 a5 = some q0) : Ev Try.prog 60 [AV.agg [AV.i64 a0, AV.i64 a1, AV.oref 0 0 0 a5.length], AV.i64 a2, AV.i64 a3, AV.f32 a4] [⟨0, some (a5.map AV.f32)⟩] (AV.tup []) [⟨0, some (q0.map AV.f32)⟩] := by
  refine Ev.start Try.func60 rfl rfl 0 (τ := [(0, AV.agg [AV.i64 a0, AV.i64 a1, AV.oref 0 0 0 a5.length]), (1, AV.i64 a2), (2, AV.i64 a3), (3, AV.f32 a4)]) rfl (Γ' := [⟨0, some (a5.map AV.f32)⟩]) rfl (n := 18) rfl (g := 1) rfl ?_
  unfold i_Matrix_set_02o at h
  refine RunC.seq ?_
  refine RunC.regionW ?_
  refine ROps.d (r := AV.ptr [AV.i64 a0, AV.i64 a1, AV.oref 0 0 0 a5.length]) (fs := []) (Γ' := [⟨0, some (a5.map AV.f32)⟩]) rfl rfl rfl (TOp.box_s rfl rfl rfl) rfl ?_
  refine ROps.nil ?_
  obtain ⟨x1, hx1, h⟩ := olet_some h
  obtain ⟨x2, hx2, h⟩ := olet_some h
  obtain ⟨L3, he3, h⟩ := obind_some h
  refine RunC.regionW ?_
  refine ROps.l (r := AV.ptr [AV.oref 0 0 0 a5.length]) rfl rfl rfl (LOp.fap und27 rfl siz22 rfl rfl rfl) ?_
  refine ROps.l (r := AV.oref 0 0 0 a5.length) rfl rfl rfl (LOp.load1 agg22 rfl rfl) ?_
  refine ROps.l (r := AV.i64 a2) rfl rfl rfl (LOp.move rfl rfl) ?_
  refine ROps.l (r := AV.ptr [AV.i64 a1, AV.oref 0 0 0 a5.length]) rfl rfl rfl (LOp.fap und27 rfl siz2 rfl rfl rfl) ?_
  refine ROps.l (r := AV.i64 a1) rfl rfl rfl (LOp.load1 agg2 rfl rfl) ?_
  refine ROps.l (r := AV.i64 x1) rfl rfl rfl (LOp.eqr (LOp.mul rfl rfl rfl) (congrArg (AV.ik .i64) hx1)) ?_
  refine ROps.l (r := AV.i64 a3) rfl rfl rfl (LOp.move rfl rfl) ?_
  refine ROps.l (r := AV.i64 x2) rfl rfl rfl (LOp.eqr (LOp.add rfl rfl rfl) (congrArg (AV.ik .i64) hx2)) ?_
  refine ROps.l (r := AV.f32 a4) rfl rfl rfl (LOp.move rfl rfl) ?_
  refine ROps.d (r := AV.optr 0 0 x2.toNat) (fs := []) (Γ' := [⟨0, some (a5.map AV.f32)⟩]) rfl rfl rfl (TOp.ixo und22 siz25 rfl rfl rfl (set_in he3 rfl) rfl) rfl ?_
  refine ROps.st (f := AV.f32) (i := x2) (Γ' := [⟨0, some (L3.map AV.f32)⟩]) rfl siz25 rfl rfl rfl (ALe.refl _) rfl rfl rfl he3 rfl ?_
  refine ROps.nil ?_
  have hq := Option.some.inj h
  subst q0
  exact bodyQ.mk (r' := AV.tup []) [(0, 0)] (.inl rfl) rfl (show List.Nodup [0] from by decide) rfl rfl (Res.zero rfl) (SelL.arr (f := AV.f32) (fun _ => rfl) rfl trivial)
noncomputable def i_Matrix_swapRows_02o_b1 (a0 : Int) (a1 : Int) (a2 : Int) (a3 : Int) (a4 : List F) (L1 : List F) (v3 : Int) : Option (LR ((List F) × Int) ((List F)) ((List F))) :=
  bsel (decide (v3 < a1)) (
    obind (i_Matrix_at a0 a1 L1 a2 v3) fun (r4 : F) =>
    obind (i_Matrix_at a0 a1 L1 a3 v3) fun (r6 : F) =>
    obind (i_Matrix_set_02o a0 a1 a2 v3 r6 L1) fun (r7 : List F) =>
    need (decide (r7.length = a4.length)) <|
    obind (i_Matrix_set_02o a0 a1 a3 v3 r4 r7) fun (r8 : List F) =>
    need (decide (r8.length = a4.length)) <|
    olet (IntKind.i64.wrap (v3 + 1)) fun (x9 : Int) =>
    some (LR.next (r8, x9))) (
    some (LR.out L1))
noncomputable def i_Matrix_swapRows_02o_s1 (a0 : Int) (a1 : Int) (a2 : Int) (a3 : Int) (a4 : List F) : ((List F) × Int) → Option (LR ((List F) × Int) ((List F)) ((List F))) := fun s => i_Matrix_swapRows_02o_b1 a0 a1 a2 a3 a4 s.1 s.2
noncomputable def i_Matrix_swapRows_02o_k1 (L10 : List F) : Option ((List F)) :=
  some L10
noncomputable def i_Matrix_swapRows_02o (a0 : Int) (a1 : Int) (a2 : Int) (a3 : Int) (a4 : List F) : Option ((List F)) :=
  obind (loopM (i_Matrix_swapRows_02o_s1 a0 a1 a2 a3 a4) (a4, 0)) fun z => osum z (fun e => i_Matrix_swapRows_02o_k1 e) (fun r => some r)
theorem i_Matrix_swapRows_02o_ok (a0 : Int) (a1 : Int) (a2 : Int) (a3 : Int) (a4 : List F) (q0 : List F) (h : i_Matrix_swapRows_02o a0 a1 a2 a3 a4 = some q0) : Ev Try.prog 74 [AV.agg [AV.i64 a0, AV.i64 a1, AV.oref 0 0 0 a4.length], AV.i64 a2, AV.i64 a3] [⟨0, some (a4.map AV.f32)⟩] (AV.tup []) [⟨0, some (q0.map AV.f32)⟩] := by
  refine Ev.start Try.func74 rfl rfl 0 (τ := [(0, AV.agg [AV.i64 a0, AV.i64 a1, AV.oref 0 0 0 a4.length]), (1, AV.i64 a2), (2, AV.i64 a3)]) rfl (Γ' := [⟨0, some (a4.map AV.f32)⟩]) rfl (n := 31) rfl (g := 1) rfl ?_
  unfold i_Matrix_swapRows_02o at h
  refine RunC.seq ?_
  refine RunC.regionW ?_
  refine ROps.d (r := AV.ptr [AV.i64 a0, AV.i64 a1, AV.oref 0 0 0 a4.length]) (fs := []) (Γ' := [⟨0, some (a4.map AV.f32)⟩]) rfl rfl rfl (TOp.box_s rfl rfl rfl) rfl ?_
  refine ROps.nil ?_
  refine RunC.seq ?_
  refine RunC.regionW ?_
  refine ROps.l (r := AV.ptr [AV.i64 a1, AV.oref 0 0 0 a4.length]) rfl rfl rfl (LOp.fap und27 rfl siz2 rfl rfl rfl) ?_
  refine ROps.l (r := AV.i64 a1) rfl rfl rfl (LOp.load1 agg2 rfl rfl) ?_
  refine ROps.l (r := AV.i64 0) rfl rfl rfl (LOp.move rfl rfl) ?_
  refine ROps.nil ?_
  obtain ⟨z2, hz_2, h⟩ := obind_some h
  refine RunC.cutN (fun τ Γ => ∃ (L10 : List F), L10.length = a4.length ∧ WeakLe τ [] ∧ DeadLe Γ [⟨0, some (L10.map AV.f32)⟩] ∧ z2 = .inl L10) ?_ ?_
  · refine RunC.block (RunC.loop (RunL.loopM (x := z2) (i_Matrix_swapRows_02o_s1 a0 a1 a2 a3 a4) (fun (s : (List F) × Int) τ Γ => s.1.length = a4.length ∧ WeakLe τ [(1, AV.i64 a2), (2, AV.i64 a3), (3, AV.ptr [AV.i64 a0, AV.i64 a1, AV.oref 0 0 0 a4.length]), (9, AV.i64 a1), (10, AV.i64 s.2)] ∧ DeadLe Γ [⟨0, some (s.1.map AV.f32)⟩]) ?_ _ _ _ hz_2 ⟨rfl, ⟨(ALe.refl _), (ALe.refl _), (ALe.refl _), (ALe.refl _), (ALe.refl _), trivial⟩, ⟨⟨rfl, .inr rfl⟩, trivial⟩⟩))
    rintro ⟨L1, v3⟩ τ2 Γ2 y2_ ⟨hl2, hw2, hd2⟩ h2_ ho2 hr2
    refine RunC.wl (τ' := [(1, AV.i64 a2), (2, AV.i64 a3), (3, AV.ptr [AV.i64 a0, AV.i64 a1, AV.oref 0 0 0 a4.length]), (9, AV.i64 a1), (10, AV.i64 v3)]) (Γ' := [⟨0, some (L1.map AV.f32)⟩]) hw2 hd2 ?_
    replace hl2 : L1.length = a4.length := hl2
    replace h2_ : i_Matrix_swapRows_02o_b1 a0 a1 a2 a3 a4 L1 v3 = some y2_ := h2_
    unfold i_Matrix_swapRows_02o_b1 at h2_
    refine RunC.seq ?_
    rcases bsel_some h2_ with ⟨hc1, h2_⟩ | ⟨hc1, h2_⟩
    · refine RunC.regionW ?_
      refine ROps.l (r := AV.b true) rfl rfl rfl (LOp.eqb (LOp.lss rfl rfl rfl) hc1) ?_
      refine ROps.nil ?_
      refine RunC.seq ?_
      refine RunC.cond_true rfl rfl ?_
      refine RunC.skip ?_
      refine RunC.seq ?_
      refine RunC.block ?_
      refine RunC.seq ?_
      refine RunC.regionW ?_
      refine ROps.l (r := AV.i64 v3) rfl rfl rfl (LOp.move rfl rfl) ?_
      refine ROps.l (r := AV.i64 v3) rfl rfl rfl (LOp.assign rfl rfl) ?_
      refine ROps.nil ?_
      refine RunC.seq ?_
      obtain ⟨r4, hf2, h2_⟩ := obind_some h2_
      refine RunC.regionW ?_
      refine ROps.l (r := AV.agg [AV.i64 a0, AV.i64 a1, AV.oref 0 0 0 a4.length]) rfl rfl rfl (LOp.loadAgg agg27 siz27 rfl rfl rfl rfl) ?_
      refine ROps.l (r := AV.i64 a2) rfl rfl rfl (LOp.move rfl rfl) ?_
      refine ROps.l (r := AV.i64 v3) rfl rfl rfl (LOp.move rfl rfl) ?_
      refine ROps.d (r := AV.f32 r4) (fs := []) (Γ' := [⟨0, some (L1.map AV.f32)⟩]) rfl rfl rfl (TOp.callB (CallAs.func ent51 rfl rfl) (Bors.cons (Bor.agg (Bors.cons (Bor.pure rfl) (Bors.cons (Bor.pure rfl) (Bors.cons (Bor.own (f := AV.f32) (fun _ => rfl) rfl hl2) Bors.nil)))) (Bors.cons (Bor.pure rfl) (Bors.cons (Bor.pure rfl) Bors.nil))) rfl rfl (i_Matrix_at_ok a0 a1 L1 a2 v3 r4 hf2)) rfl ?_
      refine ROps.l (r := AV.f32 r4) rfl rfl rfl (LOp.assign rfl rfl) ?_
      refine ROps.nil ?_
      refine RunC.seq ?_
      obtain ⟨r6, hf4, h2_⟩ := obind_some h2_
      obtain ⟨r7, hf5, h2_⟩ := obind_some h2_
      obtain ⟨hn6, h2_⟩ := need_some h2_
      refine RunC.region_draw (Γ' := [⟨0, some (L1.map AV.f32)⟩]) 7 mixed 
        (TR.l (r := AV.agg [AV.i64 a0, AV.i64 a1, AV.oref 0 0 0 a4.length]) rfl rfl (LOp.loadAgg agg27 siz27 rfl rfl rfl rfl) <|
        (TR.l (r := AV.i64 a2) rfl rfl (LOp.move rfl rfl) <|
        (TR.l (r := AV.i64 v3) rfl rfl (LOp.move rfl rfl) <|
        (TR.l (r := AV.agg [AV.i64 a0, AV.i64 a1, AV.oref 0 0 0 a4.length]) rfl rfl (LOp.loadAgg agg27 siz27 rfl rfl rfl rfl) <|
        (TR.l (r := AV.i64 a3) rfl rfl (LOp.move rfl rfl) <|
        (TR.l (r := AV.i64 v3) rfl rfl (LOp.move rfl rfl) <|
        (TR.d (r := AV.f32 r6) (fs := []) rfl rfl (TOp.callB (CallAs.func ent51 rfl rfl) (Bors.cons (Bor.agg (Bors.cons (Bor.pure rfl) (Bors.cons (Bor.pure rfl) (Bors.cons (Bor.own (f := AV.f32) (fun _ => rfl) rfl hl2) Bors.nil)))) (Bors.cons (Bor.pure rfl) (Bors.cons (Bor.pure rfl) Bors.nil))) rfl rfl (i_Matrix_at_ok a0 a1 L1 a3 v3 r6 hf4)) <|
        TR.nil))))))) rfl (by kernel_rfl) rfl fills_nil rfl ?_
      iterate 7 refine ROps.dropS ?_
      refine ROps.drop0 ?_
      refine ROps.callO (A := [AV.agg [AV.i64 a0, AV.i64 a1, AV.oref 0 0 0 a4.length], AV.i64 a2, AV.i64 v3, AV.f32 r6]) (args := [AV.agg [AV.i64 a0, AV.i64 a1, AV.oref 0 0 0 L1.length], AV.i64 a2, AV.i64 v3, AV.f32 r6]) (Γc := [⟨0, some (L1.map AV.f32)⟩]) (Γc' := [⟨0, some (r7.map AV.f32)⟩]) (r' := AV.tup []) (Γ' := [⟨0, some (r7.map AV.f32)⟩]) [(0, 0)] [] rfl (CallAs.func ent60 rfl rfl) rfl rfl (SelOk.of (show List.Nodup [0] from by decide) (SelL.arr0 (f := AV.f32) (fun _ => rfl) rfl trivial)) (live_of ⟨⟨_, _, rfl⟩, trivial⟩) (by simp [AV.ren, AV.rens, sigma, rens_f32, rens_f64, rens_i64, rens_ik, rens_str, rens_cp, hl2]) rfl (i_Matrix_set_02o_ok a0 a1 a2 v3 r6 L1 r7 hf5) rfl (news_of trivial) (show List.Nodup [0] from by decide) (by simp [AV.ren, AV.rens, sigma, of_decide_eq_true hn6]) (by simp [backOb, sigma, AV.ren, AV.rens, rens_f32, rens_f64, rens_i64, rens_ik, rens_str, rens_cp]) ?_
      refine ROps.nil ?_
      refine RunC.wl (τ' := [(1, AV.i64 a2), (2, AV.i64 a3), (3, AV.ptr [AV.i64 a0, AV.i64 a1, AV.oref 0 0 0 a4.length]), (6, AV.i64 v3), (7, AV.f32 r4), (9, AV.i64 a1), (10, AV.i64 v3)]) (Γ' := [⟨0, some (r7.map AV.f32)⟩]) ⟨(ALe.refl _), (ALe.refl _), (ALe.refl _), (ALe.refl _), (ALe.refl _), (ALe.refl _), (ALe.refl _), trivial⟩ ⟨⟨rfl, .inr rfl⟩, trivial⟩ ?_
      obtain ⟨r8, hf7, h2_⟩ := obind_some h2_
      obtain ⟨hn8, h2_⟩ := need_some h2_
      refine RunC.regionW ?_
      refine ROps.l (r := AV.agg [AV.i64 a0, AV.i64 a1, AV.oref 0 0 0 a4.length]) rfl rfl rfl (LOp.loadAgg agg27 siz27 rfl rfl rfl rfl) ?_
      refine ROps.l (r := AV.i64 a3) rfl rfl rfl (LOp.move rfl rfl) ?_
      refine ROps.l (r := AV.i64 v3) rfl rfl rfl (LOp.move rfl rfl) ?_
      refine ROps.l (r := AV.f32 r4) rfl rfl rfl (LOp.move rfl rfl) ?_
      refine ROps.callO (A := [AV.agg [AV.i64 a0, AV.i64 a1, AV.oref 0 0 0 a4.length], AV.i64 a3, AV.i64 v3, AV.f32 r4]) (args := [AV.agg [AV.i64 a0, AV.i64 a1, AV.oref 0 0 0 r7.length], AV.i64 a3, AV.i64 v3, AV.f32 r4]) (Γc := [⟨0, some (r7.map AV.f32)⟩]) (Γc' := [⟨0, some (r8.map AV.f32)⟩]) (r' := AV.tup []) (Γ' := [⟨0, some (r8.map AV.f32)⟩]) [(0, 0)] [] rfl (CallAs.func ent60 rfl rfl) rfl rfl (SelOk.of (show List.Nodup [0] from by decide) (SelL.arr0 (f := AV.f32) (fun _ => rfl) rfl trivial)) (live_of ⟨⟨_, _, rfl⟩, trivial⟩) (by simp [AV.ren, AV.rens, sigma, rens_f32, rens_f64, rens_i64, rens_ik, rens_str, rens_cp, (of_decide_eq_true hn6)]) rfl (i_Matrix_set_02o_ok a0 a1 a3 v3 r4 r7 r8 hf7) rfl (news_of trivial) (show List.Nodup [0] from by decide) (by simp [AV.ren, AV.rens, sigma, of_decide_eq_true hn8]) (by simp [backOb, sigma, AV.ren, AV.rens, rens_f32, rens_f64, rens_i64, rens_ik, rens_str, rens_cp]) ?_
      refine ROps.nil ?_
      obtain ⟨x9, hx9, h2_⟩ := olet_some h2_
      refine RunC.regionW ?_
      refine ROps.l (r := AV.i64 x9) rfl rfl rfl (LOp.eqr (LOp.add rfl rfl rfl) (congrArg (AV.ik .i64) hx9)) ?_
      refine ROps.l (r := AV.i64 x9) rfl rfl rfl (LOp.move rfl rfl) ?_
      refine ROps.nil ?_
      cases Option.some.inj h2_
      exact ⟨_, rfl, (of_decide_eq_true hn8), ⟨(ALe.refl _), (ALe.refl _), (ALe.refl _), (ALe.refl _), (ALe.refl _), trivial⟩, ⟨⟨rfl, .inr rfl⟩, trivial⟩⟩
    · refine RunC.regionW ?_
      refine ROps.l (r := AV.b false) rfl rfl rfl (LOp.eqb (LOp.lss rfl rfl rfl) hc1) ?_
      refine ROps.nil ?_
      refine RunC.seq ?_
      refine RunC.cond_false rfl rfl ?_
      refine RunC.exit ?_
      cases Option.some.inj h2_
      have hx := ho2 _ rfl
      exact ⟨L1, hl2, trivial, ⟨⟨rfl, .inr rfl⟩, trivial⟩, hx⟩
  · rintro τ3 Γ3 ⟨L10, hl11, hw3, hd3, rfl⟩
    replace h : i_Matrix_swapRows_02o_k1 L10 = some q0 := h
    unfold i_Matrix_swapRows_02o_k1 at h
    refine bodyQ.wl hw3 hd3 ?_
    have hq := Option.some.inj h
    subst q0
    exact bodyQ.mk (r' := AV.tup []) [(0, 0)] (.inl rfl) rfl (show List.Nodup [0] from by decide) rfl rfl (Res.zero rfl) (SelL.arr (f := AV.f32) (fun _ => rfl) rfl trivial)
noncomputable def i_swap_0o (a0 : Int) (a1 : Int) (a2 : List Int) : Option ((List Int)) :=
  obind (at? a2 a1) fun (e1 : Int) =>
  obind (at? a2 a0) fun (e2 : Int) =>
  obind (setAt? a2 a0 e1) fun (L3 : List Int) =>
  obind (setAt? L3 a1 e2) fun (L4 : List Int) =>
  some L4
theorem i_swap_0o_ok (a0 : Int) (a1 : Int) (a2 : List Int) (q0 : List Int) (h : i_swap_0o a0 a1 a2 = some q0) : Ev Try.prog 75 [AV.oref 0 0 0 a2.length, AV.i64 a0, AV.i64 a1] [⟨0, some (a2.map AV.i64)⟩] (AV.tup []) [⟨0, some (q0.map AV.i64)⟩] := by
  refine Ev.start Try.func75 rfl rfl 0 (τ := [(0, AV.oref 0 0 0 a2.length), (1, AV.i64 a0), (2, AV.i64 a1)]) rfl (Γ' := [⟨0, some (a2.map AV.i64)⟩]) rfl (n := 20) rfl (g := 1) rfl ?_
  unfold i_swap_0o at h
  obtain ⟨e1, he1, h⟩ := obind_some h
  obtain ⟨e2, he2, h⟩ := obind_some h
  obtain ⟨L3, he3, h⟩ := obind_some h
  obtain ⟨L4, he4, h⟩ := obind_some h
  refine RunC.region_draw (Γ' := [⟨0, some (a2.map AV.i64)⟩]) 13 mixed 
    (TR.l (r := AV.oref 0 0 0 a2.length) rfl rfl (LOp.move rfl rfl) <|
    (TR.l (r := AV.i64 a0) rfl rfl (LOp.move rfl rfl) <|
    (TR.loose (r := AV.oref 0 0 0 a2.length) rfl rfl (LOp.move rfl rfl) <|
    (TR.loose (r := AV.i64 a1) rfl rfl (LOp.move rfl rfl) <|
    (TR.l (r := AV.oref 0 0 0 a2.length) rfl rfl (LOp.move rfl rfl) <|
    (TR.l (r := AV.i64 a1) rfl rfl (LOp.move rfl rfl) <|
    (TR.d (r := AV.optr 0 0 a1.toNat) (fs := []) rfl rfl (TOp.ixo und28 siz2 rfl rfl rfl (at_in he1 rfl) rfl) <|
    (TR.d (r := AV.i64 e1) (fs := []) rfl rfl (TOp.load1_o rfl (at_cell he1) agg2 rfl rfl) <|
    (TR.l (r := AV.oref 0 0 0 a2.length) rfl rfl (LOp.move rfl rfl) <|
    (TR.l (r := AV.i64 a0) rfl rfl (LOp.move rfl rfl) <|
    (TR.d (r := AV.optr 0 0 a0.toNat) (fs := []) rfl rfl (TOp.ixo und28 siz2 rfl rfl rfl (at_in he2 rfl) rfl) <|
    (TR.d (r := AV.i64 e2) (fs := []) rfl rfl (TOp.load1_o rfl (at_cell he2) agg2 rfl rfl) <|
    (TR.d (r := AV.optr 0 0 a0.toNat) (fs := []) rfl rfl (TOp.ixo und28 siz2 rfl rfl rfl (set_in he3 rfl) rfl) <|
    TR.nil))))))))))))) rfl (by kernel_rfl) rfl fills_nil rfl ?_
  iterate 13 refine ROps.dropS ?_
  refine ROps.drop0 ?_
  refine ROps.st (f := AV.i64) (i := a0) (Γ' := [⟨0, some (L3.map AV.i64)⟩]) rfl siz2 rfl rfl rfl (ALe.refl _) rfl rfl rfl he3 rfl ?_
  refine ROps.d (r := AV.optr 0 0 a1.toNat) (fs := []) (Γ' := [⟨0, some (L3.map AV.i64)⟩]) rfl rfl rfl (TOp.ixo und28 siz2 rfl rfl rfl (set_in he4 (setAt?_len he3)) rfl) rfl ?_
  refine ROps.st (f := AV.i64) (i := a1) (Γ' := [⟨0, some (L4.map AV.i64)⟩]) rfl siz2 rfl rfl rfl (ALe.refl _) rfl rfl rfl he4 rfl ?_
  refine ROps.nil ?_
  have hq := Option.some.inj h
  subst q0
  exact bodyQ.mk (r' := AV.tup []) [(0, 0)] (.inl rfl) rfl (show List.Nodup [0] from by decide) rfl rfl (Res.zero rfl) (SelL.arr (f := AV.i64) (fun _ => rfl) rfl trivial)
noncomputable def i_Matrix_swapColumns_02o_b1 (a0 : Int) (a1 : Int) (a2 : Int) (a3 : Int) (a4 : List F) (L1 : List F) (v3 : Int) : Option (LR ((List F) × Int) ((List F)) ((List F))) :=
  bsel (decide (v3 < a0)) (
    obind (i_Matrix_at a0 a1 L1 v3 a2) fun (r4 : F) =>
    obind (i_Matrix_at a0 a1 L1 v3 a3) fun (r6 : F) =>
    obind (i_Matrix_set_02o a0 a1 v3 a2 r6 L1) fun (r7 : List F) =>
    need (decide (r7.length = a4.length)) <|
    obind (i_Matrix_set_02o a0 a1 v3 a3 r4 r7) fun (r8 : List F) =>
    need (decide (r8.length = a4.length)) <|
    olet (IntKind.i64.wrap (v3 + 1)) fun (x9 : Int) =>
    some (LR.next (r8, x9))) (
    some (LR.out L1))
noncomputable def i_Matrix_swapColumns_02o_s1 (a0 : Int) (a1 : Int) (a2 : Int) (a3 : Int) (a4 : List F) : ((List F) × Int) → Option (LR ((List F) × Int) ((List F)) ((List F))) := fun s => i_Matrix_swapColumns_02o_b1 a0 a1 a2 a3 a4 s.1 s.2
noncomputable def i_Matrix_swapColumns_02o_k1 (L10 : List F) : Option ((List F)) :=
  some L10
noncomputable def i_Matrix_swapColumns_02o (a0 : Int) (a1 : Int) (a2 : Int) (a3 : Int) (a4 : List F) : Option ((List F)) :=
  obind (loopM (i_Matrix_swapColumns_02o_s1 a0 a1 a2 a3 a4) (a4, 0)) fun z => osum z (fun e => i_Matrix_swapColumns_02o_k1 e) (fun r => some r)
theorem i_Matrix_swapColumns_02o_ok (a0 : Int) (a1 : Int) (a2 : Int) (a3 : Int) (a4 : List F) (q0 : List F) (h : i_Matrix_swapColumns_02o a0 a1 a2 a3 a4 = some q0) : Ev Try.prog 77 [AV.agg [AV.i64 a0, AV.i64 a1, AV.oref 0 0 0 a4.length], AV.i64 a2, AV.i64 a3] [⟨0, some (a4.map AV.f32)⟩] (AV.tup []) [⟨0, some (q0.map AV.f32)⟩] := by
  refine Ev.start Try.func77 rfl rfl 0 (τ := [(0, AV.agg [AV.i64 a0, AV.i64 a1, AV.oref 0 0 0 a4.length]), (1, AV.i64 a2), (2, AV.i64 a3)]) rfl (Γ' := [⟨0, some (a4.map AV.f32)⟩]) rfl (n := 31) rfl (g := 1) rfl ?_
  unfold i_Matrix_swapColumns_02o at h
  refine RunC.seq ?_
  refine RunC.regionW ?_
  refine ROps.d (r := AV.ptr [AV.i64 a0, AV.i64 a1, AV.oref 0 0 0 a4.length]) (fs := []) (Γ' := [⟨0, some (a4.map AV.f32)⟩]) rfl rfl rfl (TOp.box_s rfl rfl rfl) rfl ?_
  refine ROps.nil ?_
  refine RunC.seq ?_
  refine RunC.regionW ?_
  refine ROps.l (r := AV.ptr [AV.i64 a0, AV.i64 a1, AV.oref 0 0 0 a4.length]) rfl rfl rfl (LOp.fap und27 rfl siz2 rfl rfl rfl) ?_
  refine ROps.l (r := AV.i64 a0) rfl rfl rfl (LOp.load1 agg2 rfl rfl) ?_
  refine ROps.l (r := AV.i64 0) rfl rfl rfl (LOp.move rfl rfl) ?_
  refine ROps.nil ?_
  obtain ⟨z2, hz_2, h⟩ := obind_some h
  refine RunC.cutN (fun τ Γ => ∃ (L10 : List F), L10.length = a4.length ∧ WeakLe τ [] ∧ DeadLe Γ [⟨0, some (L10.map AV.f32)⟩] ∧ z2 = .inl L10) ?_ ?_
  · refine RunC.block (RunC.loop (RunL.loopM (x := z2) (i_Matrix_swapColumns_02o_s1 a0 a1 a2 a3 a4) (fun (s : (List F) × Int) τ Γ => s.1.length = a4.length ∧ WeakLe τ [(1, AV.i64 a2), (2, AV.i64 a3), (3, AV.ptr [AV.i64 a0, AV.i64 a1, AV.oref 0 0 0 a4.length]), (9, AV.i64 a0), (10, AV.i64 s.2)] ∧ DeadLe Γ [⟨0, some (s.1.map AV.f32)⟩]) ?_ _ _ _ hz_2 ⟨rfl, ⟨(ALe.refl _), (ALe.refl _), (ALe.refl _), (ALe.refl _), (ALe.refl _), trivial⟩, ⟨⟨rfl, .inr rfl⟩, trivial⟩⟩))
    rintro ⟨L1, v3⟩ τ2 Γ2 y2_ ⟨hl2, hw2, hd2⟩ h2_ ho2 hr2
    refine RunC.wl (τ' := [(1, AV.i64 a2), (2, AV.i64 a3), (3, AV.ptr [AV.i64 a0, AV.i64 a1, AV.oref 0 0 0 a4.length]), (9, AV.i64 a0), (10, AV.i64 v3)]) (Γ' := [⟨0, some (L1.map AV.f32)⟩]) hw2 hd2 ?_
    replace hl2 : L1.length = a4.length := hl2
    replace h2_ : i_Matrix_swapColumns_02o_b1 a0 a1 a2 a3 a4 L1 v3 = some y2_ := h2_
    unfold i_Matrix_swapColumns_02o_b1 at h2_
    refine RunC.seq ?_
    rcases bsel_some h2_ with ⟨hc1, h2_⟩ | ⟨hc1, h2_⟩
    · refine RunC.regionW ?_
      refine ROps.l (r := AV.b true) rfl rfl rfl (LOp.eqb (LOp.lss rfl rfl rfl) hc1) ?_
      refine ROps.nil ?_
      refine RunC.seq ?_
      refine RunC.cond_true rfl rfl ?_
      refine RunC.skip ?_
      refine RunC.seq ?_
      refine RunC.block ?_
      refine RunC.seq ?_
      refine RunC.regionW ?_
      refine ROps.l (r := AV.i64 v3) rfl rfl rfl (LOp.move rfl rfl) ?_
      refine ROps.l (r := AV.i64 v3) rfl rfl rfl (LOp.assign rfl rfl) ?_
      refine ROps.nil ?_
      refine RunC.seq ?_
      obtain ⟨r4, hf2, h2_⟩ := obind_some h2_
      refine RunC.regionW ?_
      refine ROps.l (r := AV.agg [AV.i64 a0, AV.i64 a1, AV.oref 0 0 0 a4.length]) rfl rfl rfl (LOp.loadAgg agg27 siz27 rfl rfl rfl rfl) ?_
      refine ROps.l (r := AV.i64 v3) rfl rfl rfl (LOp.move rfl rfl) ?_
      refine ROps.l (r := AV.i64 a2) rfl rfl rfl (LOp.move rfl rfl) ?_
      refine ROps.d (r := AV.f32 r4) (fs := []) (Γ' := [⟨0, some (L1.map AV.f32)⟩]) rfl rfl rfl (TOp.callB (CallAs.func ent51 rfl rfl) (Bors.cons (Bor.agg (Bors.cons (Bor.pure rfl) (Bors.cons (Bor.pure rfl) (Bors.cons (Bor.own (f := AV.f32) (fun _ => rfl) rfl hl2) Bors.nil)))) (Bors.cons (Bor.pure rfl) (Bors.cons (Bor.pure rfl) Bors.nil))) rfl rfl (i_Matrix_at_ok a0 a1 L1 v3 a2 r4 hf2)) rfl ?_
      refine ROps.l (r := AV.f32 r4) rfl rfl rfl (LOp.assign rfl rfl) ?_
      refine ROps.nil ?_
      refine RunC.seq ?_
      obtain ⟨r6, hf4, h2_⟩ := obind_some h2_
      obtain ⟨r7, hf5, h2_⟩ := obind_some h2_
      obtain ⟨hn6, h2_⟩ := need_some h2_
      refine RunC.region_draw (Γ' := [⟨0, some (L1.map AV.f32)⟩]) 7 mixed 
        (TR.l (r := AV.agg [AV.i64 a0, AV.i64 a1, AV.oref 0 0 0 a4.length]) rfl rfl (LOp.loadAgg agg27 siz27 rfl rfl rfl rfl) <|
        (TR.l (r := AV.i64 v3) rfl rfl (LOp.move rfl rfl) <|
        (TR.l (r := AV.i64 a2) rfl rfl (LOp.move rfl rfl) <|
        (TR.l (r := AV.agg [AV.i64 a0, AV.i64 a1, AV.oref 0 0 0 a4.length]) rfl rfl (LOp.loadAgg agg27 siz27 rfl rfl rfl rfl) <|
        (TR.l (r := AV.i64 v3) rfl rfl (LOp.move rfl rfl) <|
        (TR.l (r := AV.i64 a3) rfl rfl (LOp.move rfl rfl) <|
        (TR.d (r := AV.f32 r6) (fs := []) rfl rfl (TOp.callB (CallAs.func ent51 rfl rfl) (Bors.cons (Bor.agg (Bors.cons (Bor.pure rfl) (Bors.cons (Bor.pure rfl) (Bors.cons (Bor.own (f := AV.f32) (fun _ => rfl) rfl hl2) Bors.nil)))) (Bors.cons (Bor.pure rfl) (Bors.cons (Bor.pure rfl) Bors.nil))) rfl rfl (i_Matrix_at_ok a0 a1 L1 v3 a3 r6 hf4)) <|
        TR.nil))))))) rfl (by kernel_rfl) rfl fills_nil rfl ?_
      iterate 7 refine ROps.dropS ?_
      refine ROps.drop0 ?_
      refine ROps.callO (A := [AV.agg [AV.i64 a0, AV.i64 a1, AV.oref 0 0 0 a4.length], AV.i64 v3, AV.i64 a2, AV.f32 r6]) (args := [AV.agg [AV.i64 a0, AV.i64 a1, AV.oref 0 0 0 L1.length], AV.i64 v3, AV.i64 a2, AV.f32 r6]) (Γc := [⟨0, some (L1.map AV.f32)⟩]) (Γc' := [⟨0, some (r7.map AV.f32)⟩]) (r' := AV.tup []) (Γ' := [⟨0, some (r7.map AV.f32)⟩]) [(0, 0)] [] rfl (CallAs.func ent60 rfl rfl) rfl rfl (SelOk.of (show List.Nodup [0] from by decide) (SelL.arr0 (f := AV.f32) (fun _ => rfl) rfl trivial)) (live_of ⟨⟨_, _, rfl⟩, trivial⟩) (by simp [AV.ren, AV.rens, sigma, rens_f32, rens_f64, rens_i64, rens_ik, rens_str, rens_cp, hl2]) rfl (i_Matrix_set_02o_ok a0 a1 v3 a2 r6 L1 r7 hf5) rfl (news_of trivial) (show List.Nodup [0] from by decide) (by simp [AV.ren, AV.rens, sigma, of_decide_eq_true hn6]) (by simp [backOb, sigma, AV.ren, AV.rens, rens_f32, rens_f64, rens_i64, rens_ik, rens_str, rens_cp]) ?_
      refine ROps.nil ?_
      refine RunC.wl (τ' := [(1, AV.i64 a2), (2, AV.i64 a3), (3, AV.ptr [AV.i64 a0, AV.i64 a1, AV.oref 0 0 0 a4.length]), (6, AV.i64 v3), (7, AV.f32 r4), (9, AV.i64 a0), (10, AV.i64 v3)]) (Γ' := [⟨0, some (r7.map AV.f32)⟩]) ⟨(ALe.refl _), (ALe.refl _), (ALe.refl _), (ALe.refl _), (ALe.refl _), (ALe.refl _), (ALe.refl _), trivial⟩ ⟨⟨rfl, .inr rfl⟩, trivial⟩ ?_
      obtain ⟨r8, hf7, h2_⟩ := obind_some h2_
      obtain ⟨hn8, h2_⟩ := need_some h2_
      refine RunC.regionW ?_
      refine ROps.l (r := AV.agg [AV.i64 a0, AV.i64 a1, AV.oref 0 0 0 a4.length]) rfl rfl rfl (LOp.loadAgg agg27 siz27 rfl rfl rfl rfl) ?_
      refine ROps.l (r := AV.i64 v3) rfl rfl rfl (LOp.move rfl rfl) ?_
      refine ROps.l (r := AV.i64 a3) rfl rfl rfl (LOp.move rfl rfl) ?_
      refine ROps.l (r := AV.f32 r4) rfl rfl rfl (LOp.move rfl rfl) ?_
      refine ROps.callO (A := [AV.agg [AV.i64 a0, AV.i64 a1, AV.oref 0 0 0 a4.length], AV.i64 v3, AV.i64 a3, AV.f32 r4]) (args := [AV.agg [AV.i64 a0, AV.i64 a1, AV.oref 0 0 0 r7.length], AV.i64 v3, AV.i64 a3, AV.f32 r4]) (Γc := [⟨0, some (r7.map AV.f32)⟩]) (Γc' := [⟨0, some (r8.map AV.f32)⟩]) (r' := AV.tup []) (Γ' := [⟨0, some (r8.map AV.f32)⟩]) [(0, 0)] [] rfl (CallAs.func ent60 rfl rfl) rfl rfl (SelOk.of (show List.Nodup [0] from by decide) (SelL.arr0 (f := AV.f32) (fun _ => rfl) rfl trivial)) (live_of ⟨⟨_, _, rfl⟩, trivial⟩) (by simp [AV.ren, AV.rens, sigma, rens_f32, rens_f64, rens_i64, rens_ik, rens_str, rens_cp, (of_decide_eq_true hn6)]) rfl (i_Matrix_set_02o_ok a0 a1 v3 a3 r4 r7 r8 hf7) rfl (news_of trivial) (show List.Nodup [0] from by decide) (by simp [AV.ren, AV.rens, sigma, of_decide_eq_true hn8]) (by simp [backOb, sigma, AV.ren, AV.rens, rens_f32, rens_f64, rens_i64, rens_ik, rens_str, rens_cp]) ?_
      refine ROps.nil ?_
      obtain ⟨x9, hx9, h2_⟩ := olet_some h2_
      refine RunC.regionW ?_
      refine ROps.l (r := AV.i64 x9) rfl rfl rfl (LOp.eqr (LOp.add rfl rfl rfl) (congrArg (AV.ik .i64) hx9)) ?_
      refine ROps.l (r := AV.i64 x9) rfl rfl rfl (LOp.move rfl rfl) ?_
      refine ROps.nil ?_
      cases Option.some.inj h2_
      exact ⟨_, rfl, (of_decide_eq_true hn8), ⟨(ALe.refl _), (ALe.refl _), (ALe.refl _), (ALe.refl _), (ALe.refl _), trivial⟩, ⟨⟨rfl, .inr rfl⟩, trivial⟩⟩
    · refine RunC.regionW ?_
      refine ROps.l (r := AV.b false) rfl rfl rfl (LOp.eqb (LOp.lss rfl rfl rfl) hc1) ?_
      refine ROps.nil ?_
      refine RunC.seq ?_
      refine RunC.cond_false rfl rfl ?_
      refine RunC.exit ?_
      cases Option.some.inj h2_
      have hx := ho2 _ rfl
      exact ⟨L1, hl2, trivial, ⟨⟨rfl, .inr rfl⟩, trivial⟩, hx⟩
  · rintro τ3 Γ3 ⟨L10, hl11, hw3, hd3, rfl⟩
    replace h : i_Matrix_swapColumns_02o_k1 L10 = some q0 := h
    unfold i_Matrix_swapColumns_02o_k1 at h
    refine bodyQ.wl hw3 hd3 ?_
    have hq := Option.some.inj h
    subst q0
    exact bodyQ.mk (r' := AV.tup []) [(0, 0)] (.inl rfl) rfl (show List.Nodup [0] from by decide) rfl rfl (Res.zero rfl) (SelL.arr (f := AV.f32) (fun _ => rfl) rfl trivial)
noncomputable def i_mul (a0 : F) (a1 : F) : Option (F) :=
  olet (fop .mul .f32 a0 a1) fun (x1 : F) =>
  some x1
theorem i_mul_ok (a0 : F) (a1 : F) (q0 : F) (h : i_mul a0 a1 = some q0) : Ev Try.prog 54 [AV.f32 a0, AV.f32 a1] [] (AV.f32 q0) [] := by
  refine Ev.start Try.func54 rfl rfl 0 (τ := [(0, AV.f32 a0), (1, AV.f32 a1)]) rfl (Γ' := []) rfl (n := 8) rfl (g := 0) rfl ?_
  unfold i_mul at h
  refine RunC.seq ?_
  refine RunC.regionW ?_
  refine ROps.l (r := AV.f32 (some 0)) rfl rfl rfl (LOp.le (LOp.assign rfl rfl) (ALe.fl (by kernel_rfl) (by kernel_rfl))) ?_
  refine ROps.nil ?_
  refine RunC.seq ?_
  obtain ⟨x1, hx1, h⟩ := olet_some h
  refine RunC.regionW ?_
  refine ROps.l (r := AV.f32 a0) rfl rfl rfl (LOp.move rfl rfl) ?_
  refine ROps.l (r := AV.f32 a1) rfl rfl rfl (LOp.move rfl rfl) ?_
  refine ROps.d (r := AV.f32 x1) (fs := []) (Γ' := []) rfl rfl rfl (TOp.eqr (TOp.fop (.inr (.inr (.inl rfl))) rfl (OpF.tmp rfl) (OpF.tmp rfl)) (congrArg (AV.f .f32) hx1)) rfl ?_
  refine ROps.l (r := AV.f32 x1) rfl rfl rfl (LOp.assign rfl rfl) ?_
  refine ROps.nil ?_
  refine RunC.ret ?_
  have hq := Option.some.inj h
  subst q0
  exact bodyQ.pure (.inr rfl) rfl (Res.one rfl (RV.tmp rfl))
noncomputable def i_Matrix_eliminate_02o_b2 (a0 : Int) (a1 : Int) (a2 : Int) (a3 : List F) (v4 : Int) (x7 : F) (L10 : List F) (v12 : Int) : Option (LR ((List F) × Int) ((List F)) ((List F))) :=
  bsel (decide (v12 < a1)) (
    obind (i_Matrix_at a0 a1 L10 v4 v12) fun (r17 : F) =>
    obind (i_Matrix_at a0 a1 L10 a2 v12) fun (r18 : F) =>
    obind (i_mul x7 r18) fun (r19 : F) =>
    olet (fop .sub .f32 r17 r19) fun (x20 : F) =>
    obind (i_Matrix_set_02o a0 a1 v4 v12 x20 L10) fun (r21 : List F) =>
    need (decide (r21.length = a3.length)) <|
    olet (IntKind.i64.wrap (v12 + 1)) fun (x22 : Int) =>
    some (LR.next (r21, x22))) (
    some (LR.out L10))
noncomputable def i_Matrix_eliminate_02o_s2 (a0 : Int) (a1 : Int) (a2 : Int) (a3 : List F) (v4 : Int) (x7 : F) : ((List F) × Int) → Option (LR ((List F) × Int) ((List F)) ((List F))) := fun s => i_Matrix_eliminate_02o_b2 a0 a1 a2 a3 v4 x7 s.1 s.2
noncomputable def i_Matrix_eliminate_02o_k2 (v4 : Int) (L23 : List F) : Option (LR ((List F) × Int) ((List F)) ((List F))) :=
  olet (IntKind.i64.wrap (v4 + 1)) fun (x25 : Int) =>
  some (LR.next (L23, x25))
noncomputable def i_Matrix_eliminate_02o_b3 (a0 : Int) (a1 : Int) (a2 : Int) (a3 : List F) (L2 : List F) (v4 : Int) : Option (LR ((List F) × Int) ((List F)) ((List F))) :=
  bsel (decide (v4 < a0)) (
    obind (i_Matrix_at a0 a1 L2 v4 a2) fun (r5 : F) =>
    obind (i_Matrix_at a0 a1 L2 a2 a2) fun (r6 : F) =>
    olet (fop .quo .f32 r5 r6) fun (x7 : F) =>
    obind (i_Matrix_set_02o a0 a1 v4 a2 x7 L2) fun (r8 : List F) =>
    need (decide (r8.length = a3.length)) <|
    olet (IntKind.i64.wrap (a2 + 1)) fun (x9 : Int) =>
    obind (loopM (i_Matrix_eliminate_02o_s2 a0 a1 a2 a3 v4 x7) (r8, x9)) fun z => osum z (fun e => i_Matrix_eliminate_02o_k2 v4 e) (fun r => some (LR.ret r))) (
    some (LR.out L2))
noncomputable def i_Matrix_eliminate_02o_s3 (a0 : Int) (a1 : Int) (a2 : Int) (a3 : List F) : ((List F) × Int) → Option (LR ((List F) × Int) ((List F)) ((List F))) := fun s => i_Matrix_eliminate_02o_b3 a0 a1 a2 a3 s.1 s.2
noncomputable def i_Matrix_eliminate_02o_k3 (L26 : List F) : Option ((List F)) :=
  some L26
noncomputable def i_Matrix_eliminate_02o (a0 : Int) (a1 : Int) (a2 : Int) (a3 : List F) : Option ((List F)) :=
  olet (IntKind.i64.wrap (a2 + 1)) fun (x1 : Int) =>
  obind (loopM (i_Matrix_eliminate_02o_s3 a0 a1 a2 a3) (a3, x1)) fun z => osum z (fun e => i_Matrix_eliminate_02o_k3 e) (fun r => some r)
theorem i_Matrix_eliminate_02o_ok (a0 : Int) (a1 : Int) (a2 : Int) (a3 : List F) (q0 : List F) (h : i_Matrix_eliminate_02o a0 a1 a2 a3 = some q0) : Ev Try.prog 76 [AV.agg [AV.i64 a0, AV.i64 a1, AV.oref 0 0 0 a3.length], AV.i64 a2] [⟨0, some (a3.map AV.f32)⟩] (AV.tup []) [⟨0, some (q0.map AV.f32)⟩] := by
  refine Ev.start Try.func76 rfl rfl 0 (τ := [(0, AV.agg [AV.i64 a0, AV.i64 a1, AV.oref 0 0 0 a3.length]), (1, AV.i64 a2)]) rfl (Γ' := [⟨0, some (a3.map AV.f32)⟩]) rfl (n := 52) rfl (g := 1) rfl ?_
  unfold i_Matrix_eliminate_02o at h
  refine RunC.seq ?_
  refine RunC.regionW ?_
  refine ROps.d (r := AV.ptr [AV.i64 a0, AV.i64 a1, AV.oref 0 0 0 a3.length]) (fs := []) (Γ' := [⟨0, some (a3.map AV.f32)⟩]) rfl rfl rfl (TOp.box_s rfl rfl rfl) rfl ?_
  refine ROps.nil ?_
  refine RunC.seq ?_
  obtain ⟨x1, hx1, h⟩ := olet_some h
  refine RunC.regionW ?_
  refine ROps.l (r := AV.i64 a2) rfl rfl rfl (LOp.move rfl rfl) ?_
  refine ROps.l (r := AV.i64 x1) rfl rfl rfl (LOp.eqr (LOp.add rfl rfl rfl) (congrArg (AV.ik .i64) hx1)) ?_
  refine ROps.l (r := AV.i64 x1) rfl rfl rfl (LOp.assign rfl rfl) ?_
  refine ROps.nil ?_
  obtain ⟨z4, hz_4, h⟩ := obind_some h
  refine RunC.cutN (fun τ Γ => ∃ (L26 : List F), L26.length = a3.length ∧ WeakLe τ [] ∧ DeadLe Γ [⟨0, some (L26.map AV.f32)⟩] ∧ z4 = .inl L26) ?_ ?_
  · refine RunC.block (RunC.loop (RunL.loopM (x := z4) (i_Matrix_eliminate_02o_s3 a0 a1 a2 a3) (fun (s : (List F) × Int) τ Γ => s.1.length = a3.length ∧ WeakLe τ [(1, AV.i64 a2), (2, AV.ptr [AV.i64 a0, AV.i64 a1, AV.oref 0 0 0 a3.length]), (4, AV.i64 s.2)] ∧ DeadLe Γ [⟨0, some (s.1.map AV.f32)⟩]) ?_ _ _ _ hz_4 ⟨rfl, ⟨(ALe.refl _), (ALe.refl _), (ALe.refl _), trivial⟩, ⟨⟨rfl, .inr rfl⟩, trivial⟩⟩))
    rintro ⟨L2, v4⟩ τ4 Γ4 y4_ ⟨hl3, hw4, hd4⟩ h4_ ho4 hr4
    refine RunC.wl (τ' := [(1, AV.i64 a2), (2, AV.ptr [AV.i64 a0, AV.i64 a1, AV.oref 0 0 0 a3.length]), (4, AV.i64 v4)]) (Γ' := [⟨0, some (L2.map AV.f32)⟩]) hw4 hd4 ?_
    replace hl3 : L2.length = a3.length := hl3
    replace h4_ : i_Matrix_eliminate_02o_b3 a0 a1 a2 a3 L2 v4 = some y4_ := h4_
    unfold i_Matrix_eliminate_02o_b3 at h4_
    refine RunC.seq ?_
    refine RunC.seq ?_
    rcases bsel_some h4_ with ⟨hc2, h4_⟩ | ⟨hc2, h4_⟩
    · refine RunC.regionW ?_
      refine ROps.l (r := AV.i64 v4) rfl rfl rfl (LOp.move rfl rfl) ?_
      refine ROps.l (r := AV.ptr [AV.i64 a0, AV.i64 a1, AV.oref 0 0 0 a3.length]) rfl rfl rfl (LOp.fap und27 rfl siz2 rfl rfl rfl) ?_
      refine ROps.l (r := AV.i64 a0) rfl rfl rfl (LOp.load1 agg2 rfl rfl) ?_
      refine ROps.l (r := AV.b true) rfl rfl rfl (LOp.eqb (LOp.lss rfl rfl rfl) hc2) ?_
      refine ROps.nil ?_
      refine RunC.cond_true rfl rfl ?_
      refine RunC.skip ?_
      refine RunC.seq ?_
      refine RunC.block ?_
      refine RunC.seq ?_
      obtain ⟨r5, hf3, h4_⟩ := obind_some h4_
      obtain ⟨r6, hf4, h4_⟩ := obind_some h4_
      obtain ⟨x7, hx5, h4_⟩ := olet_some h4_
      refine RunC.region_draw (Γ' := [⟨0, some (L2.map AV.f32)⟩]) 10 mixed 
        (TR.l (r := AV.agg [AV.i64 a0, AV.i64 a1, AV.oref 0 0 0 a3.length]) rfl rfl (LOp.loadAgg agg27 siz27 rfl rfl rfl rfl) <|
        (TR.l (r := AV.i64 v4) rfl rfl (LOp.move rfl rfl) <|
        (TR.l (r := AV.i64 a2) rfl rfl (LOp.move rfl rfl) <|
        (TR.d (r := AV.f32 r5) (fs := []) rfl rfl (TOp.callB (CallAs.func ent51 rfl rfl) (Bors.cons (Bor.agg (Bors.cons (Bor.pure rfl) (Bors.cons (Bor.pure rfl) (Bors.cons (Bor.own (f := AV.f32) (fun _ => rfl) rfl hl3) Bors.nil)))) (Bors.cons (Bor.pure rfl) (Bors.cons (Bor.pure rfl) Bors.nil))) rfl rfl (i_Matrix_at_ok a0 a1 L2 v4 a2 r5 hf3)) <|
        (TR.l (r := AV.agg [AV.i64 a0, AV.i64 a1, AV.oref 0 0 0 a3.length]) rfl rfl (LOp.loadAgg agg27 siz27 rfl rfl rfl rfl) <|
        (TR.l (r := AV.i64 a2) rfl rfl (LOp.move rfl rfl) <|
        (TR.l (r := AV.i64 a2) rfl rfl (LOp.move rfl rfl) <|
        (TR.d (r := AV.f32 r6) (fs := []) rfl rfl (TOp.callB (CallAs.func ent51 rfl rfl) (Bors.cons (Bor.agg (Bors.cons (Bor.pure rfl) (Bors.cons (Bor.pure rfl) (Bors.cons (Bor.own (f := AV.f32) (fun _ => rfl) rfl hl3) Bors.nil)))) (Bors.cons (Bor.pure rfl) (Bors.cons (Bor.pure rfl) Bors.nil))) rfl rfl (i_Matrix_at_ok a0 a1 L2 a2 a2 r6 hf4)) <|
        (TR.d (r := AV.f32 x7) (fs := []) rfl rfl (TOp.eqr (TOp.fop (.inr (.inr (.inr rfl))) rfl (OpF.tmp rfl) (OpF.tmp rfl)) (congrArg (AV.f .f32) hx5)) <|
        (TR.l (r := AV.f32 x7) rfl rfl (LOp.assign rfl rfl) <|
        TR.nil)))))))))) rfl (by kernel_rfl) rfl fills_nil rfl ?_
      iterate 10 refine ROps.dropS ?_
      refine ROps.drop0 ?_
      refine ROps.nil ?_
      refine RunC.wl (τ' := [(1, AV.i64 a2), (2, AV.ptr [AV.i64 a0, AV.i64 a1, AV.oref 0 0 0 a3.length]), (4, AV.i64 v4), (5, AV.f32 x7)]) (Γ' := [⟨0, some (L2.map AV.f32)⟩]) ⟨(ALe.refl _), (ALe.refl _), (ALe.refl _), (ALe.refl _), trivial⟩ ⟨⟨rfl, .inr rfl⟩, trivial⟩ ?_
      refine RunC.seq ?_
      obtain ⟨r8, hf6, h4_⟩ := obind_some h4_
      obtain ⟨hn7, h4_⟩ := need_some h4_
      refine RunC.regionW ?_
      refine ROps.l (r := AV.agg [AV.i64 a0, AV.i64 a1, AV.oref 0 0 0 a3.length]) rfl rfl rfl (LOp.loadAgg agg27 siz27 rfl rfl rfl rfl) ?_
      refine ROps.l (r := AV.i64 v4) rfl rfl rfl (LOp.move rfl rfl) ?_
      refine ROps.l (r := AV.i64 a2) rfl rfl rfl (LOp.move rfl rfl) ?_
      refine ROps.l (r := AV.f32 x7) rfl rfl rfl (LOp.move rfl rfl) ?_
      refine ROps.callO (A := [AV.agg [AV.i64 a0, AV.i64 a1, AV.oref 0 0 0 a3.length], AV.i64 v4, AV.i64 a2, AV.f32 x7]) (args := [AV.agg [AV.i64 a0, AV.i64 a1, AV.oref 0 0 0 L2.length], AV.i64 v4, AV.i64 a2, AV.f32 x7]) (Γc := [⟨0, some (L2.map AV.f32)⟩]) (Γc' := [⟨0, some (r8.map AV.f32)⟩]) (r' := AV.tup []) (Γ' := [⟨0, some (r8.map AV.f32)⟩]) [(0, 0)] [] rfl (CallAs.func ent60 rfl rfl) rfl rfl (SelOk.of (show List.Nodup [0] from by decide) (SelL.arr0 (f := AV.f32) (fun _ => rfl) rfl trivial)) (live_of ⟨⟨_, _, rfl⟩, trivial⟩) (by simp [AV.ren, AV.rens, sigma, rens_f32, rens_f64, rens_i64, rens_ik, rens_str, rens_cp, hl3]) rfl (i_Matrix_set_02o_ok a0 a1 v4 a2 x7 L2 r8 hf6) rfl (news_of trivial) (show List.Nodup [0] from by decide) (by simp [AV.ren, AV.rens, sigma, of_decide_eq_true hn7]) (by simp [backOb, sigma, AV.ren, AV.rens, rens_f32, rens_f64, rens_i64, rens_ik, rens_str, rens_cp]) ?_
      refine ROps.nil ?_
      refine RunC.seq ?_
      obtain ⟨x9, hx8, h4_⟩ := olet_some h4_
      refine RunC.regionW ?_
      refine ROps.l (r := AV.i64 a2) rfl rfl rfl (LOp.move rfl rfl) ?_
      refine ROps.l (r := AV.i64 x9) rfl rfl rfl (LOp.eqr (LOp.add rfl rfl rfl) (congrArg (AV.ik .i64) hx8)) ?_
      refine ROps.l (r := AV.i64 x9) rfl rfl rfl (LOp.assign rfl rfl) ?_
      refine ROps.nil ?_
      obtain ⟨z5, hz_5, h4_⟩ := obind_some h4_
      refine RunC.cutN (fun τ Γ => ∃ (L23 : List F), L23.length = a3.length ∧ WeakLe τ [(1, AV.i64 a2), (2, AV.ptr [AV.i64 a0, AV.i64 a1, AV.oref 0 0 0 a3.length]), (4, AV.i64 v4)] ∧ DeadLe Γ [⟨0, some (L23.map AV.f32)⟩] ∧ z5 = .inl L23) ?_ ?_
      · refine RunC.block (RunC.loop (RunL.loopM (x := z5) (i_Matrix_eliminate_02o_s2 a0 a1 a2 a3 v4 x7) (fun (s : (List F) × Int) τ Γ => s.1.length = a3.length ∧ WeakLe τ [(1, AV.i64 a2), (2, AV.ptr [AV.i64 a0, AV.i64 a1, AV.oref 0 0 0 a3.length]), (4, AV.i64 v4), (5, AV.f32 x7), (6, AV.i64 s.2)] ∧ DeadLe Γ [⟨0, some (s.1.map AV.f32)⟩]) ?_ _ _ _ hz_5 ⟨(of_decide_eq_true hn7), ⟨(ALe.refl _), (ALe.refl _), (ALe.refl _), (ALe.refl _), (ALe.refl _), trivial⟩, ⟨⟨rfl, .inr rfl⟩, trivial⟩⟩))
        rintro ⟨L10, v12⟩ τ5 Γ5 y5_ ⟨hl11, hw5, hd5⟩ h5_ ho5 hr5
        refine RunC.wl (τ' := [(1, AV.i64 a2), (2, AV.ptr [AV.i64 a0, AV.i64 a1, AV.oref 0 0 0 a3.length]), (4, AV.i64 v4), (5, AV.f32 x7), (6, AV.i64 v12)]) (Γ' := [⟨0, some (L10.map AV.f32)⟩]) hw5 hd5 ?_
        replace hl11 : L10.length = a3.length := hl11
        replace h5_ : i_Matrix_eliminate_02o_b2 a0 a1 a2 a3 v4 x7 L10 v12 = some y5_ := h5_
        unfold i_Matrix_eliminate_02o_b2 at h5_
        refine RunC.seq ?_
        refine RunC.seq ?_
        rcases bsel_some h5_ with ⟨hc9, h5_⟩ | ⟨hc9, h5_⟩
        · refine RunC.regionW ?_
          refine ROps.l (r := AV.i64 v12) rfl rfl rfl (LOp.move rfl rfl) ?_
          refine ROps.l (r := AV.ptr [AV.i64 a1, AV.oref 0 0 0 a3.length]) rfl rfl rfl (LOp.fap und27 rfl siz2 rfl rfl rfl) ?_
          refine ROps.l (r := AV.i64 a1) rfl rfl rfl (LOp.load1 agg2 rfl rfl) ?_
          refine ROps.l (r := AV.b true) rfl rfl rfl (LOp.eqb (LOp.lss rfl rfl rfl) hc9) ?_
          refine ROps.nil ?_
          refine RunC.cond_true rfl rfl ?_
          refine RunC.skip ?_
          refine RunC.seq ?_
          refine RunC.block ?_
          obtain ⟨r17, hf14, h5_⟩ := obind_some h5_
          obtain ⟨r18, hf15, h5_⟩ := obind_some h5_
          obtain ⟨r19, hf16, h5_⟩ := obind_some h5_
          obtain ⟨x20, hx17, h5_⟩ := olet_some h5_
          obtain ⟨r21, hf18, h5_⟩ := obind_some h5_
          obtain ⟨hn19, h5_⟩ := need_some h5_
          refine RunC.region_draw (Γ' := [⟨0, some (L10.map AV.f32)⟩]) 14 mixed 
            (TR.l (r := AV.agg [AV.i64 a0, AV.i64 a1, AV.oref 0 0 0 a3.length]) rfl rfl (LOp.loadAgg agg27 siz27 rfl rfl rfl rfl) <|
            (TR.l (r := AV.i64 v4) rfl rfl (LOp.move rfl rfl) <|
            (TR.l (r := AV.i64 v12) rfl rfl (LOp.move rfl rfl) <|
            (TR.l (r := AV.agg [AV.i64 a0, AV.i64 a1, AV.oref 0 0 0 a3.length]) rfl rfl (LOp.loadAgg agg27 siz27 rfl rfl rfl rfl) <|
            (TR.l (r := AV.i64 v4) rfl rfl (LOp.move rfl rfl) <|
            (TR.l (r := AV.i64 v12) rfl rfl (LOp.move rfl rfl) <|
            (TR.d (r := AV.f32 r17) (fs := []) rfl rfl (TOp.callB (CallAs.func ent51 rfl rfl) (Bors.cons (Bor.agg (Bors.cons (Bor.pure rfl) (Bors.cons (Bor.pure rfl) (Bors.cons (Bor.own (f := AV.f32) (fun _ => rfl) rfl hl11) Bors.nil)))) (Bors.cons (Bor.pure rfl) (Bors.cons (Bor.pure rfl) Bors.nil))) rfl rfl (i_Matrix_at_ok a0 a1 L10 v4 v12 r17 hf14)) <|
            (TR.l (r := AV.f32 x7) rfl rfl (LOp.move rfl rfl) <|
            (TR.l (r := AV.agg [AV.i64 a0, AV.i64 a1, AV.oref 0 0 0 a3.length]) rfl rfl (LOp.loadAgg agg27 siz27 rfl rfl rfl rfl) <|
            (TR.l (r := AV.i64 a2) rfl rfl (LOp.move rfl rfl) <|
            (TR.l (r := AV.i64 v12) rfl rfl (LOp.move rfl rfl) <|
            (TR.d (r := AV.f32 r18) (fs := []) rfl rfl (TOp.callB (CallAs.func ent51 rfl rfl) (Bors.cons (Bor.agg (Bors.cons (Bor.pure rfl) (Bors.cons (Bor.pure rfl) (Bors.cons (Bor.own (f := AV.f32) (fun _ => rfl) rfl hl11) Bors.nil)))) (Bors.cons (Bor.pure rfl) (Bors.cons (Bor.pure rfl) Bors.nil))) rfl rfl (i_Matrix_at_ok a0 a1 L10 a2 v12 r18 hf15)) <|
            (TR.d (r := AV.f32 r19) (fs := []) rfl rfl (TOp.callB (CallAs.func ent54 rfl rfl) (Bors.cons (Bor.pure rfl) (Bors.cons (Bor.pure rfl) Bors.nil)) rfl rfl (i_mul_ok x7 r18 r19 hf16)) <|
            (TR.d (r := AV.f32 x20) (fs := []) rfl rfl (TOp.eqr (TOp.fop (.inr (.inl rfl)) rfl (OpF.tmp rfl) (OpF.tmp rfl)) (congrArg (AV.f .f32) hx17)) <|
            TR.nil)))))))))))))) rfl (by kernel_rfl) rfl fills_nil rfl ?_
          iterate 14 refine ROps.dropS ?_
          refine ROps.drop0 ?_
          refine ROps.callO (A := [AV.agg [AV.i64 a0, AV.i64 a1, AV.oref 0 0 0 a3.length], AV.i64 v4, AV.i64 v12, AV.f32 x20]) (args := [AV.agg [AV.i64 a0, AV.i64 a1, AV.oref 0 0 0 L10.length], AV.i64 v4, AV.i64 v12, AV.f32 x20]) (Γc := [⟨0, some (L10.map AV.f32)⟩]) (Γc' := [⟨0, some (r21.map AV.f32)⟩]) (r' := AV.tup []) (Γ' := [⟨0, some (r21.map AV.f32)⟩]) [(0, 0)] [] rfl (CallAs.func ent60 rfl rfl) rfl rfl (SelOk.of (show List.Nodup [0] from by decide) (SelL.arr0 (f := AV.f32) (fun _ => rfl) rfl trivial)) (live_of ⟨⟨_, _, rfl⟩, trivial⟩) (by simp [AV.ren, AV.rens, sigma, rens_f32, rens_f64, rens_i64, rens_ik, rens_str, rens_cp, hl11]) rfl (i_Matrix_set_02o_ok a0 a1 v4 v12 x20 L10 r21 hf18) rfl (news_of trivial) (show List.Nodup [0] from by decide) (by simp [AV.ren, AV.rens, sigma, of_decide_eq_true hn19]) (by simp [backOb, sigma, AV.ren, AV.rens, rens_f32, rens_f64, rens_i64, rens_ik, rens_str, rens_cp]) ?_
          refine ROps.nil ?_
          refine RunC.wl (τ' := [(1, AV.i64 a2), (2, AV.ptr [AV.i64 a0, AV.i64 a1, AV.oref 0 0 0 a3.length]), (4, AV.i64 v4), (5, AV.f32 x7), (6, AV.i64 v12)]) (Γ' := [⟨0, some (r21.map AV.f32)⟩]) ⟨(ALe.refl _), (ALe.refl _), (ALe.refl _), (ALe.refl _), (ALe.refl _), trivial⟩ ⟨⟨rfl, .inr rfl⟩, trivial⟩ ?_
          obtain ⟨x22, hx20, h5_⟩ := olet_some h5_
          refine RunC.regionW ?_
          refine ROps.l (r := AV.i64 v12) rfl rfl rfl (LOp.move rfl rfl) ?_
          refine ROps.l (r := AV.i64 x22) rfl rfl rfl (LOp.eqr (LOp.add rfl rfl rfl) (congrArg (AV.ik .i64) hx20)) ?_
          refine ROps.l (r := AV.i64 x22) rfl rfl rfl (LOp.assign rfl rfl) ?_
          refine ROps.nil ?_
          cases Option.some.inj h5_
          exact ⟨_, rfl, (of_decide_eq_true hn19), ⟨(ALe.refl _), (ALe.refl _), (ALe.refl _), (ALe.refl _), (ALe.refl _), trivial⟩, ⟨⟨rfl, .inr rfl⟩, trivial⟩⟩
        · refine RunC.regionW ?_
          refine ROps.l (r := AV.i64 v12) rfl rfl rfl (LOp.move rfl rfl) ?_
          refine ROps.l (r := AV.ptr [AV.i64 a1, AV.oref 0 0 0 a3.length]) rfl rfl rfl (LOp.fap und27 rfl siz2 rfl rfl rfl) ?_
          refine ROps.l (r := AV.i64 a1) rfl rfl rfl (LOp.load1 agg2 rfl rfl) ?_
          refine ROps.l (r := AV.b false) rfl rfl rfl (LOp.eqb (LOp.lss rfl rfl rfl) hc9) ?_
          refine ROps.nil ?_
          refine RunC.cond_false rfl rfl ?_
          refine RunC.exit ?_
          cases Option.some.inj h5_
          have hx := ho5 _ rfl
          exact ⟨L10, hl11, ⟨(ALe.refl _), (ALe.refl _), (ALe.refl _), trivial⟩, ⟨⟨rfl, .inr rfl⟩, trivial⟩, hx⟩
      · rintro τ6 Γ6 ⟨L23, hl24, hw6, hd6, rfl⟩
        refine RunC.wl (τ' := [(1, AV.i64 a2), (2, AV.ptr [AV.i64 a0, AV.i64 a1, AV.oref 0 0 0 a3.length]), (4, AV.i64 v4)]) (Γ' := [⟨0, some (L23.map AV.f32)⟩]) hw6 hd6 ?_
        replace h4_ : i_Matrix_eliminate_02o_k2 v4 L23 = some y4_ := h4_
        unfold i_Matrix_eliminate_02o_k2 at h4_
        obtain ⟨x25, hx21, h4_⟩ := olet_some h4_
        refine RunC.regionW ?_
        refine ROps.l (r := AV.i64 v4) rfl rfl rfl (LOp.move rfl rfl) ?_
        refine ROps.l (r := AV.i64 x25) rfl rfl rfl (LOp.eqr (LOp.add rfl rfl rfl) (congrArg (AV.ik .i64) hx21)) ?_
        refine ROps.l (r := AV.i64 x25) rfl rfl rfl (LOp.assign rfl rfl) ?_
        refine ROps.nil ?_
        cases Option.some.inj h4_
        exact ⟨_, rfl, hl24, ⟨(ALe.refl _), (ALe.refl _), (ALe.refl _), trivial⟩, ⟨⟨rfl, .inr rfl⟩, trivial⟩⟩
    · refine RunC.regionW ?_
      refine ROps.l (r := AV.i64 v4) rfl rfl rfl (LOp.move rfl rfl) ?_
      refine ROps.l (r := AV.ptr [AV.i64 a0, AV.i64 a1, AV.oref 0 0 0 a3.length]) rfl rfl rfl (LOp.fap und27 rfl siz2 rfl rfl rfl) ?_
      refine ROps.l (r := AV.i64 a0) rfl rfl rfl (LOp.load1 agg2 rfl rfl) ?_
      refine ROps.l (r := AV.b false) rfl rfl rfl (LOp.eqb (LOp.lss rfl rfl rfl) hc2) ?_
      refine ROps.nil ?_
      refine RunC.cond_false rfl rfl ?_
      refine RunC.exit ?_
      cases Option.some.inj h4_
      have hx := ho4 _ rfl
      exact ⟨L2, hl3, trivial, ⟨⟨rfl, .inr rfl⟩, trivial⟩, hx⟩
  · rintro τ7 Γ7 ⟨L26, hl27, hw7, hd7, rfl⟩
    replace h : i_Matrix_eliminate_02o_k3 L26 = some q0 := h
    unfold i_Matrix_eliminate_02o_k3 at h
    refine bodyQ.wl hw7 hd7 ?_
    have hq := Option.some.inj h
    subst q0
    exact bodyQ.mk (r' := AV.tup []) [(0, 0)] (.inl rfl) rfl (show List.Nodup [0] from by decide) rfl rfl (Res.zero rfl) (SelL.arr (f := AV.f32) (fun _ => rfl) rfl trivial)
noncomputable def i_FactorBoth_k20 (v21 : Int) (v26 : Int) (v27 : Int) : Option (LR (Int × Int × Int) (Int × Int) (Int × Int × Int × Bool × (List F) × (List Int) × (List Int))) :=
  olet (IntKind.i64.wrap (v21 + 1)) fun (x31 : Int) =>
  some (LR.next (v26, v27, x31))
noncomputable def i_FactorBoth_b21 (a0 : Int) (r3 : Int) (r4 : Int) (L8 : List F) (v18 : Int) (v19 : Int) (v20 : Int) (v21 : Int) : Option (LR (Int × Int × Int) (Int × Int) (Int × Int × Int × Bool × (List F) × (List Int) × (List Int))) :=
  bsel (decide (v21 < a0)) (
    obind (i_Matrix_at r3 r4 L8 v18 v21) fun (r22 : F) =>
    obind (i_absolute r22) fun (r23 : F) =>
    obind (i_Matrix_at r3 r4 L8 v19 v20) fun (r24 : F) =>
    obind (i_absolute r24) fun (r25 : F) =>
    bsel (flt .f32 r25 r23) (
      i_FactorBoth_k20 v21 v18 v21) (
      i_FactorBoth_k20 v21 v19 v20)) (
    some (LR.out (v19, v20)))
noncomputable def i_FactorBoth_s21 (a0 : Int) (r3 : Int) (r4 : Int) (L8 : List F) (v18 : Int) : (Int × Int × Int) → Option (LR (Int × Int × Int) (Int × Int) (Int × Int × Int × Bool × (List F) × (List Int) × (List Int))) := fun s => i_FactorBoth_b21 a0 r3 r4 L8 v18 s.1 s.2.1 s.2.2
noncomputable def i_FactorBoth_k21 (v18 : Int) (v35 : Int) (v36 : Int) : Option (LR (Int × Int × Int) (Int × Int) (Int × Int × Int × Bool × (List F) × (List Int) × (List Int))) :=
  olet (IntKind.i64.wrap (v18 + 1)) fun (x37 : Int) =>
  some (LR.next (v35, v36, x37))
noncomputable def i_FactorBoth_b22 (a0 : Int) (r3 : Int) (r4 : Int) (L8 : List F) (v15 : Int) (v16 : Int) (v17 : Int) (v18 : Int) : Option (LR (Int × Int × Int) (Int × Int) (Int × Int × Int × Bool × (List F) × (List Int) × (List Int))) :=
  bsel (decide (v18 < a0)) (
    obind (loopM (i_FactorBoth_s21 a0 r3 r4 L8 v18) (v16, v17, v15)) fun z => osum z (fun e => i_FactorBoth_k21 v18 e.1 e.2) (fun r => some (LR.ret r))) (
    some (LR.out (v16, v17)))
noncomputable def i_FactorBoth_s22 (a0 : Int) (r3 : Int) (r4 : Int) (L8 : List F) (v15 : Int) : (Int × Int × Int) → Option (LR (Int × Int × Int) (Int × Int) (Int × Int × Int × Bool × (List F) × (List Int) × (List Int))) := fun s => i_FactorBoth_b22 a0 r3 r4 L8 v15 s.1 s.2.1 s.2.2
noncomputable def i_FactorBoth_k22 (a3 : F) (r3 : Int) (r4 : Int) (r5 : List F) (r6 : List Int) (r7 : List Int) (L8 : List F) (L10 : List Int) (L12 : List Int) (v14 : Int) (v15 : Int) (v41 : Int) (v42 : Int) : Option (LR ((List F) × (List Int) × (List Int) × Int × Int) ((List F) × (List Int) × (List Int) × Int) (Int × Int × Int × Bool × (List F) × (List Int) × (List Int))) :=
  obind (i_Matrix_at r3 r4 L8 v41 v42) fun (r43 : F) =>
  obind (i_absolute r43) fun (r44 : F) =>
  bsel (fle .f32 r44 a3) (
    some (LR.out (L8, L10, L12, v14))) (
    obind (i_Matrix_swapRows_02o r3 r4 v41 v15 L8) fun (r45 : List F) =>
    need (decide (r45.length = r5.length)) <|
    obind (i_swap_0o v41 v15 L10) fun (r46 : List Int) =>
    need (decide (r46.length = r6.length)) <|
    obind (i_Matrix_swapColumns_02o r3 r4 v42 v15 r45) fun (r47 : List F) =>
    need (decide (r47.length = r5.length)) <|
    obind (i_swap_0o v42 v15 L12) fun (r48 : List Int) =>
    need (decide (r48.length = r7.length)) <|
    obind (i_Matrix_eliminate_02o r3 r4 v15 r47) fun (r49 : List F) =>
    need (decide (r49.length = r5.length)) <|
    obind (i_ValidMatrix r3 r4 r49) fun (r50 : Bool) =>
    bsel r50 (
      olet (IntKind.i64.wrap (v14 + 1)) fun (x51 : Int) =>
      olet (IntKind.i64.wrap (v15 + 1)) fun (x52 : Int) =>
      some (LR.next (r49, r46, r48, x51, x52))) (
      some (LR.ret (0, 0, 0, false, ([] : List F), ([] : List Int), ([] : List Int)))))
noncomputable def i_FactorBoth_b23 (a0 : Int) (a3 : F) (r3 : Int) (r4 : Int) (r5 : List F) (r6 : List Int) (r7 : List Int) (L8 : List F) (L10 : List Int) (L12 : List Int) (v14 : Int) (v15 : Int) : Option (LR ((List F) × (List Int) × (List Int) × Int × Int) ((List F) × (List Int) × (List Int) × Int) (Int × Int × Int × Bool × (List F) × (List Int) × (List Int))) :=
  bsel (decide (v15 < a0)) (
    obind (loopM (i_FactorBoth_s22 a0 r3 r4 L8 v15) (v15, v15, v15)) fun z => osum z (fun e => i_FactorBoth_k22 a3 r3 r4 r5 r6 r7 L8 L10 L12 v14 v15 e.1 e.2) (fun r => some (LR.ret r))) (
    some (LR.out (L8, L10, L12, v14)))
noncomputable def i_FactorBoth_s23 (a0 : Int) (a3 : F) (r3 : Int) (r4 : Int) (r5 : List F) (r6 : List Int) (r7 : List Int) : ((List F) × (List Int) × (List Int) × Int × Int) → Option (LR ((List F) × (List Int) × (List Int) × Int × Int) ((List F) × (List Int) × (List Int) × Int) (Int × Int × Int × Bool × (List F) × (List Int) × (List Int))) := fun s => i_FactorBoth_b23 a0 a3 r3 r4 r5 r6 r7 s.1 s.2.1 s.2.2.1 s.2.2.2.1 s.2.2.2.2
noncomputable def i_FactorBoth_k23 (r3 : Int) (r4 : Int) (L53 : List F) (L55 : List Int) (L57 : List Int) (v59 : Int) : Option (Int × Int × Int × Bool × (List F) × (List Int) × (List Int)) :=
  some (r3, r4, v59, true, L53, L55, L57)
noncomputable def i_FactorBoth (a0 : Int) (a1 : Int) (a2 : List F) (a3 : F) : Option (Int × Int × Int × Bool × (List F) × (List Int) × (List Int)) :=
  obind (i_isSquare a0 a1 a2) fun (r1 : Bool) =>
  bsel r1 (
    obind (i_IsFinite a3) fun (r2 : Bool) =>
    bsel r2 (
      bsel (flt .f32 a3 (some 0)) (
        some (0, 0, 0, false, ([] : List F), ([] : List Int), ([] : List Int))) (
        obind3 (i_Matrix_clone a0 a1 a2) fun (r3 : Int) (r4 : Int) (r5 : List F) =>
        obind (i_ascending a0) fun (r6 : List Int) =>
        obind (i_ascending a0) fun (r7 : List Int) =>
        obind (loopM (i_FactorBoth_s23 a0 a3 r3 r4 r5 r6 r7) (r5, r6, r7, 0, 0)) fun z => osum z (fun e => i_FactorBoth_k23 r3 r4 e.1 e.2.1 e.2.2.1 e.2.2.2) (fun r => some r))) (
      some (0, 0, 0, false, ([] : List F), ([] : List Int), ([] : List Int)))) (
    some (0, 0, 0, false, ([] : List F), ([] : List Int), ([] : List Int)))
theorem i_FactorBoth_ok (a0 : Int) (a1 : Int) (a2 : List F) (a3 : F) (q0 : Int) (q1 : Int) (q2 : Int) (q3 : Bool) (q4 : List F) (q5 : List Int) (q6 : List Int) (h : i_FactorBoth a0 a1 a2 a3 = some (q0, q1, q2, q3, q4, q5, q6)) : Ev Try.prog 33 [AV.agg [AV.i64 a0, AV.i64 a1, AV.sl a2.length (a2.map AV.f32)], AV.f32 a3] [] (AV.tup [AV.agg [AV.i64 q0, AV.i64 q1, AV.oref 0 0 0 q4.length, AV.oref 1 0 0 q5.length], AV.oref 2 0 0 q6.length, AV.i64 q2, AV.b q3]) [⟨0, some (q4.map AV.f32)⟩, ⟨0, some (q5.map AV.i64)⟩, ⟨0, some (q6.map AV.i64)⟩] := by
  refine Ev.start Try.func33 rfl rfl 8 (τ := [(0, AV.agg [AV.i64 a0, AV.i64 a1, AV.sl a2.length (a2.map AV.f32)]), (1, AV.f32 a3)]) rfl (Γ' := [⟨0, none⟩, ⟨0, none⟩, ⟨0, none⟩, ⟨0, none⟩, ⟨0, none⟩, ⟨0, none⟩, ⟨0, none⟩, ⟨0, none⟩]) rfl (n := 114) rfl (g := 0) rfl ?_
  unfold i_FactorBoth at h
  refine RunC.seq ?_
  refine RunC.regionW ?_
  refine ROps.d (r := AV.ptr [AV.i64 a0, AV.i64 a1, AV.sl a2.length (a2.map AV.f32)]) (fs := []) (Γ' := [⟨0, none⟩, ⟨0, none⟩, ⟨0, none⟩, ⟨0, none⟩, ⟨0, none⟩, ⟨0, none⟩, ⟨0, none⟩, ⟨0, none⟩]) rfl rfl rfl (TOp.box_s rfl rfl rfl) rfl ?_
  refine ROps.d (r := AV.optr 0 1 0) (fs := [(0, [AV.i64 0, AV.i64 0, AV.nilsl, AV.nilsl])]) (Γ' := [⟨1, some [AV.i64 0, AV.i64 0, AV.nilsl, AV.nilsl]⟩, ⟨0, none⟩, ⟨0, none⟩, ⟨0, none⟩, ⟨0, none⟩, ⟨0, none⟩, ⟨0, none⟩, ⟨0, none⟩]) rfl rfl rfl (TOp.alloc_o (g := ⟨0, none⟩) 0 rfl zer48 zok48 rfl) rfl ?_
  refine ROps.l (r := AV.nilsl) rfl rfl rfl (LOp.assign rfl rfl) ?_
  refine ROps.l (r := AV.i64 0) rfl rfl rfl (LOp.assign rfl rfl) ?_
  refine ROps.l (r := AV.b false) rfl rfl rfl (LOp.assign rfl rfl) ?_
  refine ROps.nil ?_
  refine RunC.seq ?_
  refine RunC.seq ?_
  obtain ⟨r1, hf1, h⟩ := obind_some h
  rcases bsel_some h with ⟨hc2, h⟩ | ⟨hc2, h⟩
  · obtain ⟨r2, hf3, h⟩ := obind_some h
    rcases bsel_some h with ⟨hc4, h⟩ | ⟨hc4, h⟩
    · rcases bsel_some h with ⟨hc5, h⟩ | ⟨hc5, h⟩
      · refine RunC.regionW ?_
        refine ROps.l (r := AV.agg [AV.i64 a0, AV.i64 a1, AV.sl a2.length (a2.map AV.f32)]) rfl rfl rfl (LOp.loadAgg agg27 siz27 rfl rfl rfl rfl) ?_
        refine ROps.d (r := AV.b true) (fs := []) (Γ' := [⟨1, some [AV.i64 0, AV.i64 0, AV.nilsl, AV.nilsl]⟩, ⟨0, none⟩, ⟨0, none⟩, ⟨0, none⟩, ⟨0, none⟩, ⟨0, none⟩, ⟨0, none⟩, ⟨0, none⟩]) rfl rfl rfl (TOp.eqb (TOp.callB (CallAs.func ent59 rfl rfl) (Bors.cons (Bor.agg (Bors.cons (Bor.pure rfl) (Bors.cons (Bor.pure rfl) (Bors.cons (Bor.sl (fun _ => rfl)) Bors.nil)))) Bors.nil) rfl rfl (i_isSquare_ok a0 a1 a2 r1 hf1)) hc2) rfl ?_
        refine ROps.l (r := AV.b false) rfl rfl rfl (LOp.eqb (LOp.not rfl rfl) rfl) ?_
        refine ROps.l (r := AV.b false) rfl rfl rfl (LOp.move rfl rfl) ?_
        refine ROps.l (r := AV.f32 a3) rfl rfl rfl (LOp.move rfl rfl) ?_
        refine ROps.d (r := AV.b true) (fs := []) (Γ' := [⟨1, some [AV.i64 0, AV.i64 0, AV.nilsl, AV.nilsl]⟩, ⟨0, none⟩, ⟨0, none⟩, ⟨0, none⟩, ⟨0, none⟩, ⟨0, none⟩, ⟨0, none⟩, ⟨0, none⟩]) rfl rfl rfl (TOp.eqb (TOp.callB (CallAs.func ent46 rfl rfl) (Bors.cons (Bor.pure rfl) Bors.nil) rfl rfl (i_IsFinite_ok a3 r2 hf3)) hc4) rfl ?_
        refine ROps.l (r := AV.b false) rfl rfl rfl (LOp.eqb (LOp.not rfl rfl) rfl) ?_
        refine ROps.l (r := AV.b false) rfl rfl rfl (LOp.pick_false rfl rfl rfl) ?_
        refine ROps.l (r := AV.b false) rfl rfl rfl (LOp.move rfl rfl) ?_
        refine ROps.l (r := AV.f32 a3) rfl rfl rfl (LOp.move rfl rfl) ?_
        refine ROps.l (r := AV.b true) rfl rfl rfl (LOp.eqb (LOp.flt rfl (OpF.tmp rfl) (OpF.const rfl (by kernel_rfl) (by kernel_rfl))) hc5) ?_
        refine ROps.l (r := AV.b true) rfl rfl rfl (LOp.pick_false rfl rfl rfl) ?_
        refine ROps.nil ?_
        refine RunC.wl (τ' := [(1, AV.f32 a3), (2, AV.ptr [AV.i64 a0, AV.i64 a1, AV.sl a2.length (a2.map AV.f32)]), (4, AV.optr 0 1 0), (28, AV.b true)]) (Γ' := [⟨1, some [AV.i64 0, AV.i64 0, AV.nilsl, AV.nilsl]⟩, ⟨0, none⟩, ⟨0, none⟩, ⟨0, none⟩, ⟨0, none⟩, ⟨0, none⟩, ⟨0, none⟩, ⟨0, none⟩]) ⟨(ALe.refl _), (ALe.refl _), (ALe.refl _), (ALe.refl _), trivial⟩ ⟨⟨rfl, .inr rfl⟩, ⟨rfl, .inr rfl⟩, ⟨rfl, .inr rfl⟩, ⟨rfl, .inr rfl⟩, ⟨rfl, .inr rfl⟩, ⟨rfl, .inr rfl⟩, ⟨rfl, .inr rfl⟩, ⟨rfl, .inr rfl⟩, trivial⟩ ?_
        refine RunC.cond_true rfl rfl ?_
        refine RunC.seq ?_
        refine RunC.regionW ?_
        refine ROps.l (r := AV.agg [AV.i64 0, AV.i64 0, AV.nilsl, AV.nilsl]) rfl rfl rfl (LOp.build (qs := []) zer48 zok48 und48 plc48 rfl trivial rfl) ?_
        refine ROps.store_le (r := AV.agg [AV.i64 0, AV.i64 0, AV.nilsl, AV.nilsl]) (l' := [AV.i64 0, AV.i64 0, AV.nilsl, AV.nilsl]) (Γ' := [⟨1, some [AV.i64 0, AV.i64 0, AV.nilsl, AV.nilsl]⟩, ⟨0, none⟩, ⟨0, none⟩, ⟨0, none⟩, ⟨0, none⟩, ⟨0, none⟩, ⟨0, none⟩, ⟨0, none⟩]) rfl siz48 rfl rfl rfl (ALe.refl _) rfl rfl rfl rfl (Nat.le_of_ble_eq_true rfl) rfl rfl ?_
        refine ROps.l (r := AV.nilsl) rfl rfl rfl (LOp.assign rfl rfl) ?_
        refine ROps.l (r := AV.i64 0) rfl rfl rfl (LOp.assign rfl rfl) ?_
        refine ROps.l (r := AV.b false) rfl rfl rfl (LOp.assign rfl rfl) ?_
        refine ROps.nil ?_
        refine RunC.nil_cell (l' := [AV.i64 0, AV.i64 0, AV.oref 1 1 0 0, AV.nilsl]) (Γ' := [⟨1, some [AV.i64 0, AV.i64 0, AV.oref 1 1 0 0, AV.nilsl]⟩, ⟨1, some (([] : List F).map AV.f32)⟩, ⟨0, none⟩, ⟨0, none⟩, ⟨0, none⟩, ⟨0, none⟩, ⟨0, none⟩, ⟨0, none⟩]) 0 2 1 rfl rfl rfl rfl rfl ?_
        refine RunC.nil_cell (l' := [AV.i64 0, AV.i64 0, AV.oref 1 1 0 0, AV.oref 2 1 0 0]) (Γ' := [⟨1, some [AV.i64 0, AV.i64 0, AV.oref 1 1 0 0, AV.oref 2 1 0 0]⟩, ⟨1, some (([] : List F).map AV.f32)⟩, ⟨1, some (([] : List Int).map AV.i64)⟩, ⟨0, none⟩, ⟨0, none⟩, ⟨0, none⟩, ⟨0, none⟩, ⟨0, none⟩]) 0 3 2 rfl rfl rfl rfl rfl ?_
        refine RunC.nil_slot (Γ' := [⟨1, some [AV.i64 0, AV.i64 0, AV.oref 1 1 0 0, AV.oref 2 1 0 0]⟩, ⟨1, some (([] : List F).map AV.f32)⟩, ⟨1, some (([] : List Int).map AV.i64)⟩, ⟨1, some (([] : List Int).map AV.i64)⟩, ⟨0, none⟩, ⟨0, none⟩, ⟨0, none⟩, ⟨0, none⟩]) 5 3 rfl rfl rfl ?_
        refine RunC.ret ?_
        have hq := Option.some.inj h
        obtain ⟨hq0, hq⟩ := Prod.mk.inj hq
        obtain ⟨hq1, hq⟩ := Prod.mk.inj hq
        obtain ⟨hq2, hq⟩ := Prod.mk.inj hq
        obtain ⟨hq3, hq⟩ := Prod.mk.inj hq
        obtain ⟨hq4, hq⟩ := Prod.mk.inj hq
        obtain ⟨hq5, hq⟩ := Prod.mk.inj hq
        subst q0
        subst q1
        subst q2
        subst q3
        subst q4
        subst q5
        subst q6
        exact bodyQ.mk (r' := AV.tup [AV.agg [AV.i64 0, AV.i64 0, AV.oref 1 1 0 (([] : List F).length), AV.oref 2 1 0 (([] : List Int).length)], AV.oref 3 1 0 (([] : List Int).length), AV.i64 0, AV.b false]) [(1, 1), (2, 1), (3, 1)] (.inr rfl) rfl (show List.Nodup [1, 2, 3] from by decide) rfl rfl (Res.eq (Res.four rfl (RV.cell agg48 siz48 rfl rfl rfl rfl) (RV.tmp rfl) (RV.tmp rfl) (RV.tmp rfl)) (by rw [(show ([] : List F).length = 0 from rfl), (show ([] : List Int).length = 0 from rfl)] <;> rfl)) (SelL.arr0 (f := AV.f32) (fun _ => rfl) rfl (SelL.arr0 (f := AV.i64) (fun _ => rfl) rfl (SelL.arr0 (f := AV.i64) (fun _ => rfl) rfl trivial)))
      · refine RunC.regionW ?_
        refine ROps.l (r := AV.agg [AV.i64 a0, AV.i64 a1, AV.sl a2.length (a2.map AV.f32)]) rfl rfl rfl (LOp.loadAgg agg27 siz27 rfl rfl rfl rfl) ?_
        refine ROps.d (r := AV.b true) (fs := []) (Γ' := [⟨1, some [AV.i64 0, AV.i64 0, AV.nilsl, AV.nilsl]⟩, ⟨0, none⟩, ⟨0, none⟩, ⟨0, none⟩, ⟨0, none⟩, ⟨0, none⟩, ⟨0, none⟩, ⟨0, none⟩]) rfl rfl rfl (TOp.eqb (TOp.callB (CallAs.func ent59 rfl rfl) (Bors.cons (Bor.agg (Bors.cons (Bor.pure rfl) (Bors.cons (Bor.pure rfl) (Bors.cons (Bor.sl (fun _ => rfl)) Bors.nil)))) Bors.nil) rfl rfl (i_isSquare_ok a0 a1 a2 r1 hf1)) hc2) rfl ?_
        refine ROps.l (r := AV.b false) rfl rfl rfl (LOp.eqb (LOp.not rfl rfl) rfl) ?_
        refine ROps.l (r := AV.b false) rfl rfl rfl (LOp.move rfl rfl) ?_
        refine ROps.l (r := AV.f32 a3) rfl rfl rfl (LOp.move rfl rfl) ?_
        refine ROps.d (r := AV.b true) (fs := []) (Γ' := [⟨1, some [AV.i64 0, AV.i64 0, AV.nilsl, AV.nilsl]⟩, ⟨0, none⟩, ⟨0, none⟩, ⟨0, none⟩, ⟨0, none⟩, ⟨0, none⟩, ⟨0, none⟩, ⟨0, none⟩]) rfl rfl rfl (TOp.eqb (TOp.callB (CallAs.func ent46 rfl rfl) (Bors.cons (Bor.pure rfl) Bors.nil) rfl rfl (i_IsFinite_ok a3 r2 hf3)) hc4) rfl ?_
        refine ROps.l (r := AV.b false) rfl rfl rfl (LOp.eqb (LOp.not rfl rfl) rfl) ?_
        refine ROps.l (r := AV.b false) rfl rfl rfl (LOp.pick_false rfl rfl rfl) ?_
        refine ROps.l (r := AV.b false) rfl rfl rfl (LOp.move rfl rfl) ?_
        refine ROps.l (r := AV.f32 a3) rfl rfl rfl (LOp.move rfl rfl) ?_
        refine ROps.l (r := AV.b false) rfl rfl rfl (LOp.eqb (LOp.flt rfl (OpF.tmp rfl) (OpF.const rfl (by kernel_rfl) (by kernel_rfl))) hc5) ?_
        refine ROps.l (r := AV.b false) rfl rfl rfl (LOp.pick_false rfl rfl rfl) ?_
        refine ROps.nil ?_
        refine RunC.wl (τ' := [(1, AV.f32 a3), (2, AV.ptr [AV.i64 a0, AV.i64 a1, AV.sl a2.length (a2.map AV.f32)]), (4, AV.optr 0 1 0), (28, AV.b false)]) (Γ' := [⟨1, some [AV.i64 0, AV.i64 0, AV.nilsl, AV.nilsl]⟩, ⟨0, none⟩, ⟨0, none⟩, ⟨0, none⟩, ⟨0, none⟩, ⟨0, none⟩, ⟨0, none⟩, ⟨0, none⟩]) ⟨(ALe.refl _), (ALe.refl _), (ALe.refl _), (ALe.refl _), trivial⟩ ⟨⟨rfl, .inr rfl⟩, ⟨rfl, .inr rfl⟩, ⟨rfl, .inr rfl⟩, ⟨rfl, .inr rfl⟩, ⟨rfl, .inr rfl⟩, ⟨rfl, .inr rfl⟩, ⟨rfl, .inr rfl⟩, ⟨rfl, .inr rfl⟩, trivial⟩ ?_
        refine RunC.cond_false rfl rfl ?_
        refine RunC.skip ?_
        refine RunC.seq ?_
        refine RunC.regionW ?_
        refine ROps.l (r := AV.ptr [AV.i64 a0, AV.i64 a1, AV.sl a2.length (a2.map AV.f32)]) rfl rfl rfl (LOp.fap und27 rfl siz2 rfl rfl rfl) ?_
        refine ROps.l (r := AV.i64 a0) rfl rfl rfl (LOp.load1 agg2 rfl rfl) ?_
        refine ROps.l (r := AV.i64 a0) rfl rfl rfl (LOp.assign rfl rfl) ?_
        refine ROps.nil ?_
        refine RunC.seq ?_
        obtain ⟨r3, r4, r5, hf6, h⟩ := obind3_some h
        obtain ⟨r6, hf7, h⟩ := obind_some h
        obtain ⟨r7, hf8, h⟩ := obind_some h
        refine RunC.regionW ?_
        refine ROps.l (r := AV.agg [AV.i64 a0, AV.i64 a1, AV.sl a2.length (a2.map AV.f32)]) rfl rfl rfl (LOp.loadAgg agg27 siz27 rfl rfl rfl rfl) ?_
        refine ROps.d (r := AV.agg [AV.i64 r3, AV.i64 r4, AV.oref 1 1 0 r5.length]) (fs := [(1, (r5.map AV.f32))]) (Γ' := [⟨1, some [AV.i64 0, AV.i64 0, AV.nilsl, AV.nilsl]⟩, ⟨1, some (r5.map AV.f32)⟩, ⟨0, none⟩, ⟨0, none⟩, ⟨0, none⟩, ⟨0, none⟩, ⟨0, none⟩, ⟨0, none⟩]) rfl rfl rfl (TOp.callBN (ls := [(r5.map AV.f32)]) [1] (CallAs.func ent48 rfl rfl) (Bors.cons (Bor.agg (Bors.cons (Bor.pure rfl) (Bors.cons (Bor.pure rfl) (Bors.cons (Bor.sl (fun _ => rfl)) Bors.nil)))) Bors.nil) rfl (i_Matrix_clone_ok a0 a1 a2 r3 r4 r5 hf6) (and_all (lts0_map (f := AV.f32) (fun _ => rfl) _) rfl) (and_all (noss_map (f := AV.f32) (fun _ => rfl) _) rfl) rfl (by decide) (ns_of ⟨⟨_, rfl⟩, trivial⟩)) rfl ?_
        refine ROps.l (r := AV.i64 a0) rfl rfl rfl (LOp.move rfl rfl) ?_
        refine ROps.d (r := AV.oref 2 1 0 r6.length) (fs := [(2, (r6.map AV.i64))]) (Γ' := [⟨1, some [AV.i64 0, AV.i64 0, AV.nilsl, AV.nilsl]⟩, ⟨1, some (r5.map AV.f32)⟩, ⟨1, some (r6.map AV.i64)⟩, ⟨0, none⟩, ⟨0, none⟩, ⟨0, none⟩, ⟨0, none⟩, ⟨0, none⟩]) rfl rfl rfl (TOp.callBN (ls := [(r6.map AV.i64)]) [2] (CallAs.func ent73 rfl rfl) (Bors.cons (Bor.pure rfl) Bors.nil) rfl (i_ascending_ok a0 r6 hf7) (and_all (lts0_map (f := AV.i64) (fun _ => rfl) _) rfl) (and_all (noss_map (f := AV.i64) (fun _ => rfl) _) rfl) rfl (by decide) (ns_of ⟨⟨_, rfl⟩, trivial⟩)) rfl ?_
        refine ROps.l (r := AV.agg [AV.i64 r3, AV.i64 r4, AV.oref 1 1 0 r5.length, AV.oref 2 1 0 r6.length]) rfl rfl rfl (LOp.build (qs := [(0, [AV.i64 r3, AV.i64 r4, AV.oref 1 1 0 r5.length]), (1, [AV.oref 2 1 0 r6.length])]) zer48 zok48 und48 plc48 rfl ⟨rfl, ⟨_, ALe.refl _, rfl⟩, ⟨rfl, ⟨_, ALe.refl _, rfl⟩, trivial⟩⟩ rfl) ?_
        refine ROps.l (r := AV.i64 a0) rfl rfl rfl (LOp.move rfl rfl) ?_
        refine ROps.d (r := AV.oref 3 1 0 r7.length) (fs := [(3, (r7.map AV.i64))]) (Γ' := [⟨1, some [AV.i64 0, AV.i64 0, AV.nilsl, AV.nilsl]⟩, ⟨1, some (r5.map AV.f32)⟩, ⟨1, some (r6.map AV.i64)⟩, ⟨1, some (r7.map AV.i64)⟩, ⟨0, none⟩, ⟨0, none⟩, ⟨0, none⟩, ⟨0, none⟩]) rfl rfl rfl (TOp.callBN (ls := [(r7.map AV.i64)]) [3] (CallAs.func ent73 rfl rfl) (Bors.cons (Bor.pure rfl) Bors.nil) rfl (i_ascending_ok a0 r7 hf8) (and_all (lts0_map (f := AV.i64) (fun _ => rfl) _) rfl) (and_all (noss_map (f := AV.i64) (fun _ => rfl) _) rfl) rfl (by decide) (ns_of ⟨⟨_, rfl⟩, trivial⟩)) rfl ?_
        refine ROps.d (r := AV.optr 4 1 0) (fs := [(4, [AV.i64 0, AV.i64 0, AV.nilsl, AV.nilsl])]) (Γ' := [⟨1, some [AV.i64 0, AV.i64 0, AV.nilsl, AV.nilsl]⟩, ⟨1, some (r5.map AV.f32)⟩, ⟨1, some (r6.map AV.i64)⟩, ⟨1, some (r7.map AV.i64)⟩, ⟨1, some [AV.i64 0, AV.i64 0, AV.nilsl, AV.nilsl]⟩, ⟨0, none⟩, ⟨0, none⟩, ⟨0, none⟩]) rfl rfl rfl (TOp.alloc_o (g := ⟨0, none⟩) 4 rfl zer48 zok48 rfl) rfl ?_
        refine ROps.store_le (r := AV.agg [AV.i64 r3, AV.i64 r4, AV.oref 1 1 0 r5.length, AV.oref 2 1 0 r6.length]) (l' := [AV.i64 r3, AV.i64 r4, AV.oref 1 1 0 r5.length, AV.oref 2 1 0 r6.length]) (Γ' := [⟨1, some [AV.i64 0, AV.i64 0, AV.nilsl, AV.nilsl]⟩, ⟨1, some (r5.map AV.f32)⟩, ⟨1, some (r6.map AV.i64)⟩, ⟨1, some (r7.map AV.i64)⟩, ⟨1, some [AV.i64 r3, AV.i64 r4, AV.oref 1 1 0 r5.length, AV.oref 2 1 0 r6.length]⟩, ⟨0, none⟩, ⟨0, none⟩, ⟨0, none⟩]) rfl siz48 rfl rfl rfl (ALe.refl _) rfl rfl rfl rfl (Nat.le_of_ble_eq_true rfl) rfl rfl ?_
        refine ROps.l (r := AV.oref 3 1 0 r7.length) rfl rfl rfl (LOp.assign rfl rfl) ?_
        refine ROps.nil ?_
        refine RunC.seq ?_
        refine RunC.regionW ?_
        refine ROps.l (r := AV.i64 0) rfl rfl rfl (LOp.assign rfl rfl) ?_
        refine ROps.nil ?_
        refine RunC.seq ?_
        refine RunC.seq ?_
        refine RunC.regionW ?_
        refine ROps.l (r := AV.i64 a0) rfl rfl rfl (LOp.move rfl rfl) ?_
        refine ROps.l (r := AV.i64 0) rfl rfl rfl (LOp.move rfl rfl) ?_
        refine ROps.nil ?_
        obtain ⟨z24, hz_24, h⟩ := obind_some h
        refine RunC.cutN (fun τ Γ => ∃ (L53 : List F) (L55 : List Int) (L57 : List Int) (v59 : Int), L53.length = r5.length ∧ L55.length = r6.length ∧ L57.length = r7.length ∧ WeakLe τ [(4, AV.optr 0 1 0), (9, AV.optr 4 1 0), (10, AV.oref 3 1 0 r7.length), (11, AV.i64 v59)] ∧ DeadLe Γ [⟨1, some [AV.i64 0, AV.i64 0, AV.nilsl, AV.nilsl]⟩, ⟨1, some (L53.map AV.f32)⟩, ⟨1, some (L55.map AV.i64)⟩, ⟨1, some (L57.map AV.i64)⟩, ⟨1, some [AV.i64 r3, AV.i64 r4, AV.oref 1 1 0 r5.length, AV.oref 2 1 0 r6.length]⟩, ⟨0, none⟩, ⟨0, none⟩, ⟨0, none⟩] ∧ z24 = .inl (L53, L55, L57, v59)) ?_ ?_
        · refine RunC.block (RunC.loop (RunL.loopM (x := z24) (i_FactorBoth_s23 a0 a3 r3 r4 r5 r6 r7) (fun (s : (List F) × (List Int) × (List Int) × Int × Int) τ Γ => s.1.length = r5.length ∧ s.2.1.length = r6.length ∧ s.2.2.1.length = r7.length ∧ WeakLe τ [(1, AV.f32 a3), (4, AV.optr 0 1 0), (8, AV.i64 a0), (9, AV.optr 4 1 0), (10, AV.oref 3 1 0 r7.length), (11, AV.i64 s.2.2.2.1), (39, AV.i64 a0), (40, AV.i64 s.2.2.2.2)] ∧ DeadLe Γ [⟨1, some [AV.i64 0, AV.i64 0, AV.nilsl, AV.nilsl]⟩, ⟨1, some (s.1.map AV.f32)⟩, ⟨1, some (s.2.1.map AV.i64)⟩, ⟨1, some (s.2.2.1.map AV.i64)⟩, ⟨1, some [AV.i64 r3, AV.i64 r4, AV.oref 1 1 0 r5.length, AV.oref 2 1 0 r6.length]⟩, ⟨0, none⟩, ⟨0, none⟩, ⟨0, none⟩]) ?_ _ _ _ hz_24 ⟨rfl, rfl, rfl, ⟨(ALe.refl _), (ALe.refl _), (ALe.refl _), (ALe.refl _), (ALe.refl _), (ALe.refl _), (ALe.refl _), (ALe.refl _), trivial⟩, ⟨⟨rfl, .inr rfl⟩, ⟨rfl, .inr rfl⟩, ⟨rfl, .inr rfl⟩, ⟨rfl, .inr rfl⟩, ⟨rfl, .inr rfl⟩, ⟨rfl, .inr rfl⟩, ⟨rfl, .inr rfl⟩, ⟨rfl, .inr rfl⟩, trivial⟩⟩))
          rintro ⟨L8, L10, L12, v14, v15⟩ τ24 Γ24 y24_ ⟨hl9, hl11, hl13, hw24, hd24⟩ h24_ ho24 hr24
          refine RunC.wl (τ' := [(1, AV.f32 a3), (4, AV.optr 0 1 0), (8, AV.i64 a0), (9, AV.optr 4 1 0), (10, AV.oref 3 1 0 r7.length), (11, AV.i64 v14), (39, AV.i64 a0), (40, AV.i64 v15)]) (Γ' := [⟨1, some [AV.i64 0, AV.i64 0, AV.nilsl, AV.nilsl]⟩, ⟨1, some (L8.map AV.f32)⟩, ⟨1, some (L10.map AV.i64)⟩, ⟨1, some (L12.map AV.i64)⟩, ⟨1, some [AV.i64 r3, AV.i64 r4, AV.oref 1 1 0 r5.length, AV.oref 2 1 0 r6.length]⟩, ⟨0, none⟩, ⟨0, none⟩, ⟨0, none⟩]) hw24 hd24 ?_
          replace hl9 : L8.length = r5.length := hl9
          replace hl11 : L10.length = r6.length := hl11
          replace hl13 : L12.length = r7.length := hl13
          replace h24_ : i_FactorBoth_b23 a0 a3 r3 r4 r5 r6 r7 L8 L10 L12 v14 v15 = some y24_ := h24_
          unfold i_FactorBoth_b23 at h24_
          refine RunC.seq ?_
          rcases bsel_some h24_ with ⟨hc9, h24_⟩ | ⟨hc9, h24_⟩
          · refine RunC.regionW ?_
            refine ROps.l (r := AV.b true) rfl rfl rfl (LOp.eqb (LOp.lss rfl rfl rfl) hc9) ?_
            refine ROps.nil ?_
            refine RunC.seq ?_
            refine RunC.cond_true rfl rfl ?_
            refine RunC.skip ?_
            refine RunC.seq ?_
            refine RunC.block ?_
            refine RunC.seq ?_
            refine RunC.regionW ?_
            refine ROps.l (r := AV.i64 v15) rfl rfl rfl (LOp.move rfl rfl) ?_
            refine ROps.l (r := AV.i64 v15) rfl rfl rfl (LOp.assign rfl rfl) ?_
            refine ROps.nil ?_
            refine RunC.seq ?_
            refine RunC.regionW ?_
            refine ROps.l (r := AV.i64 v15) rfl rfl rfl (LOp.move rfl rfl) ?_
            refine ROps.l (r := AV.i64 v15) rfl rfl rfl (LOp.move rfl rfl) ?_
            refine ROps.l (r := AV.i64 v15) rfl rfl rfl (LOp.assign rfl rfl) ?_
            refine ROps.l (r := AV.i64 v15) rfl rfl rfl (LOp.assign rfl rfl) ?_
            refine ROps.nil ?_
            refine RunC.seq ?_
            refine RunC.seq ?_
            refine RunC.regionW ?_
            refine ROps.l (r := AV.i64 v15) rfl rfl rfl (LOp.move rfl rfl) ?_
            refine ROps.l (r := AV.i64 v15) rfl rfl rfl (LOp.assign rfl rfl) ?_
            refine ROps.nil ?_
            obtain ⟨z25, hz_25, h24_⟩ := obind_some h24_
            refine RunC.cutN (fun τ Γ => ∃ (v41 : Int) (v42 : Int), L8.length = r5.length ∧ L10.length = r6.length ∧ L12.length = r7.length ∧ WeakLe τ [(1, AV.f32 a3), (4, AV.optr 0 1 0), (8, AV.i64 a0), (9, AV.optr 4 1 0), (10, AV.oref 3 1 0 r7.length), (11, AV.i64 v14), (12, AV.i64 v15), (13, AV.i64 v41), (14, AV.i64 v42), (39, AV.i64 a0), (40, AV.i64 v15)] ∧ DeadLe Γ [⟨1, some [AV.i64 0, AV.i64 0, AV.nilsl, AV.nilsl]⟩, ⟨1, some (L8.map AV.f32)⟩, ⟨1, some (L10.map AV.i64)⟩, ⟨1, some (L12.map AV.i64)⟩, ⟨1, some [AV.i64 r3, AV.i64 r4, AV.oref 1 1 0 r5.length, AV.oref 2 1 0 r6.length]⟩, ⟨0, none⟩, ⟨0, none⟩, ⟨0, none⟩] ∧ z25 = .inl (v41, v42)) ?_ ?_
            · refine RunC.block (RunC.loop (RunL.loopM (x := z25) (i_FactorBoth_s22 a0 r3 r4 L8 v15) (fun (s : Int × Int × Int) τ Γ => WeakLe τ [(1, AV.f32 a3), (4, AV.optr 0 1 0), (8, AV.i64 a0), (9, AV.optr 4 1 0), (10, AV.oref 3 1 0 r7.length), (11, AV.i64 v14), (12, AV.i64 v15), (13, AV.i64 s.1), (14, AV.i64 s.2.1), (15, AV.i64 s.2.2), (39, AV.i64 a0), (40, AV.i64 v15)] ∧ DeadLe Γ [⟨1, some [AV.i64 0, AV.i64 0, AV.nilsl, AV.nilsl]⟩, ⟨1, some (L8.map AV.f32)⟩, ⟨1, some (L10.map AV.i64)⟩, ⟨1, some (L12.map AV.i64)⟩, ⟨1, some [AV.i64 r3, AV.i64 r4, AV.oref 1 1 0 r5.length, AV.oref 2 1 0 r6.length]⟩, ⟨0, none⟩, ⟨0, none⟩, ⟨0, none⟩]) ?_ _ _ _ hz_25 ⟨⟨(ALe.refl _), (ALe.refl _), (ALe.refl _), (ALe.refl _), (ALe.refl _), (ALe.refl _), (ALe.refl _), (ALe.refl _), (ALe.refl _), (ALe.refl _), (ALe.refl _), (ALe.refl _), trivial⟩, ⟨⟨rfl, .inr rfl⟩, ⟨rfl, .inr rfl⟩, ⟨rfl, .inr rfl⟩, ⟨rfl, .inr rfl⟩, ⟨rfl, .inr rfl⟩, ⟨rfl, .inr rfl⟩, ⟨rfl, .inr rfl⟩, ⟨rfl, .inr rfl⟩, trivial⟩⟩))
              rintro ⟨v16, v17, v18⟩ τ25 Γ25 y25_ ⟨hw25, hd25⟩ h25_ ho25 hr25
              refine RunC.wl (τ' := [(1, AV.f32 a3), (4, AV.optr 0 1 0), (8, AV.i64 a0), (9, AV.optr 4 1 0), (10, AV.oref 3 1 0 r7.length), (11, AV.i64 v14), (12, AV.i64 v15), (13, AV.i64 v16), (14, AV.i64 v17), (15, AV.i64 v18), (39, AV.i64 a0), (40, AV.i64 v15)]) (Γ' := [⟨1, some [AV.i64 0, AV.i64 0, AV.nilsl, AV.nilsl]⟩, ⟨1, some (L8.map AV.f32)⟩, ⟨1, some (L10.map AV.i64)⟩, ⟨1, some (L12.map AV.i64)⟩, ⟨1, some [AV.i64 r3, AV.i64 r4, AV.oref 1 1 0 r5.length, AV.oref 2 1 0 r6.length]⟩, ⟨0, none⟩, ⟨0, none⟩, ⟨0, none⟩]) hw25 hd25 ?_
              replace h25_ : i_FactorBoth_b22 a0 r3 r4 L8 v15 v16 v17 v18 = some y25_ := h25_
              unfold i_FactorBoth_b22 at h25_
              refine RunC.seq ?_
              refine RunC.seq ?_
              rcases bsel_some h25_ with ⟨hc10, h25_⟩ | ⟨hc10, h25_⟩
              · refine RunC.regionW ?_
                refine ROps.l (r := AV.i64 v18) rfl rfl rfl (LOp.move rfl rfl) ?_
                refine ROps.l (r := AV.i64 a0) rfl rfl rfl (LOp.move rfl rfl) ?_
                refine ROps.l (r := AV.b true) rfl rfl rfl (LOp.eqb (LOp.lss rfl rfl rfl) hc10) ?_
                refine ROps.nil ?_
                refine RunC.cond_true rfl rfl ?_
                refine RunC.skip ?_
                refine RunC.seq ?_
                refine RunC.block ?_
                refine RunC.seq ?_
                refine RunC.regionW ?_
                refine ROps.l (r := AV.i64 v15) rfl rfl rfl (LOp.move rfl rfl) ?_
                refine ROps.l (r := AV.i64 v15) rfl rfl rfl (LOp.assign rfl rfl) ?_
                refine ROps.nil ?_
                obtain ⟨z26, hz_26, h25_⟩ := obind_some h25_
                refine RunC.cutN (fun τ Γ => ∃ (v35 : Int) (v36 : Int), L8.length = r5.length ∧ L10.length = r6.length ∧ L12.length = r7.length ∧ WeakLe τ [(1, AV.f32 a3), (4, AV.optr 0 1 0), (8, AV.i64 a0), (9, AV.optr 4 1 0), (10, AV.oref 3 1 0 r7.length), (11, AV.i64 v14), (12, AV.i64 v15), (13, AV.i64 v35), (14, AV.i64 v36), (15, AV.i64 v18), (39, AV.i64 a0), (40, AV.i64 v15)] ∧ DeadLe Γ [⟨1, some [AV.i64 0, AV.i64 0, AV.nilsl, AV.nilsl]⟩, ⟨1, some (L8.map AV.f32)⟩, ⟨1, some (L10.map AV.i64)⟩, ⟨1, some (L12.map AV.i64)⟩, ⟨1, some [AV.i64 r3, AV.i64 r4, AV.oref 1 1 0 r5.length, AV.oref 2 1 0 r6.length]⟩, ⟨0, none⟩, ⟨0, none⟩, ⟨0, none⟩] ∧ z26 = .inl (v35, v36)) ?_ ?_
                · refine RunC.block (RunC.loop (RunL.loopM (x := z26) (i_FactorBoth_s21 a0 r3 r4 L8 v18) (fun (s : Int × Int × Int) τ Γ => WeakLe τ [(1, AV.f32 a3), (4, AV.optr 0 1 0), (8, AV.i64 a0), (9, AV.optr 4 1 0), (10, AV.oref 3 1 0 r7.length), (11, AV.i64 v14), (12, AV.i64 v15), (13, AV.i64 s.1), (14, AV.i64 s.2.1), (15, AV.i64 v18), (16, AV.i64 s.2.2), (39, AV.i64 a0), (40, AV.i64 v15)] ∧ DeadLe Γ [⟨1, some [AV.i64 0, AV.i64 0, AV.nilsl, AV.nilsl]⟩, ⟨1, some (L8.map AV.f32)⟩, ⟨1, some (L10.map AV.i64)⟩, ⟨1, some (L12.map AV.i64)⟩, ⟨1, some [AV.i64 r3, AV.i64 r4, AV.oref 1 1 0 r5.length, AV.oref 2 1 0 r6.length]⟩, ⟨0, none⟩, ⟨0, none⟩, ⟨0, none⟩]) ?_ _ _ _ hz_26 ⟨⟨(ALe.refl _), (ALe.refl _), (ALe.refl _), (ALe.refl _), (ALe.refl _), (ALe.refl _), (ALe.refl _), (ALe.refl _), (ALe.refl _), (ALe.refl _), (ALe.refl _), (ALe.refl _), (ALe.refl _), trivial⟩, ⟨⟨rfl, .inr rfl⟩, ⟨rfl, .inr rfl⟩, ⟨rfl, .inr rfl⟩, ⟨rfl, .inr rfl⟩, ⟨rfl, .inr rfl⟩, ⟨rfl, .inr rfl⟩, ⟨rfl, .inr rfl⟩, ⟨rfl, .inr rfl⟩, trivial⟩⟩))
                  rintro ⟨v19, v20, v21⟩ τ26 Γ26 y26_ ⟨hw26, hd26⟩ h26_ ho26 hr26
                  refine RunC.wl (τ' := [(1, AV.f32 a3), (4, AV.optr 0 1 0), (8, AV.i64 a0), (9, AV.optr 4 1 0), (10, AV.oref 3 1 0 r7.length), (11, AV.i64 v14), (12, AV.i64 v15), (13, AV.i64 v19), (14, AV.i64 v20), (15, AV.i64 v18), (16, AV.i64 v21), (39, AV.i64 a0), (40, AV.i64 v15)]) (Γ' := [⟨1, some [AV.i64 0, AV.i64 0, AV.nilsl, AV.nilsl]⟩, ⟨1, some (L8.map AV.f32)⟩, ⟨1, some (L10.map AV.i64)⟩, ⟨1, some (L12.map AV.i64)⟩, ⟨1, some [AV.i64 r3, AV.i64 r4, AV.oref 1 1 0 r5.length, AV.oref 2 1 0 r6.length]⟩, ⟨0, none⟩, ⟨0, none⟩, ⟨0, none⟩]) hw26 hd26 ?_
                  replace h26_ : i_FactorBoth_b21 a0 r3 r4 L8 v18 v19 v20 v21 = some y26_ := h26_
                  unfold i_FactorBoth_b21 at h26_
                  refine RunC.seq ?_
                  refine RunC.seq ?_
                  rcases bsel_some h26_ with ⟨hc11, h26_⟩ | ⟨hc11, h26_⟩
                  · refine RunC.regionW ?_
                    refine ROps.l (r := AV.i64 v21) rfl rfl rfl (LOp.move rfl rfl) ?_
                    refine ROps.l (r := AV.i64 a0) rfl rfl rfl (LOp.move rfl rfl) ?_
                    refine ROps.l (r := AV.b true) rfl rfl rfl (LOp.eqb (LOp.lss rfl rfl rfl) hc11) ?_
                    refine ROps.nil ?_
                    refine RunC.cond_true rfl rfl ?_
                    refine RunC.skip ?_
                    refine RunC.seq ?_
                    refine RunC.cutN (fun τ Γ => ∃ (v26 : Int) (v27 : Int), L8.length = r5.length ∧ L10.length = r6.length ∧ L12.length = r7.length ∧ WeakLe τ [(1, AV.f32 a3), (4, AV.optr 0 1 0), (8, AV.i64 a0), (9, AV.optr 4 1 0), (10, AV.oref 3 1 0 r7.length), (11, AV.i64 v14), (12, AV.i64 v15), (13, AV.i64 v26), (14, AV.i64 v27), (15, AV.i64 v18), (16, AV.i64 v21), (39, AV.i64 a0), (40, AV.i64 v15)] ∧ DeadLe Γ [⟨1, some [AV.i64 0, AV.i64 0, AV.nilsl, AV.nilsl]⟩, ⟨1, some (L8.map AV.f32)⟩, ⟨1, some (L10.map AV.i64)⟩, ⟨1, some (L12.map AV.i64)⟩, ⟨1, some [AV.i64 r3, AV.i64 r4, AV.oref 1 1 0 r5.length, AV.oref 2 1 0 r6.length]⟩, ⟨0, none⟩, ⟨0, none⟩, ⟨0, none⟩] ∧ i_FactorBoth_k20 v21 v26 v27 = some y26_) ?_ ?_
                    · refine RunC.block ?_
                      refine RunC.seq ?_
                      obtain ⟨r22, hf12, h26_⟩ := obind_some h26_
                      obtain ⟨r23, hf13, h26_⟩ := obind_some h26_
                      obtain ⟨r24, hf14, h26_⟩ := obind_some h26_
                      obtain ⟨r25, hf15, h26_⟩ := obind_some h26_
                      rcases bsel_some h26_ with ⟨hc16, h26_⟩ | ⟨hc16, h26_⟩
                      · refine RunC.region_draw (Γ' := [⟨1, some [AV.i64 0, AV.i64 0, AV.nilsl, AV.nilsl]⟩, ⟨1, some (L8.map AV.f32)⟩, ⟨1, some (L10.map AV.i64)⟩, ⟨1, some (L12.map AV.i64)⟩, ⟨1, some [AV.i64 r3, AV.i64 r4, AV.oref 1 1 0 r5.length, AV.oref 2 1 0 r6.length]⟩, ⟨0, none⟩, ⟨0, none⟩, ⟨0, none⟩]) 13 mixed 
                          (TR.l (r := AV.optr 4 1 0) rfl rfl (LOp.fao und48 rfl siz27 rfl rfl rfl) <|
                          (TR.d (r := AV.agg [AV.i64 r3, AV.i64 r4, AV.oref 1 1 0 r5.length]) (fs := []) rfl rfl (TOp.loadAgg_o rfl agg27 siz27 rfl rfl rfl rfl) <|
                          (TR.l (r := AV.i64 v18) rfl rfl (LOp.move rfl rfl) <|
                          (TR.l (r := AV.i64 v21) rfl rfl (LOp.move rfl rfl) <|
                          (TR.d (r := AV.f32 r22) (fs := []) rfl rfl (TOp.callB (CallAs.func ent51 rfl rfl) (Bors.cons (Bor.agg (Bors.cons (Bor.pure rfl) (Bors.cons (Bor.pure rfl) (Bors.cons (Bor.own (f := AV.f32) (fun _ => rfl) rfl hl9) Bors.nil)))) (Bors.cons (Bor.pure rfl) (Bors.cons (Bor.pure rfl) Bors.nil))) rfl rfl (i_Matrix_at_ok r3 r4 L8 v18 v21 r22 hf12)) <|
                          (TR.d (r := AV.f32 r23) (fs := []) rfl rfl (TOp.callB (CallAs.func ent50 rfl rfl) (Bors.cons (Bor.pure rfl) Bors.nil) rfl rfl (i_absolute_ok r22 r23 hf13)) <|
                          (TR.l (r := AV.optr 4 1 0) rfl rfl (LOp.fao und48 rfl siz27 rfl rfl rfl) <|
                          (TR.d (r := AV.agg [AV.i64 r3, AV.i64 r4, AV.oref 1 1 0 r5.length]) (fs := []) rfl rfl (TOp.loadAgg_o rfl agg27 siz27 rfl rfl rfl rfl) <|
                          (TR.l (r := AV.i64 v19) rfl rfl (LOp.move rfl rfl) <|
                          (TR.l (r := AV.i64 v20) rfl rfl (LOp.move rfl rfl) <|
                          (TR.d (r := AV.f32 r24) (fs := []) rfl rfl (TOp.callB (CallAs.func ent51 rfl rfl) (Bors.cons (Bor.agg (Bors.cons (Bor.pure rfl) (Bors.cons (Bor.pure rfl) (Bors.cons (Bor.own (f := AV.f32) (fun _ => rfl) rfl hl9) Bors.nil)))) (Bors.cons (Bor.pure rfl) (Bors.cons (Bor.pure rfl) Bors.nil))) rfl rfl (i_Matrix_at_ok r3 r4 L8 v19 v20 r24 hf14)) <|
                          (TR.d (r := AV.f32 r25) (fs := []) rfl rfl (TOp.callB (CallAs.func ent50 rfl rfl) (Bors.cons (Bor.pure rfl) Bors.nil) rfl rfl (i_absolute_ok r24 r25 hf15)) <|
                          (TR.l (r := AV.b true) rfl rfl (LOp.eqb (LOp.fgt rfl (OpF.tmp rfl) (OpF.tmp rfl)) hc16) <|
                          TR.nil))))))))))))) rfl (by kernel_rfl) rfl fills_nil rfl ?_
                        iterate 13 refine ROps.dropS ?_
                        refine ROps.drop0 ?_
                        refine ROps.nil ?_
                        refine RunC.wl (τ' := [(1, AV.f32 a3), (4, AV.optr 0 1 0), (8, AV.i64 a0), (9, AV.optr 4 1 0), (10, AV.oref 3 1 0 r7.length), (11, AV.i64 v14), (12, AV.i64 v15), (13, AV.i64 v19), (14, AV.i64 v20), (15, AV.i64 v18), (16, AV.i64 v21), (39, AV.i64 a0), (40, AV.i64 v15), (69, AV.b true)]) (Γ' := [⟨1, some [AV.i64 0, AV.i64 0, AV.nilsl, AV.nilsl]⟩, ⟨1, some (L8.map AV.f32)⟩, ⟨1, some (L10.map AV.i64)⟩, ⟨1, some (L12.map AV.i64)⟩, ⟨1, some [AV.i64 r3, AV.i64 r4, AV.oref 1 1 0 r5.length, AV.oref 2 1 0 r6.length]⟩, ⟨0, none⟩, ⟨0, none⟩, ⟨0, none⟩]) ⟨(ALe.refl _), (ALe.refl _), (ALe.refl _), (ALe.refl _), (ALe.refl _), (ALe.refl _), (ALe.refl _), (ALe.refl _), (ALe.refl _), (ALe.refl _), (ALe.refl _), (ALe.refl _), (ALe.refl _), (ALe.refl _), trivial⟩ ⟨⟨rfl, .inr rfl⟩, ⟨rfl, .inr rfl⟩, ⟨rfl, .inr rfl⟩, ⟨rfl, .inr rfl⟩, ⟨rfl, .inr rfl⟩, ⟨rfl, .inr rfl⟩, ⟨rfl, .inr rfl⟩, ⟨rfl, .inr rfl⟩, trivial⟩ ?_
                        refine RunC.cond_true rfl rfl ?_
                        refine RunC.regionW ?_
                        refine ROps.l (r := AV.i64 v18) rfl rfl rfl (LOp.move rfl rfl) ?_
                        refine ROps.l (r := AV.i64 v21) rfl rfl rfl (LOp.move rfl rfl) ?_
                        refine ROps.l (r := AV.i64 v18) rfl rfl rfl (LOp.assign rfl rfl) ?_
                        refine ROps.l (r := AV.i64 v21) rfl rfl rfl (LOp.assign rfl rfl) ?_
                        refine ROps.nil ?_
                        exact ⟨v18, v21, hl9, hl11, hl13, ⟨(ALe.refl _), (ALe.refl _), (ALe.refl _), (ALe.refl _), (ALe.refl _), (ALe.refl _), (ALe.refl _), (ALe.refl _), (ALe.refl _), (ALe.refl _), (ALe.refl _), (ALe.refl _), (ALe.refl _), trivial⟩, ⟨⟨rfl, .inr rfl⟩, ⟨rfl, .inr rfl⟩, ⟨rfl, .inr rfl⟩, ⟨rfl, .inr rfl⟩, ⟨rfl, .inr rfl⟩, ⟨rfl, .inr rfl⟩, ⟨rfl, .inr rfl⟩, ⟨rfl, .inr rfl⟩, trivial⟩, h26_⟩
                      · refine RunC.region_draw (Γ' := [⟨1, some [AV.i64 0, AV.i64 0, AV.nilsl, AV.nilsl]⟩, ⟨1, some (L8.map AV.f32)⟩, ⟨1, some (L10.map AV.i64)⟩, ⟨1, some (L12.map AV.i64)⟩, ⟨1, some [AV.i64 r3, AV.i64 r4, AV.oref 1 1 0 r5.length, AV.oref 2 1 0 r6.length]⟩, ⟨0, none⟩, ⟨0, none⟩, ⟨0, none⟩]) 13 mixed 
                          (TR.l (r := AV.optr 4 1 0) rfl rfl (LOp.fao und48 rfl siz27 rfl rfl rfl) <|
                          (TR.d (r := AV.agg [AV.i64 r3, AV.i64 r4, AV.oref 1 1 0 r5.length]) (fs := []) rfl rfl (TOp.loadAgg_o rfl agg27 siz27 rfl rfl rfl rfl) <|
                          (TR.l (r := AV.i64 v18) rfl rfl (LOp.move rfl rfl) <|
                          (TR.l (r := AV.i64 v21) rfl rfl (LOp.move rfl rfl) <|
                          (TR.d (r := AV.f32 r22) (fs := []) rfl rfl (TOp.callB (CallAs.func ent51 rfl rfl) (Bors.cons (Bor.agg (Bors.cons (Bor.pure rfl) (Bors.cons (Bor.pure rfl) (Bors.cons (Bor.own (f := AV.f32) (fun _ => rfl) rfl hl9) Bors.nil)))) (Bors.cons (Bor.pure rfl) (Bors.cons (Bor.pure rfl) Bors.nil))) rfl rfl (i_Matrix_at_ok r3 r4 L8 v18 v21 r22 hf12)) <|
                          (TR.d (r := AV.f32 r23) (fs := []) rfl rfl (TOp.callB (CallAs.func ent50 rfl rfl) (Bors.cons (Bor.pure rfl) Bors.nil) rfl rfl (i_absolute_ok r22 r23 hf13)) <|
                          (TR.l (r := AV.optr 4 1 0) rfl rfl (LOp.fao und48 rfl siz27 rfl rfl rfl) <|
                          (TR.d (r := AV.agg [AV.i64 r3, AV.i64 r4, AV.oref 1 1 0 r5.length]) (fs := []) rfl rfl (TOp.loadAgg_o rfl agg27 siz27 rfl rfl rfl rfl) <|
                          (TR.l (r := AV.i64 v19) rfl rfl (LOp.move rfl rfl) <|
                          (TR.l (r := AV.i64 v20) rfl rfl (LOp.move rfl rfl) <|
                          (TR.d (r := AV.f32 r24) (fs := []) rfl rfl (TOp.callB (CallAs.func ent51 rfl rfl) (Bors.cons (Bor.agg (Bors.cons (Bor.pure rfl) (Bors.cons (Bor.pure rfl) (Bors.cons (Bor.own (f := AV.f32) (fun _ => rfl) rfl hl9) Bors.nil)))) (Bors.cons (Bor.pure rfl) (Bors.cons (Bor.pure rfl) Bors.nil))) rfl rfl (i_Matrix_at_ok r3 r4 L8 v19 v20 r24 hf14)) <|
                          (TR.d (r := AV.f32 r25) (fs := []) rfl rfl (TOp.callB (CallAs.func ent50 rfl rfl) (Bors.cons (Bor.pure rfl) Bors.nil) rfl rfl (i_absolute_ok r24 r25 hf15)) <|
                          (TR.l (r := AV.b false) rfl rfl (LOp.eqb (LOp.fgt rfl (OpF.tmp rfl) (OpF.tmp rfl)) hc16) <|
                          TR.nil))))))))))))) rfl (by kernel_rfl) rfl fills_nil rfl ?_
                        iterate 13 refine ROps.dropS ?_
                        refine ROps.drop0 ?_
                        refine ROps.nil ?_
                        refine RunC.wl (τ' := [(1, AV.f32 a3), (4, AV.optr 0 1 0), (8, AV.i64 a0), (9, AV.optr 4 1 0), (10, AV.oref 3 1 0 r7.length), (11, AV.i64 v14), (12, AV.i64 v15), (13, AV.i64 v19), (14, AV.i64 v20), (15, AV.i64 v18), (16, AV.i64 v21), (39, AV.i64 a0), (40, AV.i64 v15), (69, AV.b false)]) (Γ' := [⟨1, some [AV.i64 0, AV.i64 0, AV.nilsl, AV.nilsl]⟩, ⟨1, some (L8.map AV.f32)⟩, ⟨1, some (L10.map AV.i64)⟩, ⟨1, some (L12.map AV.i64)⟩, ⟨1, some [AV.i64 r3, AV.i64 r4, AV.oref 1 1 0 r5.length, AV.oref 2 1 0 r6.length]⟩, ⟨0, none⟩, ⟨0, none⟩, ⟨0, none⟩]) ⟨(ALe.refl _), (ALe.refl _), (ALe.refl _), (ALe.refl _), (ALe.refl _), (ALe.refl _), (ALe.refl _), (ALe.refl _), (ALe.refl _), (ALe.refl _), (ALe.refl _), (ALe.refl _), (ALe.refl _), (ALe.refl _), trivial⟩ ⟨⟨rfl, .inr rfl⟩, ⟨rfl, .inr rfl⟩, ⟨rfl, .inr rfl⟩, ⟨rfl, .inr rfl⟩, ⟨rfl, .inr rfl⟩, ⟨rfl, .inr rfl⟩, ⟨rfl, .inr rfl⟩, ⟨rfl, .inr rfl⟩, trivial⟩ ?_
                        refine RunC.cond_false rfl rfl ?_
                        refine RunC.skip ?_
                        exact ⟨v19, v20, hl9, hl11, hl13, ⟨(ALe.refl _), (ALe.refl _), (ALe.refl _), (ALe.refl _), (ALe.refl _), (ALe.refl _), (ALe.refl _), (ALe.refl _), (ALe.refl _), (ALe.refl _), (ALe.refl _), (ALe.refl _), (ALe.refl _), trivial⟩, ⟨⟨rfl, .inr rfl⟩, ⟨rfl, .inr rfl⟩, ⟨rfl, .inr rfl⟩, ⟨rfl, .inr rfl⟩, ⟨rfl, .inr rfl⟩, ⟨rfl, .inr rfl⟩, ⟨rfl, .inr rfl⟩, ⟨rfl, .inr rfl⟩, trivial⟩, h26_⟩
                    · rintro τ27 Γ27 ⟨v26, v27, hl28, hl29, hl30, hw27, hd27, h26_⟩
                      refine RunC.wl (τ' := [(1, AV.f32 a3), (4, AV.optr 0 1 0), (8, AV.i64 a0), (9, AV.optr 4 1 0), (10, AV.oref 3 1 0 r7.length), (11, AV.i64 v14), (12, AV.i64 v15), (13, AV.i64 v26), (14, AV.i64 v27), (15, AV.i64 v18), (16, AV.i64 v21), (39, AV.i64 a0), (40, AV.i64 v15)]) (Γ' := [⟨1, some [AV.i64 0, AV.i64 0, AV.nilsl, AV.nilsl]⟩, ⟨1, some (L8.map AV.f32)⟩, ⟨1, some (L10.map AV.i64)⟩, ⟨1, some (L12.map AV.i64)⟩, ⟨1, some [AV.i64 r3, AV.i64 r4, AV.oref 1 1 0 r5.length, AV.oref 2 1 0 r6.length]⟩, ⟨0, none⟩, ⟨0, none⟩, ⟨0, none⟩]) hw27 hd27 ?_
                      unfold i_FactorBoth_k20 at h26_
                      obtain ⟨x31, hx17, h26_⟩ := olet_some h26_
                      refine RunC.regionW ?_
                      refine ROps.l (r := AV.i64 v21) rfl rfl rfl (LOp.move rfl rfl) ?_
                      refine ROps.l (r := AV.i64 x31) rfl rfl rfl (LOp.eqr (LOp.add rfl rfl rfl) (congrArg (AV.ik .i64) hx17)) ?_
                      refine ROps.l (r := AV.i64 x31) rfl rfl rfl (LOp.assign rfl rfl) ?_
                      refine ROps.nil ?_
                      cases Option.some.inj h26_
                      exact ⟨_, rfl, ⟨(ALe.refl _), (ALe.refl _), (ALe.refl _), (ALe.refl _), (ALe.refl _), (ALe.refl _), (ALe.refl _), (ALe.refl _), (ALe.refl _), (ALe.refl _), (ALe.refl _), (ALe.refl _), (ALe.refl _), trivial⟩, ⟨⟨rfl, .inr rfl⟩, ⟨rfl, .inr rfl⟩, ⟨rfl, .inr rfl⟩, ⟨rfl, .inr rfl⟩, ⟨rfl, .inr rfl⟩, ⟨rfl, .inr rfl⟩, ⟨rfl, .inr rfl⟩, ⟨rfl, .inr rfl⟩, trivial⟩⟩
                  · refine RunC.regionW ?_
                    refine ROps.l (r := AV.i64 v21) rfl rfl rfl (LOp.move rfl rfl) ?_
                    refine ROps.l (r := AV.i64 a0) rfl rfl rfl (LOp.move rfl rfl) ?_
                    refine ROps.l (r := AV.b false) rfl rfl rfl (LOp.eqb (LOp.lss rfl rfl rfl) hc11) ?_
                    refine ROps.nil ?_
                    refine RunC.cond_false rfl rfl ?_
                    refine RunC.exit ?_
                    cases Option.some.inj h26_
                    have hx := ho26 _ rfl
                    exact ⟨v19, v20, hl9, hl11, hl13, ⟨(ALe.refl _), (ALe.refl _), (ALe.refl _), (ALe.refl _), (ALe.refl _), (ALe.refl _), (ALe.refl _), (ALe.refl _), (ALe.refl _), (ALe.refl _), (ALe.refl _), (ALe.refl _), trivial⟩, ⟨⟨rfl, .inr rfl⟩, ⟨rfl, .inr rfl⟩, ⟨rfl, .inr rfl⟩, ⟨rfl, .inr rfl⟩, ⟨rfl, .inr rfl⟩, ⟨rfl, .inr rfl⟩, ⟨rfl, .inr rfl⟩, ⟨rfl, .inr rfl⟩, trivial⟩, hx⟩
                · rintro τ28 Γ28 ⟨v35, v36, hl32, hl33, hl34, hw28, hd28, rfl⟩
                  refine RunC.wl (τ' := [(1, AV.f32 a3), (4, AV.optr 0 1 0), (8, AV.i64 a0), (9, AV.optr 4 1 0), (10, AV.oref 3 1 0 r7.length), (11, AV.i64 v14), (12, AV.i64 v15), (13, AV.i64 v35), (14, AV.i64 v36), (15, AV.i64 v18), (39, AV.i64 a0), (40, AV.i64 v15)]) (Γ' := [⟨1, some [AV.i64 0, AV.i64 0, AV.nilsl, AV.nilsl]⟩, ⟨1, some (L8.map AV.f32)⟩, ⟨1, some (L10.map AV.i64)⟩, ⟨1, some (L12.map AV.i64)⟩, ⟨1, some [AV.i64 r3, AV.i64 r4, AV.oref 1 1 0 r5.length, AV.oref 2 1 0 r6.length]⟩, ⟨0, none⟩, ⟨0, none⟩, ⟨0, none⟩]) hw28 hd28 ?_
                  replace h25_ : i_FactorBoth_k21 v18 v35 v36 = some y25_ := h25_
                  unfold i_FactorBoth_k21 at h25_
                  obtain ⟨x37, hx18, h25_⟩ := olet_some h25_
                  refine RunC.regionW ?_
                  refine ROps.l (r := AV.i64 v18) rfl rfl rfl (LOp.move rfl rfl) ?_
                  refine ROps.l (r := AV.i64 x37) rfl rfl rfl (LOp.eqr (LOp.add rfl rfl rfl) (congrArg (AV.ik .i64) hx18)) ?_
                  refine ROps.l (r := AV.i64 x37) rfl rfl rfl (LOp.assign rfl rfl) ?_
                  refine ROps.nil ?_
                  cases Option.some.inj h25_
                  exact ⟨_, rfl, ⟨(ALe.refl _), (ALe.refl _), (ALe.refl _), (ALe.refl _), (ALe.refl _), (ALe.refl _), (ALe.refl _), (ALe.refl _), (ALe.refl _), (ALe.refl _), (ALe.refl _), (ALe.refl _), trivial⟩, ⟨⟨rfl, .inr rfl⟩, ⟨rfl, .inr rfl⟩, ⟨rfl, .inr rfl⟩, ⟨rfl, .inr rfl⟩, ⟨rfl, .inr rfl⟩, ⟨rfl, .inr rfl⟩, ⟨rfl, .inr rfl⟩, ⟨rfl, .inr rfl⟩, trivial⟩⟩
              · refine RunC.regionW ?_
                refine ROps.l (r := AV.i64 v18) rfl rfl rfl (LOp.move rfl rfl) ?_
                refine ROps.l (r := AV.i64 a0) rfl rfl rfl (LOp.move rfl rfl) ?_
                refine ROps.l (r := AV.b false) rfl rfl rfl (LOp.eqb (LOp.lss rfl rfl rfl) hc10) ?_
                refine ROps.nil ?_
                refine RunC.cond_false rfl rfl ?_
                refine RunC.exit ?_
                cases Option.some.inj h25_
                have hx := ho25 _ rfl
                exact ⟨v16, v17, hl9, hl11, hl13, ⟨(ALe.refl _), (ALe.refl _), (ALe.refl _), (ALe.refl _), (ALe.refl _), (ALe.refl _), (ALe.refl _), (ALe.refl _), (ALe.refl _), (ALe.refl _), (ALe.refl _), trivial⟩, ⟨⟨rfl, .inr rfl⟩, ⟨rfl, .inr rfl⟩, ⟨rfl, .inr rfl⟩, ⟨rfl, .inr rfl⟩, ⟨rfl, .inr rfl⟩, ⟨rfl, .inr rfl⟩, ⟨rfl, .inr rfl⟩, ⟨rfl, .inr rfl⟩, trivial⟩, hx⟩
            · rintro τ29 Γ29 ⟨v41, v42, hl38, hl39, hl40, hw29, hd29, rfl⟩
              refine RunC.wl (τ' := [(1, AV.f32 a3), (4, AV.optr 0 1 0), (8, AV.i64 a0), (9, AV.optr 4 1 0), (10, AV.oref 3 1 0 r7.length), (11, AV.i64 v14), (12, AV.i64 v15), (13, AV.i64 v41), (14, AV.i64 v42), (39, AV.i64 a0), (40, AV.i64 v15)]) (Γ' := [⟨1, some [AV.i64 0, AV.i64 0, AV.nilsl, AV.nilsl]⟩, ⟨1, some (L8.map AV.f32)⟩, ⟨1, some (L10.map AV.i64)⟩, ⟨1, some (L12.map AV.i64)⟩, ⟨1, some [AV.i64 r3, AV.i64 r4, AV.oref 1 1 0 r5.length, AV.oref 2 1 0 r6.length]⟩, ⟨0, none⟩, ⟨0, none⟩, ⟨0, none⟩]) hw29 hd29 ?_
              replace h24_ : i_FactorBoth_k22 a3 r3 r4 r5 r6 r7 L8 L10 L12 v14 v15 v41 v42 = some y24_ := h24_
              unfold i_FactorBoth_k22 at h24_
              refine RunC.seq ?_
              refine RunC.seq ?_
              obtain ⟨r43, hf19, h24_⟩ := obind_some h24_
              obtain ⟨r44, hf20, h24_⟩ := obind_some h24_
              rcases bsel_some h24_ with ⟨hc21, h24_⟩ | ⟨hc21, h24_⟩
              · refine RunC.regionW ?_
                refine ROps.l (r := AV.optr 4 1 0) rfl rfl rfl (LOp.fao und48 rfl siz27 rfl rfl rfl) ?_
                refine ROps.d (r := AV.agg [AV.i64 r3, AV.i64 r4, AV.oref 1 1 0 r5.length]) (fs := []) (Γ' := [⟨1, some [AV.i64 0, AV.i64 0, AV.nilsl, AV.nilsl]⟩, ⟨1, some (L8.map AV.f32)⟩, ⟨1, some (L10.map AV.i64)⟩, ⟨1, some (L12.map AV.i64)⟩, ⟨1, some [AV.i64 r3, AV.i64 r4, AV.oref 1 1 0 r5.length, AV.oref 2 1 0 r6.length]⟩, ⟨0, none⟩, ⟨0, none⟩, ⟨0, none⟩]) rfl rfl rfl (TOp.loadAgg_o rfl agg27 siz27 rfl rfl rfl rfl) rfl ?_
                refine ROps.l (r := AV.i64 v41) rfl rfl rfl (LOp.move rfl rfl) ?_
                refine ROps.l (r := AV.i64 v42) rfl rfl rfl (LOp.move rfl rfl) ?_
                refine ROps.d (r := AV.f32 r43) (fs := []) (Γ' := [⟨1, some [AV.i64 0, AV.i64 0, AV.nilsl, AV.nilsl]⟩, ⟨1, some (L8.map AV.f32)⟩, ⟨1, some (L10.map AV.i64)⟩, ⟨1, some (L12.map AV.i64)⟩, ⟨1, some [AV.i64 r3, AV.i64 r4, AV.oref 1 1 0 r5.length, AV.oref 2 1 0 r6.length]⟩, ⟨0, none⟩, ⟨0, none⟩, ⟨0, none⟩]) rfl rfl rfl (TOp.callB (CallAs.func ent51 rfl rfl) (Bors.cons (Bor.agg (Bors.cons (Bor.pure rfl) (Bors.cons (Bor.pure rfl) (Bors.cons (Bor.own (f := AV.f32) (fun _ => rfl) rfl hl38) Bors.nil)))) (Bors.cons (Bor.pure rfl) (Bors.cons (Bor.pure rfl) Bors.nil))) rfl rfl (i_Matrix_at_ok r3 r4 L8 v41 v42 r43 hf19)) rfl ?_
                refine ROps.d (r := AV.f32 r44) (fs := []) (Γ' := [⟨1, some [AV.i64 0, AV.i64 0, AV.nilsl, AV.nilsl]⟩, ⟨1, some (L8.map AV.f32)⟩, ⟨1, some (L10.map AV.i64)⟩, ⟨1, some (L12.map AV.i64)⟩, ⟨1, some [AV.i64 r3, AV.i64 r4, AV.oref 1 1 0 r5.length, AV.oref 2 1 0 r6.length]⟩, ⟨0, none⟩, ⟨0, none⟩, ⟨0, none⟩]) rfl rfl rfl (TOp.callB (CallAs.func ent50 rfl rfl) (Bors.cons (Bor.pure rfl) Bors.nil) rfl rfl (i_absolute_ok r43 r44 hf20)) rfl ?_
                refine ROps.l (r := AV.f32 a3) rfl rfl rfl (LOp.move rfl rfl) ?_
                refine ROps.l (r := AV.b true) rfl rfl rfl (LOp.eqb (LOp.fle rfl (OpF.tmp rfl) (OpF.tmp rfl)) hc21) ?_
                refine ROps.nil ?_
                refine RunC.cond_true rfl rfl ?_
                refine RunC.exit ?_
                cases Option.some.inj h24_
                have hx := ho24 _ rfl
                exact ⟨L8, L10, L12, v14, hl38, hl39, hl40, ⟨(ALe.refl _), (ALe.refl _), (ALe.refl _), (ALe.refl _), trivial⟩, ⟨⟨rfl, .inr rfl⟩, ⟨rfl, .inr rfl⟩, ⟨rfl, .inr rfl⟩, ⟨rfl, .inr rfl⟩, ⟨rfl, .inr rfl⟩, ⟨rfl, .inr rfl⟩, ⟨rfl, .inr rfl⟩, ⟨rfl, .inr rfl⟩, trivial⟩, hx⟩
              · refine RunC.regionW ?_
                refine ROps.l (r := AV.optr 4 1 0) rfl rfl rfl (LOp.fao und48 rfl siz27 rfl rfl rfl) ?_
                refine ROps.d (r := AV.agg [AV.i64 r3, AV.i64 r4, AV.oref 1 1 0 r5.length]) (fs := []) (Γ' := [⟨1, some [AV.i64 0, AV.i64 0, AV.nilsl, AV.nilsl]⟩, ⟨1, some (L8.map AV.f32)⟩, ⟨1, some (L10.map AV.i64)⟩, ⟨1, some (L12.map AV.i64)⟩, ⟨1, some [AV.i64 r3, AV.i64 r4, AV.oref 1 1 0 r5.length, AV.oref 2 1 0 r6.length]⟩, ⟨0, none⟩, ⟨0, none⟩, ⟨0, none⟩]) rfl rfl rfl (TOp.loadAgg_o rfl agg27 siz27 rfl rfl rfl rfl) rfl ?_
                refine ROps.l (r := AV.i64 v41) rfl rfl rfl (LOp.move rfl rfl) ?_
                refine ROps.l (r := AV.i64 v42) rfl rfl rfl (LOp.move rfl rfl) ?_
                refine ROps.d (r := AV.f32 r43) (fs := []) (Γ' := [⟨1, some [AV.i64 0, AV.i64 0, AV.nilsl, AV.nilsl]⟩, ⟨1, some (L8.map AV.f32)⟩, ⟨1, some (L10.map AV.i64)⟩, ⟨1, some (L12.map AV.i64)⟩, ⟨1, some [AV.i64 r3, AV.i64 r4, AV.oref 1 1 0 r5.length, AV.oref 2 1 0 r6.length]⟩, ⟨0, none⟩, ⟨0, none⟩, ⟨0, none⟩]) rfl rfl rfl (TOp.callB (CallAs.func ent51 rfl rfl) (Bors.cons (Bor.agg (Bors.cons (Bor.pure rfl) (Bors.cons (Bor.pure rfl) (Bors.cons (Bor.own (f := AV.f32) (fun _ => rfl) rfl hl38) Bors.nil)))) (Bors.cons (Bor.pure rfl) (Bors.cons (Bor.pure rfl) Bors.nil))) rfl rfl (i_Matrix_at_ok r3 r4 L8 v41 v42 r43 hf19)) rfl ?_
                refine ROps.d (r := AV.f32 r44) (fs := []) (Γ' := [⟨1, some [AV.i64 0, AV.i64 0, AV.nilsl, AV.nilsl]⟩, ⟨1, some (L8.map AV.f32)⟩, ⟨1, some (L10.map AV.i64)⟩, ⟨1, some (L12.map AV.i64)⟩, ⟨1, some [AV.i64 r3, AV.i64 r4, AV.oref 1 1 0 r5.length, AV.oref 2 1 0 r6.length]⟩, ⟨0, none⟩, ⟨0, none⟩, ⟨0, none⟩]) rfl rfl rfl (TOp.callB (CallAs.func ent50 rfl rfl) (Bors.cons (Bor.pure rfl) Bors.nil) rfl rfl (i_absolute_ok r43 r44 hf20)) rfl ?_
                refine ROps.l (r := AV.f32 a3) rfl rfl rfl (LOp.move rfl rfl) ?_
                refine ROps.l (r := AV.b false) rfl rfl rfl (LOp.eqb (LOp.fle rfl (OpF.tmp rfl) (OpF.tmp rfl)) hc21) ?_
                refine ROps.nil ?_
                refine RunC.cond_false rfl rfl ?_
                refine RunC.skip ?_
                refine RunC.seq ?_
                obtain ⟨r45, hf22, h24_⟩ := obind_some h24_
                obtain ⟨hn23, h24_⟩ := need_some h24_
                refine RunC.regionW ?_
                refine ROps.l (r := AV.optr 4 1 0) rfl rfl rfl (LOp.fao und48 rfl siz27 rfl rfl rfl) ?_
                refine ROps.d (r := AV.agg [AV.i64 r3, AV.i64 r4, AV.oref 1 1 0 r5.length]) (fs := []) (Γ' := [⟨1, some [AV.i64 0, AV.i64 0, AV.nilsl, AV.nilsl]⟩, ⟨1, some (L8.map AV.f32)⟩, ⟨1, some (L10.map AV.i64)⟩, ⟨1, some (L12.map AV.i64)⟩, ⟨1, some [AV.i64 r3, AV.i64 r4, AV.oref 1 1 0 r5.length, AV.oref 2 1 0 r6.length]⟩, ⟨0, none⟩, ⟨0, none⟩, ⟨0, none⟩]) rfl rfl rfl (TOp.loadAgg_o rfl agg27 siz27 rfl rfl rfl rfl) rfl ?_
                refine ROps.l (r := AV.i64 v41) rfl rfl rfl (LOp.move rfl rfl) ?_
                refine ROps.l (r := AV.i64 v15) rfl rfl rfl (LOp.move rfl rfl) ?_
                refine ROps.callO (A := [AV.agg [AV.i64 r3, AV.i64 r4, AV.oref 1 1 0 r5.length], AV.i64 v41, AV.i64 v15]) (args := [AV.agg [AV.i64 r3, AV.i64 r4, AV.oref 0 0 0 L8.length], AV.i64 v41, AV.i64 v15]) (Γc := [⟨0, some (L8.map AV.f32)⟩]) (Γc' := [⟨0, some (r45.map AV.f32)⟩]) (r' := AV.tup []) (Γ' := [⟨1, some [AV.i64 0, AV.i64 0, AV.nilsl, AV.nilsl]⟩, ⟨1, some (r45.map AV.f32)⟩, ⟨1, some (L10.map AV.i64)⟩, ⟨1, some (L12.map AV.i64)⟩, ⟨1, some [AV.i64 r3, AV.i64 r4, AV.oref 1 1 0 r5.length, AV.oref 2 1 0 r6.length]⟩, ⟨0, none⟩, ⟨0, none⟩, ⟨0, none⟩]) [(1, 1)] [] rfl (CallAs.func ent74 rfl rfl) rfl rfl (SelOk.of (show List.Nodup [1] from by decide) (SelL.arr0 (f := AV.f32) (fun _ => rfl) rfl trivial)) (live_of ⟨⟨_, _, rfl⟩, trivial⟩) (by simp [AV.ren, AV.rens, sigma, rens_f32, rens_f64, rens_i64, rens_ik, rens_str, rens_cp, hl38]) rfl (i_Matrix_swapRows_02o_ok r3 r4 v41 v15 L8 r45 hf22) rfl (news_of trivial) (show List.Nodup [1] from by decide) (by simp [AV.ren, AV.rens, sigma, of_decide_eq_true hn23]) (by simp [backOb, sigma, AV.ren, AV.rens, rens_f32, rens_f64, rens_i64, rens_ik, rens_str, rens_cp]) ?_
                refine ROps.nil ?_
                refine RunC.wl (τ' := [(1, AV.f32 a3), (4, AV.optr 0 1 0), (8, AV.i64 a0), (9, AV.optr 4 1 0), (10, AV.oref 3 1 0 r7.length), (11, AV.i64 v14), (12, AV.i64 v15), (13, AV.i64 v41), (14, AV.i64 v42), (39, AV.i64 a0), (40, AV.i64 v15)]) (Γ' := [⟨1, some [AV.i64 0, AV.i64 0, AV.nilsl, AV.nilsl]⟩, ⟨1, some (r45.map AV.f32)⟩, ⟨1, some (L10.map AV.i64)⟩, ⟨1, some (L12.map AV.i64)⟩, ⟨1, some [AV.i64 r3, AV.i64 r4, AV.oref 1 1 0 r5.length, AV.oref 2 1 0 r6.length]⟩, ⟨0, none⟩, ⟨0, none⟩, ⟨0, none⟩]) ⟨(ALe.refl _), (ALe.refl _), (ALe.refl _), (ALe.refl _), (ALe.refl _), (ALe.refl _), (ALe.refl _), (ALe.refl _), (ALe.refl _), (ALe.refl _), (ALe.refl _), trivial⟩ ⟨⟨rfl, .inr rfl⟩, ⟨rfl, .inr rfl⟩, ⟨rfl, .inr rfl⟩, ⟨rfl, .inr rfl⟩, ⟨rfl, .inr rfl⟩, ⟨rfl, .inr rfl⟩, ⟨rfl, .inr rfl⟩, ⟨rfl, .inr rfl⟩, trivial⟩ ?_
                refine RunC.seq ?_
                obtain ⟨r46, hf24, h24_⟩ := obind_some h24_
                obtain ⟨hn25, h24_⟩ := need_some h24_
                refine RunC.regionW ?_
                refine ROps.l (r := AV.optr 4 1 3) rfl rfl rfl (LOp.fao und48 rfl siz28 rfl rfl rfl) ?_
                refine ROps.d (r := AV.oref 2 1 0 r6.length) (fs := []) (Γ' := [⟨1, some [AV.i64 0, AV.i64 0, AV.nilsl, AV.nilsl]⟩, ⟨1, some (r45.map AV.f32)⟩, ⟨1, some (L10.map AV.i64)⟩, ⟨1, some (L12.map AV.i64)⟩, ⟨1, some [AV.i64 r3, AV.i64 r4, AV.oref 1 1 0 r5.length, AV.oref 2 1 0 r6.length]⟩, ⟨0, none⟩, ⟨0, none⟩, ⟨0, none⟩]) rfl rfl rfl (TOp.load1_o rfl rfl agg28 rfl rfl) rfl ?_
                refine ROps.l (r := AV.i64 v41) rfl rfl rfl (LOp.move rfl rfl) ?_
                refine ROps.l (r := AV.i64 v15) rfl rfl rfl (LOp.move rfl rfl) ?_
                refine ROps.callO (A := [AV.oref 2 1 0 r6.length, AV.i64 v41, AV.i64 v15]) (args := [AV.oref 0 0 0 L10.length, AV.i64 v41, AV.i64 v15]) (Γc := [⟨0, some (L10.map AV.i64)⟩]) (Γc' := [⟨0, some (r46.map AV.i64)⟩]) (r' := AV.tup []) (Γ' := [⟨1, some [AV.i64 0, AV.i64 0, AV.nilsl, AV.nilsl]⟩, ⟨1, some (r45.map AV.f32)⟩, ⟨1, some (r46.map AV.i64)⟩, ⟨1, some (L12.map AV.i64)⟩, ⟨1, some [AV.i64 r3, AV.i64 r4, AV.oref 1 1 0 r5.length, AV.oref 2 1 0 r6.length]⟩, ⟨0, none⟩, ⟨0, none⟩, ⟨0, none⟩]) [(2, 1)] [] rfl (CallAs.func ent75 rfl rfl) rfl rfl (SelOk.of (show List.Nodup [2] from by decide) (SelL.arr0 (f := AV.i64) (fun _ => rfl) rfl trivial)) (live_of ⟨⟨_, _, rfl⟩, trivial⟩) (by simp [AV.ren, AV.rens, sigma, rens_f32, rens_f64, rens_i64, rens_ik, rens_str, rens_cp, hl39]) rfl (i_swap_0o_ok v41 v15 L10 r46 hf24) rfl (news_of trivial) (show List.Nodup [2] from by decide) (by simp [AV.ren, AV.rens, sigma, of_decide_eq_true hn25]) (by simp [backOb, sigma, AV.ren, AV.rens, rens_f32, rens_f64, rens_i64, rens_ik, rens_str, rens_cp]) ?_
                refine ROps.nil ?_
                refine RunC.seq ?_
                obtain ⟨r47, hf26, h24_⟩ := obind_some h24_
                obtain ⟨hn27, h24_⟩ := need_some h24_
                refine RunC.regionW ?_
                refine ROps.l (r := AV.optr 4 1 0) rfl rfl rfl (LOp.fao und48 rfl siz27 rfl rfl rfl) ?_
                refine ROps.d (r := AV.agg [AV.i64 r3, AV.i64 r4, AV.oref 1 1 0 r5.length]) (fs := []) (Γ' := [⟨1, some [AV.i64 0, AV.i64 0, AV.nilsl, AV.nilsl]⟩, ⟨1, some (r45.map AV.f32)⟩, ⟨1, some (r46.map AV.i64)⟩, ⟨1, some (L12.map AV.i64)⟩, ⟨1, some [AV.i64 r3, AV.i64 r4, AV.oref 1 1 0 r5.length, AV.oref 2 1 0 r6.length]⟩, ⟨0, none⟩, ⟨0, none⟩, ⟨0, none⟩]) rfl rfl rfl (TOp.loadAgg_o rfl agg27 siz27 rfl rfl rfl rfl) rfl ?_
                refine ROps.l (r := AV.i64 v42) rfl rfl rfl (LOp.move rfl rfl) ?_
                refine ROps.l (r := AV.i64 v15) rfl rfl rfl (LOp.move rfl rfl) ?_
                refine ROps.callO (A := [AV.agg [AV.i64 r3, AV.i64 r4, AV.oref 1 1 0 r5.length], AV.i64 v42, AV.i64 v15]) (args := [AV.agg [AV.i64 r3, AV.i64 r4, AV.oref 0 0 0 r45.length], AV.i64 v42, AV.i64 v15]) (Γc := [⟨0, some (r45.map AV.f32)⟩]) (Γc' := [⟨0, some (r47.map AV.f32)⟩]) (r' := AV.tup []) (Γ' := [⟨1, some [AV.i64 0, AV.i64 0, AV.nilsl, AV.nilsl]⟩, ⟨1, some (r47.map AV.f32)⟩, ⟨1, some (r46.map AV.i64)⟩, ⟨1, some (L12.map AV.i64)⟩, ⟨1, some [AV.i64 r3, AV.i64 r4, AV.oref 1 1 0 r5.length, AV.oref 2 1 0 r6.length]⟩, ⟨0, none⟩, ⟨0, none⟩, ⟨0, none⟩]) [(1, 1)] [] rfl (CallAs.func ent77 rfl rfl) rfl rfl (SelOk.of (show List.Nodup [1] from by decide) (SelL.arr0 (f := AV.f32) (fun _ => rfl) rfl trivial)) (live_of ⟨⟨_, _, rfl⟩, trivial⟩) (by simp [AV.ren, AV.rens, sigma, rens_f32, rens_f64, rens_i64, rens_ik, rens_str, rens_cp, (of_decide_eq_true hn23)]) rfl (i_Matrix_swapColumns_02o_ok r3 r4 v42 v15 r45 r47 hf26) rfl (news_of trivial) (show List.Nodup [1] from by decide) (by simp [AV.ren, AV.rens, sigma, of_decide_eq_true hn27]) (by simp [backOb, sigma, AV.ren, AV.rens, rens_f32, rens_f64, rens_i64, rens_ik, rens_str, rens_cp]) ?_
                refine ROps.nil ?_
                refine RunC.seq ?_
                obtain ⟨r48, hf28, h24_⟩ := obind_some h24_
                obtain ⟨hn29, h24_⟩ := need_some h24_
                refine RunC.regionW ?_
                refine ROps.l (r := AV.oref 3 1 0 r7.length) rfl rfl rfl (LOp.move rfl rfl) ?_
                refine ROps.l (r := AV.i64 v42) rfl rfl rfl (LOp.move rfl rfl) ?_
                refine ROps.l (r := AV.i64 v15) rfl rfl rfl (LOp.move rfl rfl) ?_
                refine ROps.callO (A := [AV.oref 3 1 0 r7.length, AV.i64 v42, AV.i64 v15]) (args := [AV.oref 0 0 0 L12.length, AV.i64 v42, AV.i64 v15]) (Γc := [⟨0, some (L12.map AV.i64)⟩]) (Γc' := [⟨0, some (r48.map AV.i64)⟩]) (r' := AV.tup []) (Γ' := [⟨1, some [AV.i64 0, AV.i64 0, AV.nilsl, AV.nilsl]⟩, ⟨1, some (r47.map AV.f32)⟩, ⟨1, some (r46.map AV.i64)⟩, ⟨1, some (r48.map AV.i64)⟩, ⟨1, some [AV.i64 r3, AV.i64 r4, AV.oref 1 1 0 r5.length, AV.oref 2 1 0 r6.length]⟩, ⟨0, none⟩, ⟨0, none⟩, ⟨0, none⟩]) [(3, 1)] [] rfl (CallAs.func ent75 rfl rfl) rfl rfl (SelOk.of (show List.Nodup [3] from by decide) (SelL.arr0 (f := AV.i64) (fun _ => rfl) rfl trivial)) (live_of ⟨⟨_, _, rfl⟩, trivial⟩) (by simp [AV.ren, AV.rens, sigma, rens_f32, rens_f64, rens_i64, rens_ik, rens_str, rens_cp, hl40]) rfl (i_swap_0o_ok v42 v15 L12 r48 hf28) rfl (news_of trivial) (show List.Nodup [3] from by decide) (by simp [AV.ren, AV.rens, sigma, of_decide_eq_true hn29]) (by simp [backOb, sigma, AV.ren, AV.rens, rens_f32, rens_f64, rens_i64, rens_ik, rens_str, rens_cp]) ?_
                refine ROps.nil ?_
                refine RunC.wl (τ' := [(1, AV.f32 a3), (4, AV.optr 0 1 0), (8, AV.i64 a0), (9, AV.optr 4 1 0), (10, AV.oref 3 1 0 r7.length), (11, AV.i64 v14), (12, AV.i64 v15), (39, AV.i64 a0), (40, AV.i64 v15)]) (Γ' := [⟨1, some [AV.i64 0, AV.i64 0, AV.nilsl, AV.nilsl]⟩, ⟨1, some (r47.map AV.f32)⟩, ⟨1, some (r46.map AV.i64)⟩, ⟨1, some (r48.map AV.i64)⟩, ⟨1, some [AV.i64 r3, AV.i64 r4, AV.oref 1 1 0 r5.length, AV.oref 2 1 0 r6.length]⟩, ⟨0, none⟩, ⟨0, none⟩, ⟨0, none⟩]) ⟨(ALe.refl _), (ALe.refl _), (ALe.refl _), (ALe.refl _), (ALe.refl _), (ALe.refl _), (ALe.refl _), (ALe.refl _), (ALe.refl _), trivial⟩ ⟨⟨rfl, .inr rfl⟩, ⟨rfl, .inr rfl⟩, ⟨rfl, .inr rfl⟩, ⟨rfl, .inr rfl⟩, ⟨rfl, .inr rfl⟩, ⟨rfl, .inr rfl⟩, ⟨rfl, .inr rfl⟩, ⟨rfl, .inr rfl⟩, trivial⟩ ?_
                refine RunC.seq ?_
                obtain ⟨r49, hf30, h24_⟩ := obind_some h24_
                obtain ⟨hn31, h24_⟩ := need_some h24_
                refine RunC.regionW ?_
                refine ROps.l (r := AV.optr 4 1 0) rfl rfl rfl (LOp.fao und48 rfl siz27 rfl rfl rfl) ?_
                refine ROps.d (r := AV.agg [AV.i64 r3, AV.i64 r4, AV.oref 1 1 0 r5.length]) (fs := []) (Γ' := [⟨1, some [AV.i64 0, AV.i64 0, AV.nilsl, AV.nilsl]⟩, ⟨1, some (r47.map AV.f32)⟩, ⟨1, some (r46.map AV.i64)⟩, ⟨1, some (r48.map AV.i64)⟩, ⟨1, some [AV.i64 r3, AV.i64 r4, AV.oref 1 1 0 r5.length, AV.oref 2 1 0 r6.length]⟩, ⟨0, none⟩, ⟨0, none⟩, ⟨0, none⟩]) rfl rfl rfl (TOp.loadAgg_o rfl agg27 siz27 rfl rfl rfl rfl) rfl ?_
                refine ROps.l (r := AV.i64 v15) rfl rfl rfl (LOp.move rfl rfl) ?_
                refine ROps.callO (A := [AV.agg [AV.i64 r3, AV.i64 r4, AV.oref 1 1 0 r5.length], AV.i64 v15]) (args := [AV.agg [AV.i64 r3, AV.i64 r4, AV.oref 0 0 0 r47.length], AV.i64 v15]) (Γc := [⟨0, some (r47.map AV.f32)⟩]) (Γc' := [⟨0, some (r49.map AV.f32)⟩]) (r' := AV.tup []) (Γ' := [⟨1, some [AV.i64 0, AV.i64 0, AV.nilsl, AV.nilsl]⟩, ⟨1, some (r49.map AV.f32)⟩, ⟨1, some (r46.map AV.i64)⟩, ⟨1, some (r48.map AV.i64)⟩, ⟨1, some [AV.i64 r3, AV.i64 r4, AV.oref 1 1 0 r5.length, AV.oref 2 1 0 r6.length]⟩, ⟨0, none⟩, ⟨0, none⟩, ⟨0, none⟩]) [(1, 1)] [] rfl (CallAs.func ent76 rfl rfl) rfl rfl (SelOk.of (show List.Nodup [1] from by decide) (SelL.arr0 (f := AV.f32) (fun _ => rfl) rfl trivial)) (live_of ⟨⟨_, _, rfl⟩, trivial⟩) (by simp [AV.ren, AV.rens, sigma, rens_f32, rens_f64, rens_i64, rens_ik, rens_str, rens_cp, (of_decide_eq_true hn27)]) rfl (i_Matrix_eliminate_02o_ok r3 r4 v15 r47 r49 hf30) rfl (news_of trivial) (show List.Nodup [1] from by decide) (by simp [AV.ren, AV.rens, sigma, of_decide_eq_true hn31]) (by simp [backOb, sigma, AV.ren, AV.rens, rens_f32, rens_f64, rens_i64, rens_ik, rens_str, rens_cp]) ?_
                refine ROps.nil ?_
                refine RunC.seq ?_
                refine RunC.seq ?_
                obtain ⟨r50, hf32, h24_⟩ := obind_some h24_
                rcases bsel_some h24_ with ⟨hc33, h24_⟩ | ⟨hc33, h24_⟩
                · refine RunC.regionW ?_
                  refine ROps.l (r := AV.optr 4 1 0) rfl rfl rfl (LOp.fao und48 rfl siz27 rfl rfl rfl) ?_
                  refine ROps.d (r := AV.agg [AV.i64 r3, AV.i64 r4, AV.oref 1 1 0 r5.length]) (fs := []) (Γ' := [⟨1, some [AV.i64 0, AV.i64 0, AV.nilsl, AV.nilsl]⟩, ⟨1, some (r49.map AV.f32)⟩, ⟨1, some (r46.map AV.i64)⟩, ⟨1, some (r48.map AV.i64)⟩, ⟨1, some [AV.i64 r3, AV.i64 r4, AV.oref 1 1 0 r5.length, AV.oref 2 1 0 r6.length]⟩, ⟨0, none⟩, ⟨0, none⟩, ⟨0, none⟩]) rfl rfl rfl (TOp.loadAgg_o rfl agg27 siz27 rfl rfl rfl rfl) rfl ?_
                  refine ROps.d (r := AV.b true) (fs := []) (Γ' := [⟨1, some [AV.i64 0, AV.i64 0, AV.nilsl, AV.nilsl]⟩, ⟨1, some (r49.map AV.f32)⟩, ⟨1, some (r46.map AV.i64)⟩, ⟨1, some (r48.map AV.i64)⟩, ⟨1, some [AV.i64 r3, AV.i64 r4, AV.oref 1 1 0 r5.length, AV.oref 2 1 0 r6.length]⟩, ⟨0, none⟩, ⟨0, none⟩, ⟨0, none⟩]) rfl rfl rfl (TOp.eqb (TOp.callB (CallAs.func ent45 rfl rfl) (Bors.cons (Bor.agg (Bors.cons (Bor.pure rfl) (Bors.cons (Bor.pure rfl) (Bors.cons (Bor.own (f := AV.f32) (fun _ => rfl) rfl (of_decide_eq_true hn31)) Bors.nil)))) Bors.nil) rfl rfl (i_ValidMatrix_ok r3 r4 r49 r50 hf32)) hc33) rfl ?_
                  refine ROps.l (r := AV.b false) rfl rfl rfl (LOp.eqb (LOp.not rfl rfl) rfl) ?_
                  refine ROps.nil ?_
                  refine RunC.cond_false rfl rfl ?_
                  refine RunC.skip ?_
                  obtain ⟨x51, hx34, h24_⟩ := olet_some h24_
                  refine RunC.regionW ?_
                  refine ROps.l (r := AV.i64 v14) rfl rfl rfl (LOp.move rfl rfl) ?_
                  refine ROps.l (r := AV.i64 x51) rfl rfl rfl (LOp.eqr (LOp.add rfl rfl rfl) (congrArg (AV.ik .i64) hx34)) ?_
                  refine ROps.l (r := AV.i64 x51) rfl rfl rfl (LOp.assign rfl rfl) ?_
                  refine ROps.nil ?_
                  obtain ⟨x52, hx35, h24_⟩ := olet_some h24_
                  refine RunC.regionW ?_
                  refine ROps.l (r := AV.i64 x52) rfl rfl rfl (LOp.eqr (LOp.add rfl rfl rfl) (congrArg (AV.ik .i64) hx35)) ?_
                  refine ROps.l (r := AV.i64 x52) rfl rfl rfl (LOp.move rfl rfl) ?_
                  refine ROps.nil ?_
                  cases Option.some.inj h24_
                  exact ⟨_, rfl, (of_decide_eq_true hn31), (of_decide_eq_true hn25), (of_decide_eq_true hn29), ⟨(ALe.refl _), (ALe.refl _), (ALe.refl _), (ALe.refl _), (ALe.refl _), (ALe.refl _), (ALe.refl _), (ALe.refl _), trivial⟩, ⟨⟨rfl, .inr rfl⟩, ⟨rfl, .inr rfl⟩, ⟨rfl, .inr rfl⟩, ⟨rfl, .inr rfl⟩, ⟨rfl, .inr rfl⟩, ⟨rfl, .inr rfl⟩, ⟨rfl, .inr rfl⟩, ⟨rfl, .inr rfl⟩, trivial⟩⟩
                · refine RunC.regionW ?_
                  refine ROps.l (r := AV.optr 4 1 0) rfl rfl rfl (LOp.fao und48 rfl siz27 rfl rfl rfl) ?_
                  refine ROps.d (r := AV.agg [AV.i64 r3, AV.i64 r4, AV.oref 1 1 0 r5.length]) (fs := []) (Γ' := [⟨1, some [AV.i64 0, AV.i64 0, AV.nilsl, AV.nilsl]⟩, ⟨1, some (r49.map AV.f32)⟩, ⟨1, some (r46.map AV.i64)⟩, ⟨1, some (r48.map AV.i64)⟩, ⟨1, some [AV.i64 r3, AV.i64 r4, AV.oref 1 1 0 r5.length, AV.oref 2 1 0 r6.length]⟩, ⟨0, none⟩, ⟨0, none⟩, ⟨0, none⟩]) rfl rfl rfl (TOp.loadAgg_o rfl agg27 siz27 rfl rfl rfl rfl) rfl ?_
                  refine ROps.d (r := AV.b false) (fs := []) (Γ' := [⟨1, some [AV.i64 0, AV.i64 0, AV.nilsl, AV.nilsl]⟩, ⟨1, some (r49.map AV.f32)⟩, ⟨1, some (r46.map AV.i64)⟩, ⟨1, some (r48.map AV.i64)⟩, ⟨1, some [AV.i64 r3, AV.i64 r4, AV.oref 1 1 0 r5.length, AV.oref 2 1 0 r6.length]⟩, ⟨0, none⟩, ⟨0, none⟩, ⟨0, none⟩]) rfl rfl rfl (TOp.eqb (TOp.callB (CallAs.func ent45 rfl rfl) (Bors.cons (Bor.agg (Bors.cons (Bor.pure rfl) (Bors.cons (Bor.pure rfl) (Bors.cons (Bor.own (f := AV.f32) (fun _ => rfl) rfl (of_decide_eq_true hn31)) Bors.nil)))) Bors.nil) rfl rfl (i_ValidMatrix_ok r3 r4 r49 r50 hf32)) hc33) rfl ?_
                  refine ROps.l (r := AV.b true) rfl rfl rfl (LOp.eqb (LOp.not rfl rfl) rfl) ?_
                  refine ROps.nil ?_
                  refine RunC.cond_true rfl rfl ?_
                  refine RunC.seq ?_
                  refine RunC.regionW ?_
                  refine ROps.l (r := AV.agg [AV.i64 0, AV.i64 0, AV.nilsl, AV.nilsl]) rfl rfl rfl (LOp.build (qs := []) zer48 zok48 und48 plc48 rfl trivial rfl) ?_
                  refine ROps.store_le (r := AV.agg [AV.i64 0, AV.i64 0, AV.nilsl, AV.nilsl]) (l' := [AV.i64 0, AV.i64 0, AV.nilsl, AV.nilsl]) (Γ' := [⟨1, some [AV.i64 0, AV.i64 0, AV.nilsl, AV.nilsl]⟩, ⟨1, some (r49.map AV.f32)⟩, ⟨1, some (r46.map AV.i64)⟩, ⟨1, some (r48.map AV.i64)⟩, ⟨1, some [AV.i64 r3, AV.i64 r4, AV.oref 1 1 0 r5.length, AV.oref 2 1 0 r6.length]⟩, ⟨0, none⟩, ⟨0, none⟩, ⟨0, none⟩]) rfl siz48 rfl rfl rfl (ALe.refl _) rfl rfl rfl rfl (Nat.le_of_ble_eq_true rfl) rfl rfl ?_
                  refine ROps.l (r := AV.nilsl) rfl rfl rfl (LOp.assign rfl rfl) ?_
                  refine ROps.l (r := AV.i64 0) rfl rfl rfl (LOp.assign rfl rfl) ?_
                  refine ROps.l (r := AV.b false) rfl rfl rfl (LOp.assign rfl rfl) ?_
                  refine ROps.nil ?_
                  refine RunC.nil_cell (l' := [AV.i64 0, AV.i64 0, AV.oref 5 1 0 0, AV.nilsl]) (Γ' := [⟨1, some [AV.i64 0, AV.i64 0, AV.oref 5 1 0 0, AV.nilsl]⟩, ⟨1, some (r49.map AV.f32)⟩, ⟨1, some (r46.map AV.i64)⟩, ⟨1, some (r48.map AV.i64)⟩, ⟨1, some [AV.i64 r3, AV.i64 r4, AV.oref 1 1 0 r5.length, AV.oref 2 1 0 r6.length]⟩, ⟨1, some (([] : List F).map AV.f32)⟩, ⟨0, none⟩, ⟨0, none⟩]) 0 2 5 rfl rfl rfl rfl rfl ?_
                  refine RunC.nil_cell (l' := [AV.i64 0, AV.i64 0, AV.oref 5 1 0 0, AV.oref 6 1 0 0]) (Γ' := [⟨1, some [AV.i64 0, AV.i64 0, AV.oref 5 1 0 0, AV.oref 6 1 0 0]⟩, ⟨1, some (r49.map AV.f32)⟩, ⟨1, some (r46.map AV.i64)⟩, ⟨1, some (r48.map AV.i64)⟩, ⟨1, some [AV.i64 r3, AV.i64 r4, AV.oref 1 1 0 r5.length, AV.oref 2 1 0 r6.length]⟩, ⟨1, some (([] : List F).map AV.f32)⟩, ⟨1, some (([] : List Int).map AV.i64)⟩, ⟨0, none⟩]) 0 3 6 rfl rfl rfl rfl rfl ?_
                  refine RunC.nil_slot (Γ' := [⟨1, some [AV.i64 0, AV.i64 0, AV.oref 5 1 0 0, AV.oref 6 1 0 0]⟩, ⟨1, some (r49.map AV.f32)⟩, ⟨1, some (r46.map AV.i64)⟩, ⟨1, some (r48.map AV.i64)⟩, ⟨1, some [AV.i64 r3, AV.i64 r4, AV.oref 1 1 0 r5.length, AV.oref 2 1 0 r6.length]⟩, ⟨1, some (([] : List F).map AV.f32)⟩, ⟨1, some (([] : List Int).map AV.i64)⟩, ⟨1, some (([] : List Int).map AV.i64)⟩]) 5 7 rfl rfl rfl ?_
                  refine RunC.ret ?_
                  cases Option.some.inj h24_
                  have hx30_ := hr24 _ rfl
                  subst hx30_
                  have hq := Option.some.inj h
                  obtain ⟨hq0, hq⟩ := Prod.mk.inj hq
                  obtain ⟨hq1, hq⟩ := Prod.mk.inj hq
                  obtain ⟨hq2, hq⟩ := Prod.mk.inj hq
                  obtain ⟨hq3, hq⟩ := Prod.mk.inj hq
                  obtain ⟨hq4, hq⟩ := Prod.mk.inj hq
                  obtain ⟨hq5, hq⟩ := Prod.mk.inj hq
                  subst q0
                  subst q1
                  subst q2
                  subst q3
                  subst q4
                  subst q5
                  subst q6
                  exact bodyQ.mk (r' := AV.tup [AV.agg [AV.i64 0, AV.i64 0, AV.oref 5 1 0 (([] : List F).length), AV.oref 6 1 0 (([] : List Int).length)], AV.oref 7 1 0 (([] : List Int).length), AV.i64 0, AV.b false]) [(5, 1), (6, 1), (7, 1)] (.inr rfl) rfl (show List.Nodup [5, 6, 7] from by decide) rfl rfl (Res.eq (Res.four rfl (RV.cell agg48 siz48 rfl rfl rfl rfl) (RV.tmp rfl) (RV.tmp rfl) (RV.tmp rfl)) (by rw [(show ([] : List F).length = 0 from rfl), (show ([] : List Int).length = 0 from rfl)] <;> rfl)) (SelL.arr0 (f := AV.f32) (fun _ => rfl) rfl (SelL.arr0 (f := AV.i64) (fun _ => rfl) rfl (SelL.arr0 (f := AV.i64) (fun _ => rfl) rfl trivial)))
          · refine RunC.regionW ?_
            refine ROps.l (r := AV.b false) rfl rfl rfl (LOp.eqb (LOp.lss rfl rfl rfl) hc9) ?_
            refine ROps.nil ?_
            refine RunC.seq ?_
            refine RunC.cond_false rfl rfl ?_
            refine RunC.exit ?_
            cases Option.some.inj h24_
            have hx := ho24 _ rfl
            exact ⟨L8, L10, L12, v14, hl9, hl11, hl13, ⟨(ALe.refl _), (ALe.refl _), (ALe.refl _), (ALe.refl _), trivial⟩, ⟨⟨rfl, .inr rfl⟩, ⟨rfl, .inr rfl⟩, ⟨rfl, .inr rfl⟩, ⟨rfl, .inr rfl⟩, ⟨rfl, .inr rfl⟩, ⟨rfl, .inr rfl⟩, ⟨rfl, .inr rfl⟩, ⟨rfl, .inr rfl⟩, trivial⟩, hx⟩
        · rintro τ31 Γ31 ⟨L53, L55, L57, v59, hl54, hl56, hl58, hw31, hd31, rfl⟩
          refine RunC.wl (τ' := [(4, AV.optr 0 1 0), (9, AV.optr 4 1 0), (10, AV.oref 3 1 0 r7.length), (11, AV.i64 v59)]) (Γ' := [⟨1, some [AV.i64 0, AV.i64 0, AV.nilsl, AV.nilsl]⟩, ⟨1, some (L53.map AV.f32)⟩, ⟨1, some (L55.map AV.i64)⟩, ⟨1, some (L57.map AV.i64)⟩, ⟨1, some [AV.i64 r3, AV.i64 r4, AV.oref 1 1 0 r5.length, AV.oref 2 1 0 r6.length]⟩, ⟨0, none⟩, ⟨0, none⟩, ⟨0, none⟩]) hw31 hd31 ?_
          replace h : i_FactorBoth_k23 r3 r4 L53 L55 L57 v59 = some (q0, q1, q2, q3, q4, q5, q6) := h
          unfold i_FactorBoth_k23 at h
          refine RunC.seq ?_
          refine RunC.regionW ?_
          refine ROps.d (r := AV.agg [AV.i64 r3, AV.i64 r4, AV.oref 1 1 0 r5.length, AV.oref 2 1 0 r6.length]) (fs := []) (Γ' := [⟨1, some [AV.i64 0, AV.i64 0, AV.nilsl, AV.nilsl]⟩, ⟨1, some (L53.map AV.f32)⟩, ⟨1, some (L55.map AV.i64)⟩, ⟨1, some (L57.map AV.i64)⟩, ⟨1, some [AV.i64 r3, AV.i64 r4, AV.oref 1 1 0 r5.length, AV.oref 2 1 0 r6.length]⟩, ⟨0, none⟩, ⟨0, none⟩, ⟨0, none⟩]) rfl rfl rfl (TOp.loadAgg_o rfl agg48 siz48 rfl rfl rfl rfl) rfl ?_
          refine ROps.l (r := AV.oref 3 1 0 r7.length) rfl rfl rfl (LOp.move rfl rfl) ?_
          refine ROps.l (r := AV.i64 v59) rfl rfl rfl (LOp.move rfl rfl) ?_
          refine ROps.store_le (r := AV.agg [AV.i64 r3, AV.i64 r4, AV.oref 1 1 0 r5.length, AV.oref 2 1 0 r6.length]) (l' := [AV.i64 r3, AV.i64 r4, AV.oref 1 1 0 r5.length, AV.oref 2 1 0 r6.length]) (Γ' := [⟨1, some [AV.i64 r3, AV.i64 r4, AV.oref 1 1 0 r5.length, AV.oref 2 1 0 r6.length]⟩, ⟨1, some (L53.map AV.f32)⟩, ⟨1, some (L55.map AV.i64)⟩, ⟨1, some (L57.map AV.i64)⟩, ⟨1, some [AV.i64 r3, AV.i64 r4, AV.oref 1 1 0 r5.length, AV.oref 2 1 0 r6.length]⟩, ⟨0, none⟩, ⟨0, none⟩, ⟨0, none⟩]) rfl siz48 rfl rfl rfl (ALe.refl _) rfl rfl rfl rfl (Nat.le_of_ble_eq_true rfl) rfl rfl ?_
          refine ROps.l (r := AV.oref 3 1 0 r7.length) rfl rfl rfl (LOp.assign rfl rfl) ?_
          refine ROps.l (r := AV.i64 v59) rfl rfl rfl (LOp.assign rfl rfl) ?_
          refine ROps.l (r := AV.b true) rfl rfl rfl (LOp.assign rfl rfl) ?_
          refine ROps.nil ?_
          refine RunC.ret ?_
          have hq := Option.some.inj h
          obtain ⟨hq0, hq⟩ := Prod.mk.inj hq
          obtain ⟨hq1, hq⟩ := Prod.mk.inj hq
          obtain ⟨hq2, hq⟩ := Prod.mk.inj hq
          obtain ⟨hq3, hq⟩ := Prod.mk.inj hq
          obtain ⟨hq4, hq⟩ := Prod.mk.inj hq
          obtain ⟨hq5, hq⟩ := Prod.mk.inj hq
          subst q0
          subst q1
          subst q2
          subst q3
          subst q4
          subst q5
          subst q6
          exact bodyQ.mk (r' := AV.tup [AV.agg [AV.i64 r3, AV.i64 r4, AV.oref 1 1 0 L53.length, AV.oref 2 1 0 L55.length], AV.oref 3 1 0 L57.length, AV.i64 v59, AV.b true]) [(1, 1), (2, 1), (3, 1)] (.inr rfl) rfl (show List.Nodup [1, 2, 3] from by decide) rfl rfl (Res.eq (Res.four rfl (RV.cell agg48 siz48 rfl rfl rfl rfl) (RV.tmp rfl) (RV.tmp rfl) (RV.tmp rfl)) (by rw [(show L53.length = r5.length from hl54), (show L55.length = r6.length from hl56), (show L57.length = r7.length from hl58)] <;> rfl)) (SelL.arr0 (f := AV.f32) (fun _ => rfl) rfl (SelL.arr0 (f := AV.i64) (fun _ => rfl) rfl (SelL.arr0 (f := AV.i64) (fun _ => rfl) rfl trivial)))
    · refine RunC.regionW ?_
      refine ROps.l (r := AV.agg [AV.i64 a0, AV.i64 a1, AV.sl a2.length (a2.map AV.f32)]) rfl rfl rfl (LOp.loadAgg agg27 siz27 rfl rfl rfl rfl) ?_
      refine ROps.d (r := AV.b true) (fs := []) (Γ' := [⟨1, some [AV.i64 0, AV.i64 0, AV.nilsl, AV.nilsl]⟩, ⟨0, none⟩, ⟨0, none⟩, ⟨0, none⟩, ⟨0, none⟩, ⟨0, none⟩, ⟨0, none⟩, ⟨0, none⟩]) rfl rfl rfl (TOp.eqb (TOp.callB (CallAs.func ent59 rfl rfl) (Bors.cons (Bor.agg (Bors.cons (Bor.pure rfl) (Bors.cons (Bor.pure rfl) (Bors.cons (Bor.sl (fun _ => rfl)) Bors.nil)))) Bors.nil) rfl rfl (i_isSquare_ok a0 a1 a2 r1 hf1)) hc2) rfl ?_
      refine ROps.l (r := AV.b false) rfl rfl rfl (LOp.eqb (LOp.not rfl rfl) rfl) ?_
      refine ROps.l (r := AV.b false) rfl rfl rfl (LOp.move rfl rfl) ?_
      refine ROps.l (r := AV.f32 a3) rfl rfl rfl (LOp.move rfl rfl) ?_
      refine ROps.d (r := AV.b false) (fs := []) (Γ' := [⟨1, some [AV.i64 0, AV.i64 0, AV.nilsl, AV.nilsl]⟩, ⟨0, none⟩, ⟨0, none⟩, ⟨0, none⟩, ⟨0, none⟩, ⟨0, none⟩, ⟨0, none⟩, ⟨0, none⟩]) rfl rfl rfl (TOp.eqb (TOp.callB (CallAs.func ent46 rfl rfl) (Bors.cons (Bor.pure rfl) Bors.nil) rfl rfl (i_IsFinite_ok a3 r2 hf3)) hc4) rfl ?_
      refine ROps.l (r := AV.b true) rfl rfl rfl (LOp.eqb (LOp.not rfl rfl) rfl) ?_
      refine ROps.l (r := AV.b true) rfl rfl rfl (LOp.pick_false rfl rfl rfl) ?_
      refine ROps.l (r := AV.b true) rfl rfl rfl (LOp.move rfl rfl) ?_
      refine ROps.s rfl rfl rfl ?_
      refine ROps.s rfl rfl rfl ?_
      refine ROps.l (r := AV.b true) rfl rfl rfl (LOp.pick_true rfl rfl rfl) ?_
      refine ROps.nil ?_
      refine RunC.wl (τ' := [(1, AV.f32 a3), (2, AV.ptr [AV.i64 a0, AV.i64 a1, AV.sl a2.length (a2.map AV.f32)]), (4, AV.optr 0 1 0), (28, AV.b true)]) (Γ' := [⟨1, some [AV.i64 0, AV.i64 0, AV.nilsl, AV.nilsl]⟩, ⟨0, none⟩, ⟨0, none⟩, ⟨0, none⟩, ⟨0, none⟩, ⟨0, none⟩, ⟨0, none⟩, ⟨0, none⟩]) ⟨(ALe.refl _), (ALe.refl _), (ALe.refl _), (ALe.refl _), trivial⟩ ⟨⟨rfl, .inr rfl⟩, ⟨rfl, .inr rfl⟩, ⟨rfl, .inr rfl⟩, ⟨rfl, .inr rfl⟩, ⟨rfl, .inr rfl⟩, ⟨rfl, .inr rfl⟩, ⟨rfl, .inr rfl⟩, ⟨rfl, .inr rfl⟩, trivial⟩ ?_
      refine RunC.cond_true rfl rfl ?_
      refine RunC.seq ?_
      refine RunC.regionW ?_
      refine ROps.l (r := AV.agg [AV.i64 0, AV.i64 0, AV.nilsl, AV.nilsl]) rfl rfl rfl (LOp.build (qs := []) zer48 zok48 und48 plc48 rfl trivial rfl) ?_
      refine ROps.store_le (r := AV.agg [AV.i64 0, AV.i64 0, AV.nilsl, AV.nilsl]) (l' := [AV.i64 0, AV.i64 0, AV.nilsl, AV.nilsl]) (Γ' := [⟨1, some [AV.i64 0, AV.i64 0, AV.nilsl, AV.nilsl]⟩, ⟨0, none⟩, ⟨0, none⟩, ⟨0, none⟩, ⟨0, none⟩, ⟨0, none⟩, ⟨0, none⟩, ⟨0, none⟩]) rfl siz48 rfl rfl rfl (ALe.refl _) rfl rfl rfl rfl (Nat.le_of_ble_eq_true rfl) rfl rfl ?_
      refine ROps.l (r := AV.nilsl) rfl rfl rfl (LOp.assign rfl rfl) ?_
      refine ROps.l (r := AV.i64 0) rfl rfl rfl (LOp.assign rfl rfl) ?_
      refine ROps.l (r := AV.b false) rfl rfl rfl (LOp.assign rfl rfl) ?_
      refine ROps.nil ?_
      refine RunC.nil_cell (l' := [AV.i64 0, AV.i64 0, AV.oref 1 1 0 0, AV.nilsl]) (Γ' := [⟨1, some [AV.i64 0, AV.i64 0, AV.oref 1 1 0 0, AV.nilsl]⟩, ⟨1, some (([] : List F).map AV.f32)⟩, ⟨0, none⟩, ⟨0, none⟩, ⟨0, none⟩, ⟨0, none⟩, ⟨0, none⟩, ⟨0, none⟩]) 0 2 1 rfl rfl rfl rfl rfl ?_
      refine RunC.nil_cell (l' := [AV.i64 0, AV.i64 0, AV.oref 1 1 0 0, AV.oref 2 1 0 0]) (Γ' := [⟨1, some [AV.i64 0, AV.i64 0, AV.oref 1 1 0 0, AV.oref 2 1 0 0]⟩, ⟨1, some (([] : List F).map AV.f32)⟩, ⟨1, some (([] : List Int).map AV.i64)⟩, ⟨0, none⟩, ⟨0, none⟩, ⟨0, none⟩, ⟨0, none⟩, ⟨0, none⟩]) 0 3 2 rfl rfl rfl rfl rfl ?_
      refine RunC.nil_slot (Γ' := [⟨1, some [AV.i64 0, AV.i64 0, AV.oref 1 1 0 0, AV.oref 2 1 0 0]⟩, ⟨1, some (([] : List F).map AV.f32)⟩, ⟨1, some (([] : List Int).map AV.i64)⟩, ⟨1, some (([] : List Int).map AV.i64)⟩, ⟨0, none⟩, ⟨0, none⟩, ⟨0, none⟩, ⟨0, none⟩]) 5 3 rfl rfl rfl ?_
      refine RunC.ret ?_
      have hq := Option.some.inj h
      obtain ⟨hq0, hq⟩ := Prod.mk.inj hq
      obtain ⟨hq1, hq⟩ := Prod.mk.inj hq
      obtain ⟨hq2, hq⟩ := Prod.mk.inj hq
      obtain ⟨hq3, hq⟩ := Prod.mk.inj hq
      obtain ⟨hq4, hq⟩ := Prod.mk.inj hq
      obtain ⟨hq5, hq⟩ := Prod.mk.inj hq
      subst q0
      subst q1
      subst q2
      subst q3
      subst q4
      subst q5
      subst q6
      exact bodyQ.mk (r' := AV.tup [AV.agg [AV.i64 0, AV.i64 0, AV.oref 1 1 0 (([] : List F).length), AV.oref 2 1 0 (([] : List Int).length)], AV.oref 3 1 0 (([] : List Int).length), AV.i64 0, AV.b false]) [(1, 1), (2, 1), (3, 1)] (.inr rfl) rfl (show List.Nodup [1, 2, 3] from by decide) rfl rfl (Res.eq (Res.four rfl (RV.cell agg48 siz48 rfl rfl rfl rfl) (RV.tmp rfl) (RV.tmp rfl) (RV.tmp rfl)) (by rw [(show ([] : List F).length = 0 from rfl), (show ([] : List Int).length = 0 from rfl)] <;> rfl)) (SelL.arr0 (f := AV.f32) (fun _ => rfl) rfl (SelL.arr0 (f := AV.i64) (fun _ => rfl) rfl (SelL.arr0 (f := AV.i64) (fun _ => rfl) rfl trivial)))
  · refine RunC.regionW ?_
    refine ROps.l (r := AV.agg [AV.i64 a0, AV.i64 a1, AV.sl a2.length (a2.map AV.f32)]) rfl rfl rfl (LOp.loadAgg agg27 siz27 rfl rfl rfl rfl) ?_
    refine ROps.d (r := AV.b false) (fs := []) (Γ' := [⟨1, some [AV.i64 0, AV.i64 0, AV.nilsl, AV.nilsl]⟩, ⟨0, none⟩, ⟨0, none⟩, ⟨0, none⟩, ⟨0, none⟩, ⟨0, none⟩, ⟨0, none⟩, ⟨0, none⟩]) rfl rfl rfl (TOp.eqb (TOp.callB (CallAs.func ent59 rfl rfl) (Bors.cons (Bor.agg (Bors.cons (Bor.pure rfl) (Bors.cons (Bor.pure rfl) (Bors.cons (Bor.sl (fun _ => rfl)) Bors.nil)))) Bors.nil) rfl rfl (i_isSquare_ok a0 a1 a2 r1 hf1)) hc2) rfl ?_
    refine ROps.l (r := AV.b true) rfl rfl rfl (LOp.eqb (LOp.not rfl rfl) rfl) ?_
    refine ROps.l (r := AV.b true) rfl rfl rfl (LOp.move rfl rfl) ?_
    refine ROps.s rfl rfl rfl ?_
    refine ROps.s rfl rfl rfl ?_
    refine ROps.s rfl rfl rfl ?_
    refine ROps.l (r := AV.b true) rfl rfl rfl (LOp.pick_true rfl rfl rfl) ?_
    refine ROps.l (r := AV.b true) rfl rfl rfl (LOp.move rfl rfl) ?_
    refine ROps.s rfl rfl rfl ?_
    refine ROps.s rfl rfl rfl ?_
    refine ROps.l (r := AV.b true) rfl rfl rfl (LOp.pick_true rfl rfl rfl) ?_
    refine ROps.nil ?_
    refine RunC.wl (τ' := [(1, AV.f32 a3), (2, AV.ptr [AV.i64 a0, AV.i64 a1, AV.sl a2.length (a2.map AV.f32)]), (4, AV.optr 0 1 0), (28, AV.b true)]) (Γ' := [⟨1, some [AV.i64 0, AV.i64 0, AV.nilsl, AV.nilsl]⟩, ⟨0, none⟩, ⟨0, none⟩, ⟨0, none⟩, ⟨0, none⟩, ⟨0, none⟩, ⟨0, none⟩, ⟨0, none⟩]) ⟨(ALe.refl _), (ALe.refl _), (ALe.refl _), (ALe.refl _), trivial⟩ ⟨⟨rfl, .inr rfl⟩, ⟨rfl, .inr rfl⟩, ⟨rfl, .inr rfl⟩, ⟨rfl, .inr rfl⟩, ⟨rfl, .inr rfl⟩, ⟨rfl, .inr rfl⟩, ⟨rfl, .inr rfl⟩, ⟨rfl, .inr rfl⟩, trivial⟩ ?_
    refine RunC.cond_true rfl rfl ?_
    refine RunC.seq ?_
    refine RunC.regionW ?_
    refine ROps.l (r := AV.agg [AV.i64 0, AV.i64 0, AV.nilsl, AV.nilsl]) rfl rfl rfl (LOp.build (qs := []) zer48 zok48 und48 plc48 rfl trivial rfl) ?_
    refine ROps.store_le (r := AV.agg [AV.i64 0, AV.i64 0, AV.nilsl, AV.nilsl]) (l' := [AV.i64 0, AV.i64 0, AV.nilsl, AV.nilsl]) (Γ' := [⟨1, some [AV.i64 0, AV.i64 0, AV.nilsl, AV.nilsl]⟩, ⟨0, none⟩, ⟨0, none⟩, ⟨0, none⟩, ⟨0, none⟩, ⟨0, none⟩, ⟨0, none⟩, ⟨0, none⟩]) rfl siz48 rfl rfl rfl (ALe.refl _) rfl rfl rfl rfl (Nat.le_of_ble_eq_true rfl) rfl rfl ?_
    refine ROps.l (r := AV.nilsl) rfl rfl rfl (LOp.assign rfl rfl) ?_
    refine ROps.l (r := AV.i64 0) rfl rfl rfl (LOp.assign rfl rfl) ?_
    refine ROps.l (r := AV.b false) rfl rfl rfl (LOp.assign rfl rfl) ?_
    refine ROps.nil ?_
    refine RunC.nil_cell (l' := [AV.i64 0, AV.i64 0, AV.oref 1 1 0 0, AV.nilsl]) (Γ' := [⟨1, some [AV.i64 0, AV.i64 0, AV.oref 1 1 0 0, AV.nilsl]⟩, ⟨1, some (([] : List F).map AV.f32)⟩, ⟨0, none⟩, ⟨0, none⟩, ⟨0, none⟩, ⟨0, none⟩, ⟨0, none⟩, ⟨0, none⟩]) 0 2 1 rfl rfl rfl rfl rfl ?_
    refine RunC.nil_cell (l' := [AV.i64 0, AV.i64 0, AV.oref 1 1 0 0, AV.oref 2 1 0 0]) (Γ' := [⟨1, some [AV.i64 0, AV.i64 0, AV.oref 1 1 0 0, AV.oref 2 1 0 0]⟩, ⟨1, some (([] : List F).map AV.f32)⟩, ⟨1, some (([] : List Int).map AV.i64)⟩, ⟨0, none⟩, ⟨0, none⟩, ⟨0, none⟩, ⟨0, none⟩, ⟨0, none⟩]) 0 3 2 rfl rfl rfl rfl rfl ?_
    refine RunC.nil_slot (Γ' := [⟨1, some [AV.i64 0, AV.i64 0, AV.oref 1 1 0 0, AV.oref 2 1 0 0]⟩, ⟨1, some (([] : List F).map AV.f32)⟩, ⟨1, some (([] : List Int).map AV.i64)⟩, ⟨1, some (([] : List Int).map AV.i64)⟩, ⟨0, none⟩, ⟨0, none⟩, ⟨0, none⟩, ⟨0, none⟩]) 5 3 rfl rfl rfl ?_
    refine RunC.ret ?_
    have hq := Option.some.inj h
    obtain ⟨hq0, hq⟩ := Prod.mk.inj hq
    obtain ⟨hq1, hq⟩ := Prod.mk.inj hq
    obtain ⟨hq2, hq⟩ := Prod.mk.inj hq
    obtain ⟨hq3, hq⟩ := Prod.mk.inj hq
    obtain ⟨hq4, hq⟩ := Prod.mk.inj hq
    obtain ⟨hq5, hq⟩ := Prod.mk.inj hq
    subst q0
    subst q1
    subst q2
    subst q3
    subst q4
    subst q5
    subst q6
    exact bodyQ.mk (r' := AV.tup [AV.agg [AV.i64 0, AV.i64 0, AV.oref 1 1 0 (([] : List F).length), AV.oref 2 1 0 (([] : List Int).length)], AV.oref 3 1 0 (([] : List Int).length), AV.i64 0, AV.b false]) [(1, 1), (2, 1), (3, 1)] (.inr rfl) rfl (show List.Nodup [1, 2, 3] from by decide) rfl rfl (Res.eq (Res.four rfl (RV.cell agg48 siz48 rfl rfl rfl rfl) (RV.tmp rfl) (RV.tmp rfl) (RV.tmp rfl)) (by rw [(show ([] : List F).length = 0 from rfl), (show ([] : List Int).length = 0 from rfl)] <;> rfl)) (SelL.arr0 (f := AV.f32) (fun _ => rfl) rfl (SelL.arr0 (f := AV.i64) (fun _ => rfl) rfl (SelL.arr0 (f := AV.i64) (fun _ => rfl) rfl trivial)))
noncomputable def w_sameFloat_k1 (a0 : F) (a1 : F) : Option (Bool) :=
  some (feq .f64 a0 a1)
noncomputable def w_sameFloat (a0 : F) (a1 : F) : Option (Bool) :=
  bsel (!feq .f64 a0 a0) (
    some (!feq .f64 a1 a1)) (
    bsel (!feq .f64 a1 a1) (
      some false) (
      bsel (feq .f64 a0 (some 0)) (
        bsel (feq .f64 a1 (some 0)) (
          olet (fop .quo .f64 (some 4607182418800017408) a0) fun (x1 : F) =>
          olet (fop .quo .f64 (some 4607182418800017408) a1) fun (x2 : F) =>
          some ((flt .f64 (some 0) x1) == (flt .f64 (some 0) x2))) (
          w_sameFloat_k1 a0 a1)) (
        w_sameFloat_k1 a0 a1)))
theorem w_sameFloat_ok (a0 : F) (a1 : F) (q0 : Bool) (h : w_sameFloat a0 a1 = some q0) : Ev Try.prog 21 [AV.f64 a0, AV.f64 a1] [] (AV.b q0) [] := by
  refine Ev.start Try.func21 rfl rfl 0 (τ := [(0, AV.f64 a0), (1, AV.f64 a1)]) rfl (Γ' := []) rfl (n := 37) rfl (g := 0) rfl ?_
  unfold w_sameFloat at h
  refine RunC.seq ?_
  refine RunC.regionW ?_
  refine ROps.l (r := AV.b false) rfl rfl rfl (LOp.assign rfl rfl) ?_
  refine ROps.nil ?_
  refine RunC.seq ?_
  refine RunC.seq ?_
  rcases bsel_some h with ⟨hc1, h⟩ | ⟨hc1, h⟩
  · refine RunC.regionW ?_
    refine ROps.l (r := AV.f64 a0) rfl rfl rfl (LOp.move rfl rfl) ?_
    refine ROps.l (r := AV.f64 a0) rfl rfl rfl (LOp.move rfl rfl) ?_
    refine ROps.l (r := AV.b true) rfl rfl rfl (LOp.eqb (LOp.fne rfl (OpF.tmp rfl) (OpF.tmp rfl)) hc1) ?_
    refine ROps.l (r := AV.b true) rfl rfl rfl (LOp.move rfl rfl) ?_
    refine ROps.s rfl rfl rfl ?_
    refine ROps.s rfl rfl rfl ?_
    refine ROps.s rfl rfl rfl ?_
    refine ROps.l (r := AV.b true) rfl rfl rfl (LOp.pick_true rfl rfl rfl) ?_
    refine ROps.nil ?_
    refine RunC.cond_true rfl rfl ?_
    refine RunC.seq ?_
    refine RunC.regionW ?_
    refine ROps.l (r := AV.f64 a0) rfl rfl rfl (LOp.move rfl rfl) ?_
    refine ROps.l (r := AV.f64 a0) rfl rfl rfl (LOp.move rfl rfl) ?_
    refine ROps.l (r := AV.b true) rfl rfl rfl (LOp.eqb (LOp.fne rfl (OpF.tmp rfl) (OpF.tmp rfl)) hc1) ?_
    refine ROps.l (r := AV.b true) rfl rfl rfl (LOp.move rfl rfl) ?_
    refine ROps.l (r := AV.f64 a1) rfl rfl rfl (LOp.move rfl rfl) ?_
    refine ROps.l (r := AV.f64 a1) rfl rfl rfl (LOp.move rfl rfl) ?_
    refine ROps.l (r := AV.b (!feq .f64 a1 a1)) rfl rfl rfl (LOp.fne rfl (OpF.tmp rfl) (OpF.tmp rfl)) ?_
    refine ROps.l (r := AV.b (!feq .f64 a1 a1)) rfl rfl rfl (LOp.pick_true rfl rfl rfl) ?_
    refine ROps.l (r := AV.b (!feq .f64 a1 a1)) rfl rfl rfl (LOp.assign rfl rfl) ?_
    refine ROps.nil ?_
    refine RunC.ret ?_
    have hq := Option.some.inj h
    subst q0
    exact bodyQ.pure (.inr rfl) rfl (Res.one rfl (RV.tmp rfl))
  · rcases bsel_some h with ⟨hc2, h⟩ | ⟨hc2, h⟩
    · refine RunC.regionW ?_
      refine ROps.l (r := AV.f64 a0) rfl rfl rfl (LOp.move rfl rfl) ?_
      refine ROps.l (r := AV.f64 a0) rfl rfl rfl (LOp.move rfl rfl) ?_
      refine ROps.l (r := AV.b false) rfl rfl rfl (LOp.eqb (LOp.fne rfl (OpF.tmp rfl) (OpF.tmp rfl)) hc1) ?_
      refine ROps.l (r := AV.b false) rfl rfl rfl (LOp.move rfl rfl) ?_
      refine ROps.l (r := AV.f64 a1) rfl rfl rfl (LOp.move rfl rfl) ?_
      refine ROps.l (r := AV.f64 a1) rfl rfl rfl (LOp.move rfl rfl) ?_
      refine ROps.l (r := AV.b true) rfl rfl rfl (LOp.eqb (LOp.fne rfl (OpF.tmp rfl) (OpF.tmp rfl)) hc2) ?_
      refine ROps.l (r := AV.b true) rfl rfl rfl (LOp.pick_false rfl rfl rfl) ?_
      refine ROps.nil ?_
      refine RunC.cond_true rfl rfl ?_
      refine RunC.seq ?_
      refine RunC.regionW ?_
      refine ROps.l (r := AV.f64 a0) rfl rfl rfl (LOp.move rfl rfl) ?_
      refine ROps.l (r := AV.f64 a0) rfl rfl rfl (LOp.move rfl rfl) ?_
      refine ROps.l (r := AV.b false) rfl rfl rfl (LOp.eqb (LOp.fne rfl (OpF.tmp rfl) (OpF.tmp rfl)) hc1) ?_
      refine ROps.l (r := AV.b false) rfl rfl rfl (LOp.move rfl rfl) ?_
      refine ROps.s rfl rfl rfl ?_
      refine ROps.s rfl rfl rfl ?_
      refine ROps.s rfl rfl rfl ?_
      refine ROps.l (r := AV.b false) rfl rfl rfl (LOp.pick_false rfl rfl rfl) ?_
      refine ROps.l (r := AV.b false) rfl rfl rfl (LOp.assign rfl rfl) ?_
      refine ROps.nil ?_
      refine RunC.ret ?_
      have hq := Option.some.inj h
      subst q0
      exact bodyQ.pure (.inr rfl) rfl (Res.one rfl (RV.tmp rfl))
    · refine RunC.regionW ?_
      refine ROps.l (r := AV.f64 a0) rfl rfl rfl (LOp.move rfl rfl) ?_
      refine ROps.l (r := AV.f64 a0) rfl rfl rfl (LOp.move rfl rfl) ?_
      refine ROps.l (r := AV.b false) rfl rfl rfl (LOp.eqb (LOp.fne rfl (OpF.tmp rfl) (OpF.tmp rfl)) hc1) ?_
      refine ROps.l (r := AV.b false) rfl rfl rfl (LOp.move rfl rfl) ?_
      refine ROps.l (r := AV.f64 a1) rfl rfl rfl (LOp.move rfl rfl) ?_
      refine ROps.l (r := AV.f64 a1) rfl rfl rfl (LOp.move rfl rfl) ?_
      refine ROps.l (r := AV.b false) rfl rfl rfl (LOp.eqb (LOp.fne rfl (OpF.tmp rfl) (OpF.tmp rfl)) hc2) ?_
      refine ROps.l (r := AV.b false) rfl rfl rfl (LOp.pick_false rfl rfl rfl) ?_
      refine ROps.nil ?_
      refine RunC.cond_false rfl rfl ?_
      refine RunC.skip ?_
      refine RunC.seq ?_
      refine RunC.cutN (fun τ Γ =>  WeakLe τ [(0, AV.f64 a0), (1, AV.f64 a1)] ∧ DeadLe Γ [] ∧ w_sameFloat_k1 a0 a1 = some q0) ?_ ?_
      · refine RunC.seq ?_
        rcases bsel_some h with ⟨hc3, h⟩ | ⟨hc3, h⟩
        · rcases bsel_some h with ⟨hc4, h⟩ | ⟨hc4, h⟩
          · refine RunC.regionW ?_
            refine ROps.l (r := AV.f64 a0) rfl rfl rfl (LOp.move rfl rfl) ?_
            refine ROps.l (r := AV.b true) rfl rfl rfl (LOp.eqb (LOp.feq rfl (OpF.tmp rfl) (OpF.const rfl (by kernel_rfl) (by kernel_rfl))) hc3) ?_
            refine ROps.l (r := AV.b true) rfl rfl rfl (LOp.move rfl rfl) ?_
            refine ROps.l (r := AV.f64 a1) rfl rfl rfl (LOp.move rfl rfl) ?_
            refine ROps.l (r := AV.b true) rfl rfl rfl (LOp.eqb (LOp.feq rfl (OpF.tmp rfl) (OpF.const rfl (by kernel_rfl) (by kernel_rfl))) hc4) ?_
            refine ROps.l (r := AV.b true) rfl rfl rfl (LOp.pick_true rfl rfl rfl) ?_
            refine ROps.nil ?_
            refine RunC.wl (τ' := [(0, AV.f64 a0), (1, AV.f64 a1), (26, AV.b true)]) (Γ' := []) ⟨(ALe.refl _), (ALe.refl _), (ALe.refl _), trivial⟩ trivial ?_
            refine RunC.cond_true rfl rfl ?_
            refine RunC.seq ?_
            obtain ⟨x1, hx5, h⟩ := olet_some h
            obtain ⟨x2, hx6, h⟩ := olet_some h
            refine RunC.regionW ?_
            refine ROps.l (r := AV.f64 a0) rfl rfl rfl (LOp.move rfl rfl) ?_
            refine ROps.d (r := AV.f64 x1) (fs := []) (Γ' := []) rfl rfl rfl (TOp.eqr (TOp.fop (.inr (.inr (.inr rfl))) rfl (OpF.const rfl (by kernel_rfl) (by kernel_rfl)) (OpF.tmp rfl)) (congrArg (AV.f .f64) hx5)) rfl ?_
            refine ROps.l (r := AV.b (flt .f64 (some 0) x1)) rfl rfl rfl (LOp.fgt rfl (OpF.tmp rfl) (OpF.const rfl (by kernel_rfl) (by kernel_rfl))) ?_
            refine ROps.l (r := AV.f64 a1) rfl rfl rfl (LOp.move rfl rfl) ?_
            refine ROps.d (r := AV.f64 x2) (fs := []) (Γ' := []) rfl rfl rfl (TOp.eqr (TOp.fop (.inr (.inr (.inr rfl))) rfl (OpF.const rfl (by kernel_rfl) (by kernel_rfl)) (OpF.tmp rfl)) (congrArg (AV.f .f64) hx6)) rfl ?_
            refine ROps.l (r := AV.b (flt .f64 (some 0) x2)) rfl rfl rfl (LOp.fgt rfl (OpF.tmp rfl) (OpF.const rfl (by kernel_rfl) (by kernel_rfl))) ?_
            refine ROps.l (r := AV.b ((flt .f64 (some 0) x1) == (flt .f64 (some 0) x2))) rfl rfl rfl (LOp.eqlb pun4 rfl rfl rfl) ?_
            refine ROps.l (r := AV.b ((flt .f64 (some 0) x1) == (flt .f64 (some 0) x2))) rfl rfl rfl (LOp.assign rfl rfl) ?_
            refine ROps.nil ?_
            refine RunC.ret ?_
            have hq := Option.some.inj h
            subst q0
            exact bodyQ.pure (.inr rfl) rfl (Res.one rfl (RV.tmp rfl))
          · refine RunC.regionW ?_
            refine ROps.l (r := AV.f64 a0) rfl rfl rfl (LOp.move rfl rfl) ?_
            refine ROps.l (r := AV.b true) rfl rfl rfl (LOp.eqb (LOp.feq rfl (OpF.tmp rfl) (OpF.const rfl (by kernel_rfl) (by kernel_rfl))) hc3) ?_
            refine ROps.l (r := AV.b true) rfl rfl rfl (LOp.move rfl rfl) ?_
            refine ROps.l (r := AV.f64 a1) rfl rfl rfl (LOp.move rfl rfl) ?_
            refine ROps.l (r := AV.b false) rfl rfl rfl (LOp.eqb (LOp.feq rfl (OpF.tmp rfl) (OpF.const rfl (by kernel_rfl) (by kernel_rfl))) hc4) ?_
            refine ROps.l (r := AV.b false) rfl rfl rfl (LOp.pick_true rfl rfl rfl) ?_
            refine ROps.nil ?_
            refine RunC.wl (τ' := [(0, AV.f64 a0), (1, AV.f64 a1), (26, AV.b false)]) (Γ' := []) ⟨(ALe.refl _), (ALe.refl _), (ALe.refl _), trivial⟩ trivial ?_
            refine RunC.cond_false rfl rfl ?_
            refine RunC.skip ?_
            exact ⟨⟨(ALe.refl _), (ALe.refl _), trivial⟩, trivial, h⟩
        · refine RunC.regionW ?_
          refine ROps.l (r := AV.f64 a0) rfl rfl rfl (LOp.move rfl rfl) ?_
          refine ROps.l (r := AV.b false) rfl rfl rfl (LOp.eqb (LOp.feq rfl (OpF.tmp rfl) (OpF.const rfl (by kernel_rfl) (by kernel_rfl))) hc3) ?_
          refine ROps.l (r := AV.b false) rfl rfl rfl (LOp.move rfl rfl) ?_
          refine ROps.s rfl rfl rfl ?_
          refine ROps.s rfl rfl rfl ?_
          refine ROps.l (r := AV.b false) rfl rfl rfl (LOp.pick_false rfl rfl rfl) ?_
          refine ROps.nil ?_
          refine RunC.wl (τ' := [(0, AV.f64 a0), (1, AV.f64 a1), (26, AV.b false)]) (Γ' := []) ⟨(ALe.refl _), (ALe.refl _), (ALe.refl _), trivial⟩ trivial ?_
          refine RunC.cond_false rfl rfl ?_
          refine RunC.skip ?_
          exact ⟨⟨(ALe.refl _), (ALe.refl _), trivial⟩, trivial, h⟩
      · rintro τ2 Γ2 ⟨hw2, hd2, h⟩
        refine RunC.wl (τ' := [(0, AV.f64 a0), (1, AV.f64 a1)]) (Γ' := []) hw2 hd2 ?_
        unfold w_sameFloat_k1 at h
        refine RunC.seq ?_
        refine RunC.regionW ?_
        refine ROps.l (r := AV.f64 a0) rfl rfl rfl (LOp.move rfl rfl) ?_
        refine ROps.l (r := AV.f64 a1) rfl rfl rfl (LOp.move rfl rfl) ?_
        refine ROps.l (r := AV.b (feq .f64 a0 a1)) rfl rfl rfl (LOp.feq rfl (OpF.tmp rfl) (OpF.tmp rfl)) ?_
        refine ROps.l (r := AV.b (feq .f64 a0 a1)) rfl rfl rfl (LOp.assign rfl rfl) ?_
        refine ROps.nil ?_
        refine RunC.ret ?_
        have hq := Option.some.inj h
        subst q0
        exact bodyQ.pure (.inr rfl) rfl (Res.one rfl (RV.tmp rfl))
noncomputable def w_eqFloat32S_b1 (a0 : List F) (a1 : List F) (v1 : Int) : Option (LR (Int) (Unit) (Bool)) :=
  bsel (decide (v1 < (a0.length : Int))) (
    obind (at? a0 v1) fun (e2 : F) =>
    olet (fwiden e2) fun (x3 : F) =>
    obind (at? a1 v1) fun (e4 : F) =>
    olet (fwiden e4) fun (x5 : F) =>
    obind (w_sameFloat x3 x5) fun (r6 : Bool) =>
    bsel r6 (
      olet (IntKind.i64.wrap (v1 + 1)) fun (x7 : Int) =>
      some (LR.next x7)) (
      some (LR.ret false))) (
    some (LR.out ()))
noncomputable def w_eqFloat32S_s1 (a0 : List F) (a1 : List F) : (Int) → Option (LR (Int) (Unit) (Bool)) := fun s => w_eqFloat32S_b1 a0 a1 s
noncomputable def w_eqFloat32S_k1  : Option (Bool) :=
  some true
noncomputable def w_eqFloat32S (a0 : List F) (a1 : List F) : Option (Bool) :=
  bsel (!decide ((a0.length : Int) = (a1.length : Int))) (
    some false) (
    obind (loopM (w_eqFloat32S_s1 a0 a1) 0) fun z => osum z (fun _ => w_eqFloat32S_k1) (fun r => some r))
theorem w_eqFloat32S_ok (a0 : List F) (a1 : List F) (q0 : Bool) (h : w_eqFloat32S a0 a1 = some q0) : Ev Try.prog 24 [AV.sl a0.length (a0.map AV.f32), AV.sl a1.length (a1.map AV.f32)] [] (AV.b q0) [] := by
  refine Ev.start Try.func24 rfl rfl 0 (τ := [(0, AV.sl a0.length (a0.map AV.f32)), (1, AV.sl a1.length (a1.map AV.f32))]) rfl (Γ' := []) rfl (n := 29) rfl (g := 0) rfl ?_
  unfold w_eqFloat32S at h
  refine RunC.seq ?_
  refine RunC.regionW ?_
  refine ROps.l (r := AV.b false) rfl rfl rfl (LOp.assign rfl rfl) ?_
  refine ROps.nil ?_
  refine RunC.seq ?_
  refine RunC.seq ?_
  rcases bsel_some h with ⟨hc1, h⟩ | ⟨hc1, h⟩
  · refine RunC.regionW ?_
    refine ROps.l (r := AV.sl a0.length (a0.map AV.f32)) rfl rfl rfl (LOp.move rfl rfl) ?_
    refine ROps.l (r := AV.i64 (a0.length : Int)) rfl rfl rfl (LOp.len_sl und22 rfl rfl) ?_
    refine ROps.l (r := AV.sl a1.length (a1.map AV.f32)) rfl rfl rfl (LOp.move rfl rfl) ?_
    refine ROps.l (r := AV.i64 (a1.length : Int)) rfl rfl rfl (LOp.len_sl und22 rfl rfl) ?_
    refine ROps.l (r := AV.b true) rfl rfl rfl (LOp.eqb (LOp.neq rfl rfl rfl) hc1) ?_
    refine ROps.nil ?_
    refine RunC.cond_true rfl rfl ?_
    refine RunC.seq ?_
    refine RunC.regionW ?_
    refine ROps.l (r := AV.b false) rfl rfl rfl (LOp.assign rfl rfl) ?_
    refine ROps.nil ?_
    refine RunC.ret ?_
    have hq := Option.some.inj h
    subst q0
    exact bodyQ.pure (.inr rfl) rfl (Res.one rfl (RV.tmp rfl))
  · refine RunC.regionW ?_
    refine ROps.l (r := AV.sl a0.length (a0.map AV.f32)) rfl rfl rfl (LOp.move rfl rfl) ?_
    refine ROps.l (r := AV.i64 (a0.length : Int)) rfl rfl rfl (LOp.len_sl und22 rfl rfl) ?_
    refine ROps.l (r := AV.sl a1.length (a1.map AV.f32)) rfl rfl rfl (LOp.move rfl rfl) ?_
    refine ROps.l (r := AV.i64 (a1.length : Int)) rfl rfl rfl (LOp.len_sl und22 rfl rfl) ?_
    refine ROps.l (r := AV.b false) rfl rfl rfl (LOp.eqb (LOp.neq rfl rfl rfl) hc1) ?_
    refine ROps.nil ?_
    refine RunC.cond_false rfl rfl ?_
    refine RunC.skip ?_
    refine RunC.seq ?_
    refine RunC.seq ?_
    refine RunC.regionW ?_
    refine ROps.l (r := AV.i64 0) rfl rfl rfl (LOp.assign rfl rfl) ?_
    refine ROps.nil ?_
    obtain ⟨z2, hz_2, h⟩ := obind_some h
    refine RunC.cutN (fun τ Γ => WeakLe τ [] ∧ DeadLe Γ [] ∧ z2 = .inl ()) ?_ ?_
    · refine RunC.block (RunC.loop (RunL.loopM (x := z2) (w_eqFloat32S_s1 a0 a1) (fun (s : Int) τ Γ => WeakLe τ [(0, AV.sl a0.length (a0.map AV.f32)), (1, AV.sl a1.length (a1.map AV.f32)), (5, AV.i64 s)] ∧ DeadLe Γ []) ?_ _ _ _ hz_2 ⟨⟨(ALe.refl _), (ALe.refl _), (ALe.refl _), trivial⟩, trivial⟩))
      rintro v1 τ2 Γ2 y2_ ⟨hw2, hd2⟩ h2_ ho2 hr2
      refine RunC.wl (τ' := [(0, AV.sl a0.length (a0.map AV.f32)), (1, AV.sl a1.length (a1.map AV.f32)), (5, AV.i64 v1)]) (Γ' := []) hw2 hd2 ?_
      replace h2_ : w_eqFloat32S_b1 a0 a1 v1 = some y2_ := h2_
      unfold w_eqFloat32S_b1 at h2_
      refine RunC.seq ?_
      refine RunC.seq ?_
      rcases bsel_some h2_ with ⟨hc2, h2_⟩ | ⟨hc2, h2_⟩
      · refine RunC.regionW ?_
        refine ROps.l (r := AV.i64 v1) rfl rfl rfl (LOp.move rfl rfl) ?_
        refine ROps.l (r := AV.sl a0.length (a0.map AV.f32)) rfl rfl rfl (LOp.move rfl rfl) ?_
        refine ROps.l (r := AV.i64 (a0.length : Int)) rfl rfl rfl (LOp.len_sl und22 rfl rfl) ?_
        refine ROps.l (r := AV.b true) rfl rfl rfl (LOp.eqb (LOp.lss rfl rfl rfl) hc2) ?_
        refine ROps.nil ?_
        refine RunC.cond_true rfl rfl ?_
        refine RunC.skip ?_
        refine RunC.seq ?_
        refine RunC.block ?_
        refine RunC.seq ?_
        obtain ⟨e2, he3, h2_⟩ := obind_some h2_
        obtain ⟨x3, hx4, h2_⟩ := olet_some h2_
        obtain ⟨e4, he5, h2_⟩ := obind_some h2_
        obtain ⟨x5, hx6, h2_⟩ := olet_some h2_
        obtain ⟨r6, hf7, h2_⟩ := obind_some h2_
        rcases bsel_some h2_ with ⟨hc8, h2_⟩ | ⟨hc8, h2_⟩
        · refine RunC.region_draw (Γ' := []) 12 mixed 
            (TR.l (r := AV.sl a0.length (a0.map AV.f32)) rfl rfl (LOp.move rfl rfl) <|
            (TR.l (r := AV.i64 v1) rfl rfl (LOp.move rfl rfl) <|
            (TR.l (r := AV.ptr [AV.f32 e2]) rfl rfl (LOp.le (LOp.ix (f := AV.f32) und22 siz25 rfl rfl rfl rfl he3) ALe.ptr) <|
            (TR.l (r := AV.f32 e2) rfl rfl (LOp.load1 agg25 rfl rfl) <|
            (TR.d (r := AV.f64 x3) (fs := []) rfl rfl (TOp.eqr (TOp.widen (src := 25) (dst := 40) ⟨_, pun25⟩ pun40 rfl (OpF.tmp rfl)) (congrArg (AV.f .f64) hx4)) <|
            (TR.l (r := AV.sl a1.length (a1.map AV.f32)) rfl rfl (LOp.move rfl rfl) <|
            (TR.l (r := AV.i64 v1) rfl rfl (LOp.move rfl rfl) <|
            (TR.l (r := AV.ptr [AV.f32 e4]) rfl rfl (LOp.le (LOp.ix (f := AV.f32) und22 siz25 rfl rfl rfl rfl he5) ALe.ptr) <|
            (TR.l (r := AV.f32 e4) rfl rfl (LOp.load1 agg25 rfl rfl) <|
            (TR.d (r := AV.f64 x5) (fs := []) rfl rfl (TOp.eqr (TOp.widen (src := 25) (dst := 40) ⟨_, pun25⟩ pun40 rfl (OpF.tmp rfl)) (congrArg (AV.f .f64) hx6)) <|
            (TR.d (r := AV.b true) (fs := []) rfl rfl (TOp.eqb (TOp.callB (CallAs.func ent21 rfl rfl) (Bors.cons (Bor.pure rfl) (Bors.cons (Bor.pure rfl) Bors.nil)) rfl rfl (w_sameFloat_ok x3 x5 r6 hf7)) hc8) <|
            (TR.l (r := AV.b false) rfl rfl (LOp.eqb (LOp.not rfl rfl) rfl) <|
            TR.nil)))))))))))) rfl (by kernel_rfl) rfl fills_nil rfl ?_
          iterate 12 refine ROps.dropS ?_
          refine ROps.drop0 ?_
          refine ROps.nil ?_
          refine RunC.wl (τ' := [(0, AV.sl a0.length (a0.map AV.f32)), (1, AV.sl a1.length (a1.map AV.f32)), (5, AV.i64 v1), (28, AV.b false)]) (Γ' := []) ⟨(ALe.refl _), (ALe.refl _), (ALe.refl _), (ALe.refl _), trivial⟩ trivial ?_
          refine RunC.cond_false rfl rfl ?_
          refine RunC.skip ?_
          obtain ⟨x7, hx9, h2_⟩ := olet_some h2_
          refine RunC.regionW ?_
          refine ROps.l (r := AV.i64 v1) rfl rfl rfl (LOp.move rfl rfl) ?_
          refine ROps.l (r := AV.i64 x7) rfl rfl rfl (LOp.eqr (LOp.add rfl rfl rfl) (congrArg (AV.ik .i64) hx9)) ?_
          refine ROps.l (r := AV.i64 x7) rfl rfl rfl (LOp.assign rfl rfl) ?_
          refine ROps.nil ?_
          cases Option.some.inj h2_
          exact ⟨_, rfl, ⟨(ALe.refl _), (ALe.refl _), (ALe.refl _), trivial⟩, trivial⟩
        · refine RunC.region_draw (Γ' := []) 12 mixed 
            (TR.l (r := AV.sl a0.length (a0.map AV.f32)) rfl rfl (LOp.move rfl rfl) <|
            (TR.l (r := AV.i64 v1) rfl rfl (LOp.move rfl rfl) <|
            (TR.l (r := AV.ptr [AV.f32 e2]) rfl rfl (LOp.le (LOp.ix (f := AV.f32) und22 siz25 rfl rfl rfl rfl he3) ALe.ptr) <|
            (TR.l (r := AV.f32 e2) rfl rfl (LOp.load1 agg25 rfl rfl) <|
            (TR.d (r := AV.f64 x3) (fs := []) rfl rfl (TOp.eqr (TOp.widen (src := 25) (dst := 40) ⟨_, pun25⟩ pun40 rfl (OpF.tmp rfl)) (congrArg (AV.f .f64) hx4)) <|
            (TR.l (r := AV.sl a1.length (a1.map AV.f32)) rfl rfl (LOp.move rfl rfl) <|
            (TR.l (r := AV.i64 v1) rfl rfl (LOp.move rfl rfl) <|
            (TR.l (r := AV.ptr [AV.f32 e4]) rfl rfl (LOp.le (LOp.ix (f := AV.f32) und22 siz25 rfl rfl rfl rfl he5) ALe.ptr) <|
            (TR.l (r := AV.f32 e4) rfl rfl (LOp.load1 agg25 rfl rfl) <|
            (TR.d (r := AV.f64 x5) (fs := []) rfl rfl (TOp.eqr (TOp.widen (src := 25) (dst := 40) ⟨_, pun25⟩ pun40 rfl (OpF.tmp rfl)) (congrArg (AV.f .f64) hx6)) <|
            (TR.d (r := AV.b false) (fs := []) rfl rfl (TOp.eqb (TOp.callB (CallAs.func ent21 rfl rfl) (Bors.cons (Bor.pure rfl) (Bors.cons (Bor.pure rfl) Bors.nil)) rfl rfl (w_sameFloat_ok x3 x5 r6 hf7)) hc8) <|
            (TR.l (r := AV.b true) rfl rfl (LOp.eqb (LOp.not rfl rfl) rfl) <|
            TR.nil)))))))))))) rfl (by kernel_rfl) rfl fills_nil rfl ?_
          iterate 12 refine ROps.dropS ?_
          refine ROps.drop0 ?_
          refine ROps.nil ?_
          refine RunC.wl (τ' := [(0, AV.sl a0.length (a0.map AV.f32)), (1, AV.sl a1.length (a1.map AV.f32)), (5, AV.i64 v1), (28, AV.b true)]) (Γ' := []) ⟨(ALe.refl _), (ALe.refl _), (ALe.refl _), (ALe.refl _), trivial⟩ trivial ?_
          refine RunC.cond_true rfl rfl ?_
          refine RunC.seq ?_
          refine RunC.regionW ?_
          refine ROps.l (r := AV.b false) rfl rfl rfl (LOp.assign rfl rfl) ?_
          refine ROps.nil ?_
          refine RunC.ret ?_
          cases Option.some.inj h2_
          have hx3_ := hr2 _ rfl
          subst hx3_
          have hq := Option.some.inj h
          subst q0
          exact bodyQ.pure (.inr rfl) rfl (Res.one rfl (RV.tmp rfl))
      · refine RunC.regionW ?_
        refine ROps.l (r := AV.i64 v1) rfl rfl rfl (LOp.move rfl rfl) ?_
        refine ROps.l (r := AV.sl a0.length (a0.map AV.f32)) rfl rfl rfl (LOp.move rfl rfl) ?_
        refine ROps.l (r := AV.i64 (a0.length : Int)) rfl rfl rfl (LOp.len_sl und22 rfl rfl) ?_
        refine ROps.l (r := AV.b false) rfl rfl rfl (LOp.eqb (LOp.lss rfl rfl rfl) hc2) ?_
        refine ROps.nil ?_
        refine RunC.cond_false rfl rfl ?_
        refine RunC.exit ?_
        cases Option.some.inj h2_
        have hx := ho2 _ rfl
        exact ⟨trivial, trivial, hx⟩
    · rintro τ4 Γ4 ⟨hw4, hd4, rfl⟩
      refine RunC.wl (τ' := []) (Γ' := []) hw4 hd4 ?_
      replace h : w_eqFloat32S_k1 = some q0 := h
      unfold w_eqFloat32S_k1 at h
      refine RunC.seq ?_
      refine RunC.regionW ?_
      refine ROps.l (r := AV.b true) rfl rfl rfl (LOp.assign rfl rfl) ?_
      refine ROps.nil ?_
      refine RunC.ret ?_
      have hq := Option.some.inj h
      subst q0
      exact bodyQ.pure (.inr rfl) rfl (Res.one rfl (RV.tmp rfl))
noncomputable def w_eqMatrix (a0 : Int) (a1 : Int) (a2 : List F) (a3 : Int) (a4 : Int) (a5 : List F) : Option (Bool) :=
  bsel (!decide (a0 = a3)) (
    some false) (
    bsel (!decide (a1 = a4)) (
      some false) (
      obind (w_eqFloat32S a2 a5) fun (r1 : Bool) =>
      bsel r1 (
        some true) (
        some false)))
theorem w_eqMatrix_ok (a0 : Int) (a1 : Int) (a2 : List F) (a3 : Int) (a4 : Int) (a5 : List F) (q0 : Bool) (h : w_eqMatrix a0 a1 a2 a3 a4 a5 = some q0) : Ev Try.prog 13 [AV.agg [AV.i64 a0, AV.i64 a1, AV.sl a2.length (a2.map AV.f32)], AV.agg [AV.i64 a3, AV.i64 a4, AV.sl a5.length (a5.map AV.f32)]] [] (AV.b q0) [] := by
  refine Ev.start Try.func13 rfl rfl 0 (τ := [(0, AV.agg [AV.i64 a0, AV.i64 a1, AV.sl a2.length (a2.map AV.f32)]), (1, AV.agg [AV.i64 a3, AV.i64 a4, AV.sl a5.length (a5.map AV.f32)])]) rfl (Γ' := []) rfl (n := 21) rfl (g := 0) rfl ?_
  unfold w_eqMatrix at h
  refine RunC.seq ?_
  refine RunC.regionW ?_
  refine ROps.d (r := AV.ptr [AV.i64 a0, AV.i64 a1, AV.sl a2.length (a2.map AV.f32)]) (fs := []) (Γ' := []) rfl rfl rfl (TOp.box_s rfl rfl rfl) rfl ?_
  refine ROps.d (r := AV.ptr [AV.i64 a3, AV.i64 a4, AV.sl a5.length (a5.map AV.f32)]) (fs := []) (Γ' := []) rfl rfl rfl (TOp.box_s rfl rfl rfl) rfl ?_
  refine ROps.l (r := AV.b false) rfl rfl rfl (LOp.assign rfl rfl) ?_
  refine ROps.nil ?_
  refine RunC.seq ?_
  refine RunC.seq ?_
  rcases bsel_some h with ⟨hc1, h⟩ | ⟨hc1, h⟩
  · refine RunC.regionW ?_
    refine ROps.l (r := AV.ptr [AV.i64 a0, AV.i64 a1, AV.sl a2.length (a2.map AV.f32)]) rfl rfl rfl (LOp.fap und27 rfl siz2 rfl rfl rfl) ?_
    refine ROps.l (r := AV.i64 a0) rfl rfl rfl (LOp.load1 agg2 rfl rfl) ?_
    refine ROps.l (r := AV.ptr [AV.i64 a3, AV.i64 a4, AV.sl a5.length (a5.map AV.f32)]) rfl rfl rfl (LOp.fap und27 rfl siz2 rfl rfl rfl) ?_
    refine ROps.l (r := AV.i64 a3) rfl rfl rfl (LOp.load1 agg2 rfl rfl) ?_
    refine ROps.l (r := AV.b true) rfl rfl rfl (LOp.eqb (LOp.neq rfl rfl rfl) hc1) ?_
    refine ROps.nil ?_
    refine RunC.cond_true rfl rfl ?_
    refine RunC.seq ?_
    refine RunC.regionW ?_
    refine ROps.l (r := AV.b false) rfl rfl rfl (LOp.assign rfl rfl) ?_
    refine ROps.nil ?_
    refine RunC.ret ?_
    have hq := Option.some.inj h
    subst q0
    exact bodyQ.pure (.inr rfl) rfl (Res.one rfl (RV.tmp rfl))
  · refine RunC.regionW ?_
    refine ROps.l (r := AV.ptr [AV.i64 a0, AV.i64 a1, AV.sl a2.length (a2.map AV.f32)]) rfl rfl rfl (LOp.fap und27 rfl siz2 rfl rfl rfl) ?_
    refine ROps.l (r := AV.i64 a0) rfl rfl rfl (LOp.load1 agg2 rfl rfl) ?_
    refine ROps.l (r := AV.ptr [AV.i64 a3, AV.i64 a4, AV.sl a5.length (a5.map AV.f32)]) rfl rfl rfl (LOp.fap und27 rfl siz2 rfl rfl rfl) ?_
    refine ROps.l (r := AV.i64 a3) rfl rfl rfl (LOp.load1 agg2 rfl rfl) ?_
    refine ROps.l (r := AV.b false) rfl rfl rfl (LOp.eqb (LOp.neq rfl rfl rfl) hc1) ?_
    refine ROps.nil ?_
    refine RunC.cond_false rfl rfl ?_
    refine RunC.skip ?_
    refine RunC.seq ?_
    refine RunC.seq ?_
    rcases bsel_some h with ⟨hc2, h⟩ | ⟨hc2, h⟩
    · refine RunC.regionW ?_
      refine ROps.l (r := AV.ptr [AV.i64 a1, AV.sl a2.length (a2.map AV.f32)]) rfl rfl rfl (LOp.fap und27 rfl siz2 rfl rfl rfl) ?_
      refine ROps.l (r := AV.i64 a1) rfl rfl rfl (LOp.load1 agg2 rfl rfl) ?_
      refine ROps.l (r := AV.ptr [AV.i64 a4, AV.sl a5.length (a5.map AV.f32)]) rfl rfl rfl (LOp.fap und27 rfl siz2 rfl rfl rfl) ?_
      refine ROps.l (r := AV.i64 a4) rfl rfl rfl (LOp.load1 agg2 rfl rfl) ?_
      refine ROps.l (r := AV.b true) rfl rfl rfl (LOp.eqb (LOp.neq rfl rfl rfl) hc2) ?_
      refine ROps.nil ?_
      refine RunC.cond_true rfl rfl ?_
      refine RunC.seq ?_
      refine RunC.regionW ?_
      refine ROps.l (r := AV.b false) rfl rfl rfl (LOp.assign rfl rfl) ?_
      refine ROps.nil ?_
      refine RunC.ret ?_
      have hq := Option.some.inj h
      subst q0
      exact bodyQ.pure (.inr rfl) rfl (Res.one rfl (RV.tmp rfl))
    · refine RunC.regionW ?_
      refine ROps.l (r := AV.ptr [AV.i64 a1, AV.sl a2.length (a2.map AV.f32)]) rfl rfl rfl (LOp.fap und27 rfl siz2 rfl rfl rfl) ?_
      refine ROps.l (r := AV.i64 a1) rfl rfl rfl (LOp.load1 agg2 rfl rfl) ?_
      refine ROps.l (r := AV.ptr [AV.i64 a4, AV.sl a5.length (a5.map AV.f32)]) rfl rfl rfl (LOp.fap und27 rfl siz2 rfl rfl rfl) ?_
      refine ROps.l (r := AV.i64 a4) rfl rfl rfl (LOp.load1 agg2 rfl rfl) ?_
      refine ROps.l (r := AV.b false) rfl rfl rfl (LOp.eqb (LOp.neq rfl rfl rfl) hc2) ?_
      refine ROps.nil ?_
      refine RunC.cond_false rfl rfl ?_
      refine RunC.skip ?_
      refine RunC.wl (τ' := [(2, AV.ptr [AV.i64 a0, AV.i64 a1, AV.sl a2.length (a2.map AV.f32)]), (3, AV.ptr [AV.i64 a3, AV.i64 a4, AV.sl a5.length (a5.map AV.f32)])]) (Γ' := []) ⟨(ALe.refl _), (ALe.refl _), trivial⟩ trivial ?_
      refine RunC.seq ?_
      refine RunC.seq ?_
      obtain ⟨r1, hf3, h⟩ := obind_some h
      rcases bsel_some h with ⟨hc4, h⟩ | ⟨hc4, h⟩
      · refine RunC.regionW ?_
        refine ROps.l (r := AV.ptr [AV.sl a2.length (a2.map AV.f32)]) rfl rfl rfl (LOp.fap und27 rfl siz22 rfl rfl rfl) ?_
        refine ROps.l (r := AV.sl a2.length (a2.map AV.f32)) rfl rfl rfl (LOp.load1 agg22 rfl rfl) ?_
        refine ROps.l (r := AV.ptr [AV.sl a5.length (a5.map AV.f32)]) rfl rfl rfl (LOp.fap und27 rfl siz22 rfl rfl rfl) ?_
        refine ROps.l (r := AV.sl a5.length (a5.map AV.f32)) rfl rfl rfl (LOp.load1 agg22 rfl rfl) ?_
        refine ROps.d (r := AV.b true) (fs := []) (Γ' := []) rfl rfl rfl (TOp.eqb (TOp.callB (CallAs.func ent24 rfl rfl) (Bors.cons (Bor.sl (fun _ => rfl)) (Bors.cons (Bor.sl (fun _ => rfl)) Bors.nil)) rfl rfl (w_eqFloat32S_ok a2 a5 r1 hf3)) hc4) rfl ?_
        refine ROps.l (r := AV.b false) rfl rfl rfl (LOp.eqb (LOp.not rfl rfl) rfl) ?_
        refine ROps.nil ?_
        refine RunC.cond_false rfl rfl ?_
        refine RunC.skip ?_
        refine RunC.seq ?_
        refine RunC.regionW ?_
        refine ROps.l (r := AV.b true) rfl rfl rfl (LOp.assign rfl rfl) ?_
        refine ROps.nil ?_
        refine RunC.ret ?_
        have hq := Option.some.inj h
        subst q0
        exact bodyQ.pure (.inr rfl) rfl (Res.one rfl (RV.tmp rfl))
      · refine RunC.regionW ?_
        refine ROps.l (r := AV.ptr [AV.sl a2.length (a2.map AV.f32)]) rfl rfl rfl (LOp.fap und27 rfl siz22 rfl rfl rfl) ?_
        refine ROps.l (r := AV.sl a2.length (a2.map AV.f32)) rfl rfl rfl (LOp.load1 agg22 rfl rfl) ?_
        refine ROps.l (r := AV.ptr [AV.sl a5.length (a5.map AV.f32)]) rfl rfl rfl (LOp.fap und27 rfl siz22 rfl rfl rfl) ?_
        refine ROps.l (r := AV.sl a5.length (a5.map AV.f32)) rfl rfl rfl (LOp.load1 agg22 rfl rfl) ?_
        refine ROps.d (r := AV.b false) (fs := []) (Γ' := []) rfl rfl rfl (TOp.eqb (TOp.callB (CallAs.func ent24 rfl rfl) (Bors.cons (Bor.sl (fun _ => rfl)) (Bors.cons (Bor.sl (fun _ => rfl)) Bors.nil)) rfl rfl (w_eqFloat32S_ok a2 a5 r1 hf3)) hc4) rfl ?_
        refine ROps.l (r := AV.b true) rfl rfl rfl (LOp.eqb (LOp.not rfl rfl) rfl) ?_
        refine ROps.nil ?_
        refine RunC.cond_true rfl rfl ?_
        refine RunC.seq ?_
        refine RunC.regionW ?_
        refine ROps.l (r := AV.b false) rfl rfl rfl (LOp.assign rfl rfl) ?_
        refine ROps.nil ?_
        refine RunC.ret ?_
        have hq := Option.some.inj h
        subst q0
        exact bodyQ.pure (.inr rfl) rfl (Res.one rfl (RV.tmp rfl))
noncomputable def w_eqInt64S_b1 (a0 : List Int) (a1 : List Int) (v1 : Int) : Option (LR (Int) (Unit) (Bool)) :=
  bsel (decide (v1 < (a0.length : Int))) (
    obind (at? a0 v1) fun (e2 : Int) =>
    obind (at? a1 v1) fun (e3 : Int) =>
    bsel (!decide (e2 = e3)) (
      some (LR.ret false)) (
      olet (IntKind.i64.wrap (v1 + 1)) fun (x4 : Int) =>
      some (LR.next x4))) (
    some (LR.out ()))
noncomputable def w_eqInt64S_s1 (a0 : List Int) (a1 : List Int) : (Int) → Option (LR (Int) (Unit) (Bool)) := fun s => w_eqInt64S_b1 a0 a1 s
noncomputable def w_eqInt64S_k1  : Option (Bool) :=
  some true
noncomputable def w_eqInt64S (a0 : List Int) (a1 : List Int) : Option (Bool) :=
  bsel (!decide ((a0.length : Int) = (a1.length : Int))) (
    some false) (
    obind (loopM (w_eqInt64S_s1 a0 a1) 0) fun z => osum z (fun _ => w_eqInt64S_k1) (fun r => some r))
theorem w_eqInt64S_ok (a0 : List Int) (a1 : List Int) (q0 : Bool) (h : w_eqInt64S a0 a1 = some q0) : Ev Try.prog 14 [AV.sl a0.length (a0.map AV.i64), AV.sl a1.length (a1.map AV.i64)] [] (AV.b q0) [] := by
  refine Ev.start Try.func14 rfl rfl 0 (τ := [(0, AV.sl a0.length (a0.map AV.i64)), (1, AV.sl a1.length (a1.map AV.i64))]) rfl (Γ' := []) rfl (n := 26) rfl (g := 0) rfl ?_
  unfold w_eqInt64S at h
  refine RunC.seq ?_
  refine RunC.regionW ?_
  refine ROps.l (r := AV.b false) rfl rfl rfl (LOp.assign rfl rfl) ?_
  refine ROps.nil ?_
  refine RunC.seq ?_
  refine RunC.seq ?_
  rcases bsel_some h with ⟨hc1, h⟩ | ⟨hc1, h⟩
  · refine RunC.regionW ?_
    refine ROps.l (r := AV.sl a0.length (a0.map AV.i64)) rfl rfl rfl (LOp.move rfl rfl) ?_
    refine ROps.l (r := AV.i64 (a0.length : Int)) rfl rfl rfl (LOp.len_sl und28 rfl rfl) ?_
    refine ROps.l (r := AV.sl a1.length (a1.map AV.i64)) rfl rfl rfl (LOp.move rfl rfl) ?_
    refine ROps.l (r := AV.i64 (a1.length : Int)) rfl rfl rfl (LOp.len_sl und28 rfl rfl) ?_
    refine ROps.l (r := AV.b true) rfl rfl rfl (LOp.eqb (LOp.neq rfl rfl rfl) hc1) ?_
    refine ROps.nil ?_
    refine RunC.cond_true rfl rfl ?_
    refine RunC.seq ?_
    refine RunC.regionW ?_
    refine ROps.l (r := AV.b false) rfl rfl rfl (LOp.assign rfl rfl) ?_
    refine ROps.nil ?_
    refine RunC.ret ?_
    have hq := Option.some.inj h
    subst q0
    exact bodyQ.pure (.inr rfl) rfl (Res.one rfl (RV.tmp rfl))
  · refine RunC.regionW ?_
    refine ROps.l (r := AV.sl a0.length (a0.map AV.i64)) rfl rfl rfl (LOp.move rfl rfl) ?_
    refine ROps.l (r := AV.i64 (a0.length : Int)) rfl rfl rfl (LOp.len_sl und28 rfl rfl) ?_
    refine ROps.l (r := AV.sl a1.length (a1.map AV.i64)) rfl rfl rfl (LOp.move rfl rfl) ?_
    refine ROps.l (r := AV.i64 (a1.length : Int)) rfl rfl rfl (LOp.len_sl und28 rfl rfl) ?_
    refine ROps.l (r := AV.b false) rfl rfl rfl (LOp.eqb (LOp.neq rfl rfl rfl) hc1) ?_
    refine ROps.nil ?_
    refine RunC.cond_false rfl rfl ?_
    refine RunC.skip ?_
    refine RunC.seq ?_
    refine RunC.seq ?_
    refine RunC.regionW ?_
    refine ROps.l (r := AV.i64 0) rfl rfl rfl (LOp.assign rfl rfl) ?_
    refine ROps.nil ?_
    obtain ⟨z2, hz_2, h⟩ := obind_some h
    refine RunC.cutN (fun τ Γ => WeakLe τ [] ∧ DeadLe Γ [] ∧ z2 = .inl ()) ?_ ?_
    · refine RunC.block (RunC.loop (RunL.loopM (x := z2) (w_eqInt64S_s1 a0 a1) (fun (s : Int) τ Γ => WeakLe τ [(0, AV.sl a0.length (a0.map AV.i64)), (1, AV.sl a1.length (a1.map AV.i64)), (5, AV.i64 s)] ∧ DeadLe Γ []) ?_ _ _ _ hz_2 ⟨⟨(ALe.refl _), (ALe.refl _), (ALe.refl _), trivial⟩, trivial⟩))
      rintro v1 τ2 Γ2 y2_ ⟨hw2, hd2⟩ h2_ ho2 hr2
      refine RunC.wl (τ' := [(0, AV.sl a0.length (a0.map AV.i64)), (1, AV.sl a1.length (a1.map AV.i64)), (5, AV.i64 v1)]) (Γ' := []) hw2 hd2 ?_
      replace h2_ : w_eqInt64S_b1 a0 a1 v1 = some y2_ := h2_
      unfold w_eqInt64S_b1 at h2_
      refine RunC.seq ?_
      refine RunC.seq ?_
      rcases bsel_some h2_ with ⟨hc2, h2_⟩ | ⟨hc2, h2_⟩
      · refine RunC.regionW ?_
        refine ROps.l (r := AV.i64 v1) rfl rfl rfl (LOp.move rfl rfl) ?_
        refine ROps.l (r := AV.sl a0.length (a0.map AV.i64)) rfl rfl rfl (LOp.move rfl rfl) ?_
        refine ROps.l (r := AV.i64 (a0.length : Int)) rfl rfl rfl (LOp.len_sl und28 rfl rfl) ?_
        refine ROps.l (r := AV.b true) rfl rfl rfl (LOp.eqb (LOp.lss rfl rfl rfl) hc2) ?_
        refine ROps.nil ?_
        refine RunC.cond_true rfl rfl ?_
        refine RunC.skip ?_
        refine RunC.seq ?_
        refine RunC.block ?_
        refine RunC.seq ?_
        obtain ⟨e2, he3, h2_⟩ := obind_some h2_
        obtain ⟨e3, he4, h2_⟩ := obind_some h2_
        rcases bsel_some h2_ with ⟨hc5, h2_⟩ | ⟨hc5, h2_⟩
        · refine RunC.region_draw (Γ' := []) 9 mixed 
            (TR.l (r := AV.sl a0.length (a0.map AV.i64)) rfl rfl (LOp.move rfl rfl) <|
            (TR.l (r := AV.i64 v1) rfl rfl (LOp.move rfl rfl) <|
            (TR.l (r := AV.ptr [AV.i64 e2]) rfl rfl (LOp.le (LOp.ix (f := AV.i64) und28 siz2 rfl rfl rfl rfl he3) ALe.ptr) <|
            (TR.l (r := AV.i64 e2) rfl rfl (LOp.load1 agg2 rfl rfl) <|
            (TR.l (r := AV.sl a1.length (a1.map AV.i64)) rfl rfl (LOp.move rfl rfl) <|
            (TR.l (r := AV.i64 v1) rfl rfl (LOp.move rfl rfl) <|
            (TR.l (r := AV.ptr [AV.i64 e3]) rfl rfl (LOp.le (LOp.ix (f := AV.i64) und28 siz2 rfl rfl rfl rfl he4) ALe.ptr) <|
            (TR.l (r := AV.i64 e3) rfl rfl (LOp.load1 agg2 rfl rfl) <|
            (TR.l (r := AV.b true) rfl rfl (LOp.eqb (LOp.neq rfl rfl rfl) hc5) <|
            TR.nil))))))))) rfl (by kernel_rfl) rfl fills_nil rfl ?_
          iterate 9 refine ROps.dropS ?_
          refine ROps.drop0 ?_
          refine ROps.nil ?_
          refine RunC.cond_true rfl rfl ?_
          refine RunC.seq ?_
          refine RunC.regionW ?_
          refine ROps.l (r := AV.b false) rfl rfl rfl (LOp.assign rfl rfl) ?_
          refine ROps.nil ?_
          refine RunC.ret ?_
          cases Option.some.inj h2_
          have hx3_ := hr2 _ rfl
          subst hx3_
          have hq := Option.some.inj h
          subst q0
          exact bodyQ.pure (.inr rfl) rfl (Res.one rfl (RV.tmp rfl))
        · refine RunC.region_draw (Γ' := []) 9 mixed 
            (TR.l (r := AV.sl a0.length (a0.map AV.i64)) rfl rfl (LOp.move rfl rfl) <|
            (TR.l (r := AV.i64 v1) rfl rfl (LOp.move rfl rfl) <|
            (TR.l (r := AV.ptr [AV.i64 e2]) rfl rfl (LOp.le (LOp.ix (f := AV.i64) und28 siz2 rfl rfl rfl rfl he3) ALe.ptr) <|
            (TR.l (r := AV.i64 e2) rfl rfl (LOp.load1 agg2 rfl rfl) <|
            (TR.l (r := AV.sl a1.length (a1.map AV.i64)) rfl rfl (LOp.move rfl rfl) <|
            (TR.l (r := AV.i64 v1) rfl rfl (LOp.move rfl rfl) <|
            (TR.l (r := AV.ptr [AV.i64 e3]) rfl rfl (LOp.le (LOp.ix (f := AV.i64) und28 siz2 rfl rfl rfl rfl he4) ALe.ptr) <|
            (TR.l (r := AV.i64 e3) rfl rfl (LOp.load1 agg2 rfl rfl) <|
            (TR.l (r := AV.b false) rfl rfl (LOp.eqb (LOp.neq rfl rfl rfl) hc5) <|
            TR.nil))))))))) rfl (by kernel_rfl) rfl fills_nil rfl ?_
          iterate 9 refine ROps.dropS ?_
          refine ROps.drop0 ?_
          refine ROps.nil ?_
          refine RunC.cond_false rfl rfl ?_
          refine RunC.skip ?_
          refine RunC.wl (τ' := [(0, AV.sl a0.length (a0.map AV.i64)), (1, AV.sl a1.length (a1.map AV.i64)), (5, AV.i64 v1)]) (Γ' := []) ⟨(ALe.refl _), (ALe.refl _), (ALe.refl _), trivial⟩ trivial ?_
          obtain ⟨x4, hx6, h2_⟩ := olet_some h2_
          refine RunC.regionW ?_
          refine ROps.l (r := AV.i64 v1) rfl rfl rfl (LOp.move rfl rfl) ?_
          refine ROps.l (r := AV.i64 x4) rfl rfl rfl (LOp.eqr (LOp.add rfl rfl rfl) (congrArg (AV.ik .i64) hx6)) ?_
          refine ROps.l (r := AV.i64 x4) rfl rfl rfl (LOp.assign rfl rfl) ?_
          refine ROps.nil ?_
          cases Option.some.inj h2_
          exact ⟨_, rfl, ⟨(ALe.refl _), (ALe.refl _), (ALe.refl _), trivial⟩, trivial⟩
      · refine RunC.regionW ?_
        refine ROps.l (r := AV.i64 v1) rfl rfl rfl (LOp.move rfl rfl) ?_
        refine ROps.l (r := AV.sl a0.length (a0.map AV.i64)) rfl rfl rfl (LOp.move rfl rfl) ?_
        refine ROps.l (r := AV.i64 (a0.length : Int)) rfl rfl rfl (LOp.len_sl und28 rfl rfl) ?_
        refine ROps.l (r := AV.b false) rfl rfl rfl (LOp.eqb (LOp.lss rfl rfl rfl) hc2) ?_
        refine ROps.nil ?_
        refine RunC.cond_false rfl rfl ?_
        refine RunC.exit ?_
        cases Option.some.inj h2_
        have hx := ho2 _ rfl
        exact ⟨trivial, trivial, hx⟩
    · rintro τ4 Γ4 ⟨hw4, hd4, rfl⟩
      refine RunC.wl (τ' := []) (Γ' := []) hw4 hd4 ?_
      replace h : w_eqInt64S_k1 = some q0 := h
      unfold w_eqInt64S_k1 at h
      refine RunC.seq ?_
      refine RunC.regionW ?_
      refine ROps.l (r := AV.b true) rfl rfl rfl (LOp.assign rfl rfl) ?_
      refine ROps.nil ?_
      refine RunC.ret ?_
      have hq := Option.some.inj h
      subst q0
      exact bodyQ.pure (.inr rfl) rfl (Res.one rfl (RV.tmp rfl))
noncomputable def w_eqFactor (a0 : Int) (a1 : Int) (a2 : List F) (a3 : List Int) (a4 : Int) (a5 : Int) (a6 : List F) (a7 : List Int) : Option (Bool) :=
  obind (w_eqMatrix a0 a1 a2 a4 a5 a6) fun (r1 : Bool) =>
  bsel r1 (
    obind (w_eqInt64S a3 a7) fun (r2 : Bool) =>
    bsel r2 (
      some true) (
      some false)) (
    some false)
theorem w_eqFactor_ok (a0 : Int) (a1 : Int) (a2 : List F) (a3 : List Int) (a4 : Int) (a5 : Int) (a6 : List F) (a7 : List Int) (q0 : Bool) (h : w_eqFactor a0 a1 a2 a3 a4 a5 a6 a7 = some q0) : Ev Try.prog 29 [AV.agg [AV.i64 a0, AV.i64 a1, AV.sl a2.length (a2.map AV.f32), AV.sl a3.length (a3.map AV.i64)], AV.agg [AV.i64 a4, AV.i64 a5, AV.sl a6.length (a6.map AV.f32), AV.sl a7.length (a7.map AV.i64)]] [] (AV.b q0) [] := by
  refine Ev.start Try.func29 rfl rfl 0 (τ := [(0, AV.agg [AV.i64 a0, AV.i64 a1, AV.sl a2.length (a2.map AV.f32), AV.sl a3.length (a3.map AV.i64)]), (1, AV.agg [AV.i64 a4, AV.i64 a5, AV.sl a6.length (a6.map AV.f32), AV.sl a7.length (a7.map AV.i64)])]) rfl (Γ' := []) rfl (n := 17) rfl (g := 0) rfl ?_
  unfold w_eqFactor at h
  refine RunC.seq ?_
  refine RunC.regionW ?_
  refine ROps.d (r := AV.ptr [AV.i64 a0, AV.i64 a1, AV.sl a2.length (a2.map AV.f32), AV.sl a3.length (a3.map AV.i64)]) (fs := []) (Γ' := []) rfl rfl rfl (TOp.box_s rfl rfl rfl) rfl ?_
  refine ROps.d (r := AV.ptr [AV.i64 a4, AV.i64 a5, AV.sl a6.length (a6.map AV.f32), AV.sl a7.length (a7.map AV.i64)]) (fs := []) (Γ' := []) rfl rfl rfl (TOp.box_s rfl rfl rfl) rfl ?_
  refine ROps.l (r := AV.b false) rfl rfl rfl (LOp.assign rfl rfl) ?_
  refine ROps.nil ?_
  refine RunC.seq ?_
  refine RunC.seq ?_
  obtain ⟨r1, hf1, h⟩ := obind_some h
  rcases bsel_some h with ⟨hc2, h⟩ | ⟨hc2, h⟩
  · refine RunC.regionW ?_
    refine ROps.l (r := AV.ptr [AV.i64 a0, AV.i64 a1, AV.sl a2.length (a2.map AV.f32), AV.sl a3.length (a3.map AV.i64)]) rfl rfl rfl (LOp.fap und48 rfl siz27 rfl rfl rfl) ?_
    refine ROps.l (r := AV.agg [AV.i64 a0, AV.i64 a1, AV.sl a2.length (a2.map AV.f32)]) rfl rfl rfl (LOp.loadAgg agg27 siz27 rfl rfl rfl rfl) ?_
    refine ROps.l (r := AV.ptr [AV.i64 a4, AV.i64 a5, AV.sl a6.length (a6.map AV.f32), AV.sl a7.length (a7.map AV.i64)]) rfl rfl rfl (LOp.fap und48 rfl siz27 rfl rfl rfl) ?_
    refine ROps.l (r := AV.agg [AV.i64 a4, AV.i64 a5, AV.sl a6.length (a6.map AV.f32)]) rfl rfl rfl (LOp.loadAgg agg27 siz27 rfl rfl rfl rfl) ?_
    refine ROps.d (r := AV.b true) (fs := []) (Γ' := []) rfl rfl rfl (TOp.eqb (TOp.callB (CallAs.func ent13 rfl rfl) (Bors.cons (Bor.agg (Bors.cons (Bor.pure rfl) (Bors.cons (Bor.pure rfl) (Bors.cons (Bor.sl (fun _ => rfl)) Bors.nil)))) (Bors.cons (Bor.agg (Bors.cons (Bor.pure rfl) (Bors.cons (Bor.pure rfl) (Bors.cons (Bor.sl (fun _ => rfl)) Bors.nil)))) Bors.nil)) rfl rfl (w_eqMatrix_ok a0 a1 a2 a4 a5 a6 r1 hf1)) hc2) rfl ?_
    refine ROps.l (r := AV.b false) rfl rfl rfl (LOp.eqb (LOp.not rfl rfl) rfl) ?_
    refine ROps.nil ?_
    refine RunC.cond_false rfl rfl ?_
    refine RunC.skip ?_
    refine RunC.seq ?_
    refine RunC.seq ?_
    obtain ⟨r2, hf3, h⟩ := obind_some h
    rcases bsel_some h with ⟨hc4, h⟩ | ⟨hc4, h⟩
    · refine RunC.regionW ?_
      refine ROps.l (r := AV.ptr [AV.sl a3.length (a3.map AV.i64)]) rfl rfl rfl (LOp.fap und48 rfl siz28 rfl rfl rfl) ?_
      refine ROps.l (r := AV.sl a3.length (a3.map AV.i64)) rfl rfl rfl (LOp.load1 agg28 rfl rfl) ?_
      refine ROps.l (r := AV.ptr [AV.sl a7.length (a7.map AV.i64)]) rfl rfl rfl (LOp.fap und48 rfl siz28 rfl rfl rfl) ?_
      refine ROps.l (r := AV.sl a7.length (a7.map AV.i64)) rfl rfl rfl (LOp.load1 agg28 rfl rfl) ?_
      refine ROps.d (r := AV.b true) (fs := []) (Γ' := []) rfl rfl rfl (TOp.eqb (TOp.callB (CallAs.func ent14 rfl rfl) (Bors.cons (Bor.sl (fun _ => rfl)) (Bors.cons (Bor.sl (fun _ => rfl)) Bors.nil)) rfl rfl (w_eqInt64S_ok a3 a7 r2 hf3)) hc4) rfl ?_
      refine ROps.l (r := AV.b false) rfl rfl rfl (LOp.eqb (LOp.not rfl rfl) rfl) ?_
      refine ROps.nil ?_
      refine RunC.wl (τ' := [(16, AV.b false)]) (Γ' := []) ⟨(ALe.refl _), trivial⟩ trivial ?_
      refine RunC.cond_false rfl rfl ?_
      refine RunC.skip ?_
      refine RunC.seq ?_
      refine RunC.regionW ?_
      refine ROps.l (r := AV.b true) rfl rfl rfl (LOp.assign rfl rfl) ?_
      refine ROps.nil ?_
      refine RunC.ret ?_
      have hq := Option.some.inj h
      subst q0
      exact bodyQ.pure (.inr rfl) rfl (Res.one rfl (RV.tmp rfl))
    · refine RunC.regionW ?_
      refine ROps.l (r := AV.ptr [AV.sl a3.length (a3.map AV.i64)]) rfl rfl rfl (LOp.fap und48 rfl siz28 rfl rfl rfl) ?_
      refine ROps.l (r := AV.sl a3.length (a3.map AV.i64)) rfl rfl rfl (LOp.load1 agg28 rfl rfl) ?_
      refine ROps.l (r := AV.ptr [AV.sl a7.length (a7.map AV.i64)]) rfl rfl rfl (LOp.fap und48 rfl siz28 rfl rfl rfl) ?_
      refine ROps.l (r := AV.sl a7.length (a7.map AV.i64)) rfl rfl rfl (LOp.load1 agg28 rfl rfl) ?_
      refine ROps.d (r := AV.b false) (fs := []) (Γ' := []) rfl rfl rfl (TOp.eqb (TOp.callB (CallAs.func ent14 rfl rfl) (Bors.cons (Bor.sl (fun _ => rfl)) (Bors.cons (Bor.sl (fun _ => rfl)) Bors.nil)) rfl rfl (w_eqInt64S_ok a3 a7 r2 hf3)) hc4) rfl ?_
      refine ROps.l (r := AV.b true) rfl rfl rfl (LOp.eqb (LOp.not rfl rfl) rfl) ?_
      refine ROps.nil ?_
      refine RunC.wl (τ' := [(16, AV.b true)]) (Γ' := []) ⟨(ALe.refl _), trivial⟩ trivial ?_
      refine RunC.cond_true rfl rfl ?_
      refine RunC.seq ?_
      refine RunC.regionW ?_
      refine ROps.l (r := AV.b false) rfl rfl rfl (LOp.assign rfl rfl) ?_
      refine ROps.nil ?_
      refine RunC.ret ?_
      have hq := Option.some.inj h
      subst q0
      exact bodyQ.pure (.inr rfl) rfl (Res.one rfl (RV.tmp rfl))
  · refine RunC.regionW ?_
    refine ROps.l (r := AV.ptr [AV.i64 a0, AV.i64 a1, AV.sl a2.length (a2.map AV.f32), AV.sl a3.length (a3.map AV.i64)]) rfl rfl rfl (LOp.fap und48 rfl siz27 rfl rfl rfl) ?_
    refine ROps.l (r := AV.agg [AV.i64 a0, AV.i64 a1, AV.sl a2.length (a2.map AV.f32)]) rfl rfl rfl (LOp.loadAgg agg27 siz27 rfl rfl rfl rfl) ?_
    refine ROps.l (r := AV.ptr [AV.i64 a4, AV.i64 a5, AV.sl a6.length (a6.map AV.f32), AV.sl a7.length (a7.map AV.i64)]) rfl rfl rfl (LOp.fap und48 rfl siz27 rfl rfl rfl) ?_
    refine ROps.l (r := AV.agg [AV.i64 a4, AV.i64 a5, AV.sl a6.length (a6.map AV.f32)]) rfl rfl rfl (LOp.loadAgg agg27 siz27 rfl rfl rfl rfl) ?_
    refine ROps.d (r := AV.b false) (fs := []) (Γ' := []) rfl rfl rfl (TOp.eqb (TOp.callB (CallAs.func ent13 rfl rfl) (Bors.cons (Bor.agg (Bors.cons (Bor.pure rfl) (Bors.cons (Bor.pure rfl) (Bors.cons (Bor.sl (fun _ => rfl)) Bors.nil)))) (Bors.cons (Bor.agg (Bors.cons (Bor.pure rfl) (Bors.cons (Bor.pure rfl) (Bors.cons (Bor.sl (fun _ => rfl)) Bors.nil)))) Bors.nil)) rfl rfl (w_eqMatrix_ok a0 a1 a2 a4 a5 a6 r1 hf1)) hc2) rfl ?_
    refine ROps.l (r := AV.b true) rfl rfl rfl (LOp.eqb (LOp.not rfl rfl) rfl) ?_
    refine ROps.nil ?_
    refine RunC.cond_true rfl rfl ?_
    refine RunC.seq ?_
    refine RunC.regionW ?_
    refine ROps.l (r := AV.b false) rfl rfl rfl (LOp.assign rfl rfl) ?_
    refine ROps.nil ?_
    refine RunC.ret ?_
    have hq := Option.some.inj h
    subst q0
    exact bodyQ.pure (.inr rfl) rfl (Res.one rfl (RV.tmp rfl))
noncomputable def w_markFloat32S_0o_b1 (a1 : List F) (L1 : List F) (v3 : Int) (v4 : Int) : Option (LR ((List F) × Int × Int) ((List F) × Int) (Int × (List F))) :=
  bsel (decide (v4 < ((a1.length : Nat) : Int))) (
    olet (fint .f32 v3) fun (x5 : F) =>
    obind (setAt? L1 v4 x5) fun (L6 : List F) =>
    olet (IntKind.i64.wrap (v3 + 1)) fun (x7 : Int) =>
    olet (IntKind.i64.wrap (v4 + 1)) fun (x8 : Int) =>
    some (LR.next (L6, x7, x8))) (
    some (LR.out (L1, v3)))
noncomputable def w_markFloat32S_0o_s1 (a1 : List F) : ((List F) × Int × Int) → Option (LR ((List F) × Int × Int) ((List F) × Int) (Int × (List F))) := fun s => w_markFloat32S_0o_b1 a1 s.1 s.2.1 s.2.2
noncomputable def w_markFloat32S_0o_k1 (L9 : List F) (v11 : Int) : Option (Int × (List F)) :=
  some (v11, L9)
noncomputable def w_markFloat32S_0o (a0 : Int) (a1 : List F) : Option (Int × (List F)) :=
  obind (loopM (w_markFloat32S_0o_s1 a1) (a1, a0, 0)) fun z => osum z (fun e => w_markFloat32S_0o_k1 e.1 e.2) (fun r => some r)
theorem w_markFloat32S_0o_ok (a0 : Int) (a1 : List F) (q0 : Int) (q1 : List F) (h : w_markFloat32S_0o a0 a1 = some (q0, q1)) : Ev Try.prog 25 [AV.oref 0 0 0 a1.length, AV.i64 a0] [⟨0, some (a1.map AV.f32)⟩] (AV.i64 q0) [⟨0, some (q1.map AV.f32)⟩] := by
  refine Ev.start Try.func25 rfl rfl 0 (τ := [(0, AV.oref 0 0 0 a1.length), (1, AV.i64 a0)]) rfl (Γ' := [⟨0, some (a1.map AV.f32)⟩]) rfl (n := 20) rfl (g := 1) rfl ?_
  unfold w_markFloat32S_0o at h
  refine RunC.seq ?_
  refine RunC.regionW ?_
  refine ROps.l (r := AV.i64 0) rfl rfl rfl (LOp.assign rfl rfl) ?_
  refine ROps.nil ?_
  refine RunC.seq ?_
  refine RunC.seq ?_
  refine RunC.regionW ?_
  refine ROps.l (r := AV.i64 0) rfl rfl rfl (LOp.assign rfl rfl) ?_
  refine ROps.nil ?_
  obtain ⟨z2, hz_2, h⟩ := obind_some h
  refine RunC.cutN (fun τ Γ => ∃ (L9 : List F) (v11 : Int), L9.length = a1.length ∧ WeakLe τ [(1, AV.i64 v11)] ∧ DeadLe Γ [⟨0, some (L9.map AV.f32)⟩] ∧ z2 = .inl (L9, v11)) ?_ ?_
  · refine RunC.block (RunC.loop (RunL.loopM (x := z2) (w_markFloat32S_0o_s1 a1) (fun (s : (List F) × Int × Int) τ Γ => s.1.length = a1.length ∧ WeakLe τ [(0, AV.oref 0 0 0 a1.length), (1, AV.i64 s.2.1), (5, AV.i64 s.2.2)] ∧ DeadLe Γ [⟨0, some (s.1.map AV.f32)⟩]) ?_ _ _ _ hz_2 ⟨rfl, ⟨(ALe.refl _), (ALe.refl _), (ALe.refl _), trivial⟩, ⟨⟨rfl, .inr rfl⟩, trivial⟩⟩))
    rintro ⟨L1, v3, v4⟩ τ2 Γ2 y2_ ⟨hl2, hw2, hd2⟩ h2_ ho2 hr2
    refine RunC.wl (τ' := [(0, AV.oref 0 0 0 a1.length), (1, AV.i64 v3), (5, AV.i64 v4)]) (Γ' := [⟨0, some (L1.map AV.f32)⟩]) hw2 hd2 ?_
    replace hl2 : L1.length = a1.length := hl2
    replace h2_ : w_markFloat32S_0o_b1 a1 L1 v3 v4 = some y2_ := h2_
    unfold w_markFloat32S_0o_b1 at h2_
    refine RunC.seq ?_
    refine RunC.seq ?_
    rcases bsel_some h2_ with ⟨hc1, h2_⟩ | ⟨hc1, h2_⟩
    · refine RunC.regionW ?_
      refine ROps.l (r := AV.i64 v4) rfl rfl rfl (LOp.move rfl rfl) ?_
      refine ROps.l (r := AV.oref 0 0 0 a1.length) rfl rfl rfl (LOp.move rfl rfl) ?_
      refine ROps.l (r := AV.i64 ((a1.length : Nat) : Int)) rfl rfl rfl (LOp.len_oref und22 rfl rfl) ?_
      refine ROps.l (r := AV.b true) rfl rfl rfl (LOp.eqb (LOp.lss rfl rfl rfl) hc1) ?_
      refine ROps.nil ?_
      refine RunC.cond_true rfl rfl ?_
      refine RunC.skip ?_
      refine RunC.seq ?_
      refine RunC.block ?_
      refine RunC.seq ?_
      obtain ⟨x5, hx2, h2_⟩ := olet_some h2_
      obtain ⟨L6, he3, h2_⟩ := obind_some h2_
      refine RunC.regionW ?_
      refine ROps.l (r := AV.oref 0 0 0 a1.length) rfl rfl rfl (LOp.move rfl rfl) ?_
      refine ROps.l (r := AV.i64 v4) rfl rfl rfl (LOp.move rfl rfl) ?_
      refine ROps.l (r := AV.i64 v3) rfl rfl rfl (LOp.move rfl rfl) ?_
      refine ROps.l (r := AV.f32 x5) rfl rfl rfl (LOp.eqr (LOp.i2f (src := 3) (dst := 25) ⟨_, pun3⟩ pun25 rfl rfl) (congrArg (AV.f .f32) hx2)) ?_
      refine ROps.d (r := AV.optr 0 0 v4.toNat) (fs := []) (Γ' := [⟨0, some (L1.map AV.f32)⟩]) rfl rfl rfl (TOp.ixo und22 siz25 rfl rfl rfl (set_in he3 hl2) rfl) rfl ?_
      refine ROps.st (f := AV.f32) (i := v4) (Γ' := [⟨0, some (L6.map AV.f32)⟩]) rfl siz25 rfl rfl rfl (ALe.refl _) rfl rfl rfl he3 rfl ?_
      refine ROps.nil ?_
      obtain ⟨x7, hx4, h2_⟩ := olet_some h2_
      refine RunC.regionW ?_
      refine ROps.l (r := AV.i64 v3) rfl rfl rfl (LOp.move rfl rfl) ?_
      refine ROps.l (r := AV.i64 x7) rfl rfl rfl (LOp.eqr (LOp.add rfl rfl rfl) (congrArg (AV.ik .i64) hx4)) ?_
      refine ROps.l (r := AV.i64 x7) rfl rfl rfl (LOp.assign rfl rfl) ?_
      refine ROps.nil ?_
      obtain ⟨x8, hx5, h2_⟩ := olet_some h2_
      refine RunC.regionW ?_
      refine ROps.l (r := AV.i64 v4) rfl rfl rfl (LOp.move rfl rfl) ?_
      refine ROps.l (r := AV.i64 x8) rfl rfl rfl (LOp.eqr (LOp.add rfl rfl rfl) (congrArg (AV.ik .i64) hx5)) ?_
      refine ROps.l (r := AV.i64 x8) rfl rfl rfl (LOp.assign rfl rfl) ?_
      refine ROps.nil ?_
      cases Option.some.inj h2_
      exact ⟨_, rfl, ((setAt?_len he3).trans hl2), ⟨(ALe.refl _), (ALe.refl _), (ALe.refl _), trivial⟩, ⟨⟨rfl, .inr rfl⟩, trivial⟩⟩
    · refine RunC.regionW ?_
      refine ROps.l (r := AV.i64 v4) rfl rfl rfl (LOp.move rfl rfl) ?_
      refine ROps.l (r := AV.oref 0 0 0 a1.length) rfl rfl rfl (LOp.move rfl rfl) ?_
      refine ROps.l (r := AV.i64 ((a1.length : Nat) : Int)) rfl rfl rfl (LOp.len_oref und22 rfl rfl) ?_
      refine ROps.l (r := AV.b false) rfl rfl rfl (LOp.eqb (LOp.lss rfl rfl rfl) hc1) ?_
      refine ROps.nil ?_
      refine RunC.cond_false rfl rfl ?_
      refine RunC.exit ?_
      cases Option.some.inj h2_
      have hx := ho2 _ rfl
      exact ⟨L1, v3, hl2, ⟨(ALe.refl _), trivial⟩, ⟨⟨rfl, .inr rfl⟩, trivial⟩, hx⟩
  · rintro τ3 Γ3 ⟨L9, v11, hl10, hw3, hd3, rfl⟩
    refine RunC.wl (τ' := [(1, AV.i64 v11)]) (Γ' := [⟨0, some (L9.map AV.f32)⟩]) hw3 hd3 ?_
    replace h : w_markFloat32S_0o_k1 L9 v11 = some (q0, q1) := h
    unfold w_markFloat32S_0o_k1 at h
    refine RunC.seq ?_
    refine RunC.regionW ?_
    refine ROps.l (r := AV.i64 v11) rfl rfl rfl (LOp.move rfl rfl) ?_
    refine ROps.l (r := AV.i64 v11) rfl rfl rfl (LOp.assign rfl rfl) ?_
    refine ROps.nil ?_
    refine RunC.ret ?_
    have hq := Option.some.inj h
    obtain ⟨hq0, hq⟩ := Prod.mk.inj hq
    subst q0
    subst q1
    exact bodyQ.mk (r' := AV.i64 v11) [(0, 0)] (.inr rfl) rfl (show List.Nodup [0] from by decide) rfl rfl (Res.one rfl (RV.tmp rfl)) (SelL.arr (f := AV.f32) (fun _ => rfl) rfl trivial)
noncomputable def w_markMatrix_02o (a0 : Int) (a1 : Int) (a2 : Int) (a3 : List F) : Option (Int × (List F)) :=
  obind2 (w_markFloat32S_0o a2 a3) fun (r1 : Int) (r2 : List F) =>
  need (decide (r2.length = a3.length)) <|
  some (r1, r2)
theorem w_markMatrix_02o_ok (a0 : Int) (a1 : Int) (a2 : Int) (a3 : List F) (q0 : Int) (q1 : List F) (h : w_markMatrix_02o a0 a1 a2 a3 = some (q0, q1)) : Ev Try.prog 15 [AV.agg [AV.i64 a0, AV.i64 a1, AV.oref 0 0 0 a3.length], AV.i64 a2] [⟨0, some (a3.map AV.f32)⟩] (AV.i64 q0) [⟨0, some (q1.map AV.f32)⟩] := by
  refine Ev.start Try.func15 rfl rfl 0 (τ := [(0, AV.agg [AV.i64 a0, AV.i64 a1, AV.oref 0 0 0 a3.length]), (1, AV.i64 a2)]) rfl (Γ' := [⟨0, some (a3.map AV.f32)⟩]) rfl (n := 10) rfl (g := 1) rfl ?_
  unfold w_markMatrix_02o at h
  refine RunC.seq ?_
  refine RunC.regionW ?_
  refine ROps.d (r := AV.ptr [AV.i64 a0, AV.i64 a1, AV.oref 0 0 0 a3.length]) (fs := []) (Γ' := [⟨0, some (a3.map AV.f32)⟩]) rfl rfl rfl (TOp.box_s rfl rfl rfl) rfl ?_
  refine ROps.l (r := AV.i64 0) rfl rfl rfl (LOp.assign rfl rfl) ?_
  refine ROps.nil ?_
  refine RunC.seq ?_
  obtain ⟨r1, r2, hf1, h⟩ := obind2_some h
  obtain ⟨hn2, h⟩ := need_some h
  refine RunC.regionW ?_
  refine ROps.l (r := AV.ptr [AV.oref 0 0 0 a3.length]) rfl rfl rfl (LOp.fap und27 rfl siz22 rfl rfl rfl) ?_
  refine ROps.l (r := AV.oref 0 0 0 a3.length) rfl rfl rfl (LOp.load1 agg22 rfl rfl) ?_
  refine ROps.l (r := AV.i64 a2) rfl rfl rfl (LOp.move rfl rfl) ?_
  refine ROps.callO (A := [AV.oref 0 0 0 a3.length, AV.i64 a2]) (args := [AV.oref 0 0 0 a3.length, AV.i64 a2]) (Γc := [⟨0, some (a3.map AV.f32)⟩]) (Γc' := [⟨0, some (r2.map AV.f32)⟩]) (r' := AV.i64 r1) (Γ' := [⟨0, some (r2.map AV.f32)⟩]) [(0, 0)] [] rfl (CallAs.func ent25 rfl rfl) rfl rfl (SelOk.of (show List.Nodup [0] from by decide) (SelL.arr0 (f := AV.f32) (fun _ => rfl) rfl trivial)) (live_of ⟨⟨_, _, rfl⟩, trivial⟩) (by simp [AV.ren, AV.rens, sigma, rens_f32, rens_f64, rens_i64, rens_ik, rens_str, rens_cp]) rfl (w_markFloat32S_0o_ok a2 a3 r1 r2 hf1) rfl (news_of trivial) (show List.Nodup [0] from by decide) (by simp [AV.ren, AV.rens, sigma, of_decide_eq_true hn2]) (by simp [backOb, sigma, AV.ren, AV.rens, rens_f32, rens_f64, rens_i64, rens_ik, rens_str, rens_cp]) ?_
  refine ROps.l (r := AV.i64 r1) rfl rfl rfl (LOp.assign rfl rfl) ?_
  refine ROps.nil ?_
  refine RunC.seq ?_
  refine RunC.regionW ?_
  refine ROps.l (r := AV.i64 r1) rfl rfl rfl (LOp.move rfl rfl) ?_
  refine ROps.l (r := AV.i64 r1) rfl rfl rfl (LOp.assign rfl rfl) ?_
  refine ROps.nil ?_
  refine RunC.ret ?_
  have hq := Option.some.inj h
  obtain ⟨hq0, hq⟩ := Prod.mk.inj hq
  subst q0
  subst q1
  exact bodyQ.mk (r' := AV.i64 r1) [(0, 0)] (.inr rfl) rfl (show List.Nodup [0] from by decide) rfl rfl (Res.one rfl (RV.tmp rfl)) (SelL.arr (f := AV.f32) (fun _ => rfl) rfl trivial)
noncomputable def w_markInt64S_0o_b1 (a1 : List Int) (L1 : List Int) (v3 : Int) (v4 : Int) : Option (LR ((List Int) × Int × Int) ((List Int) × Int) (Int × (List Int))) :=
  bsel (decide (v4 < ((a1.length : Nat) : Int))) (
    obind (setAt? L1 v4 v3) fun (L5 : List Int) =>
    olet (IntKind.i64.wrap (v3 + 1)) fun (x6 : Int) =>
    olet (IntKind.i64.wrap (v4 + 1)) fun (x7 : Int) =>
    some (LR.next (L5, x6, x7))) (
    some (LR.out (L1, v3)))
noncomputable def w_markInt64S_0o_s1 (a1 : List Int) : ((List Int) × Int × Int) → Option (LR ((List Int) × Int × Int) ((List Int) × Int) (Int × (List Int))) := fun s => w_markInt64S_0o_b1 a1 s.1 s.2.1 s.2.2
noncomputable def w_markInt64S_0o_k1 (L8 : List Int) (v10 : Int) : Option (Int × (List Int)) :=
  some (v10, L8)
noncomputable def w_markInt64S_0o (a0 : Int) (a1 : List Int) : Option (Int × (List Int)) :=
  obind (loopM (w_markInt64S_0o_s1 a1) (a1, a0, 0)) fun z => osum z (fun e => w_markInt64S_0o_k1 e.1 e.2) (fun r => some r)
theorem w_markInt64S_0o_ok (a0 : Int) (a1 : List Int) (q0 : Int) (q1 : List Int) (h : w_markInt64S_0o a0 a1 = some (q0, q1)) : Ev Try.prog 16 [AV.oref 0 0 0 a1.length, AV.i64 a0] [⟨0, some (a1.map AV.i64)⟩] (AV.i64 q0) [⟨0, some (q1.map AV.i64)⟩] := by
  refine Ev.start Try.func16 rfl rfl 0 (τ := [(0, AV.oref 0 0 0 a1.length), (1, AV.i64 a0)]) rfl (Γ' := [⟨0, some (a1.map AV.i64)⟩]) rfl (n := 19) rfl (g := 1) rfl ?_
  unfold w_markInt64S_0o at h
  refine RunC.seq ?_
  refine RunC.regionW ?_
  refine ROps.l (r := AV.i64 0) rfl rfl rfl (LOp.assign rfl rfl) ?_
  refine ROps.nil ?_
  refine RunC.seq ?_
  refine RunC.seq ?_
  refine RunC.regionW ?_
  refine ROps.l (r := AV.i64 0) rfl rfl rfl (LOp.assign rfl rfl) ?_
  refine ROps.nil ?_
  obtain ⟨z2, hz_2, h⟩ := obind_some h
  refine RunC.cutN (fun τ Γ => ∃ (L8 : List Int) (v10 : Int), L8.length = a1.length ∧ WeakLe τ [(1, AV.i64 v10)] ∧ DeadLe Γ [⟨0, some (L8.map AV.i64)⟩] ∧ z2 = .inl (L8, v10)) ?_ ?_
  · refine RunC.block (RunC.loop (RunL.loopM (x := z2) (w_markInt64S_0o_s1 a1) (fun (s : (List Int) × Int × Int) τ Γ => s.1.length = a1.length ∧ WeakLe τ [(0, AV.oref 0 0 0 a1.length), (1, AV.i64 s.2.1), (5, AV.i64 s.2.2)] ∧ DeadLe Γ [⟨0, some (s.1.map AV.i64)⟩]) ?_ _ _ _ hz_2 ⟨rfl, ⟨(ALe.refl _), (ALe.refl _), (ALe.refl _), trivial⟩, ⟨⟨rfl, .inr rfl⟩, trivial⟩⟩))
    rintro ⟨L1, v3, v4⟩ τ2 Γ2 y2_ ⟨hl2, hw2, hd2⟩ h2_ ho2 hr2
    refine RunC.wl (τ' := [(0, AV.oref 0 0 0 a1.length), (1, AV.i64 v3), (5, AV.i64 v4)]) (Γ' := [⟨0, some (L1.map AV.i64)⟩]) hw2 hd2 ?_
    replace hl2 : L1.length = a1.length := hl2
    replace h2_ : w_markInt64S_0o_b1 a1 L1 v3 v4 = some y2_ := h2_
    unfold w_markInt64S_0o_b1 at h2_
    refine RunC.seq ?_
    refine RunC.seq ?_
    rcases bsel_some h2_ with ⟨hc1, h2_⟩ | ⟨hc1, h2_⟩
    · refine RunC.regionW ?_
      refine ROps.l (r := AV.i64 v4) rfl rfl rfl (LOp.move rfl rfl) ?_
      refine ROps.l (r := AV.oref 0 0 0 a1.length) rfl rfl rfl (LOp.move rfl rfl) ?_
      refine ROps.l (r := AV.i64 ((a1.length : Nat) : Int)) rfl rfl rfl (LOp.len_oref und28 rfl rfl) ?_
      refine ROps.l (r := AV.b true) rfl rfl rfl (LOp.eqb (LOp.lss rfl rfl rfl) hc1) ?_
      refine ROps.nil ?_
      refine RunC.cond_true rfl rfl ?_
      refine RunC.skip ?_
      refine RunC.seq ?_
      refine RunC.block ?_
      refine RunC.seq ?_
      obtain ⟨L5, he2, h2_⟩ := obind_some h2_
      refine RunC.regionW ?_
      refine ROps.l (r := AV.oref 0 0 0 a1.length) rfl rfl rfl (LOp.move rfl rfl) ?_
      refine ROps.l (r := AV.i64 v4) rfl rfl rfl (LOp.move rfl rfl) ?_
      refine ROps.l (r := AV.i64 v3) rfl rfl rfl (LOp.move rfl rfl) ?_
      refine ROps.d (r := AV.optr 0 0 v4.toNat) (fs := []) (Γ' := [⟨0, some (L1.map AV.i64)⟩]) rfl rfl rfl (TOp.ixo und28 siz2 rfl rfl rfl (set_in he2 hl2) rfl) rfl ?_
      refine ROps.st (f := AV.i64) (i := v4) (Γ' := [⟨0, some (L5.map AV.i64)⟩]) rfl siz2 rfl rfl rfl (ALe.refl _) rfl rfl rfl he2 rfl ?_
      refine ROps.nil ?_
      obtain ⟨x6, hx3, h2_⟩ := olet_some h2_
      refine RunC.regionW ?_
      refine ROps.l (r := AV.i64 v3) rfl rfl rfl (LOp.move rfl rfl) ?_
      refine ROps.l (r := AV.i64 x6) rfl rfl rfl (LOp.eqr (LOp.add rfl rfl rfl) (congrArg (AV.ik .i64) hx3)) ?_
      refine ROps.l (r := AV.i64 x6) rfl rfl rfl (LOp.assign rfl rfl) ?_
      refine ROps.nil ?_
      obtain ⟨x7, hx4, h2_⟩ := olet_some h2_
      refine RunC.regionW ?_
      refine ROps.l (r := AV.i64 v4) rfl rfl rfl (LOp.move rfl rfl) ?_
      refine ROps.l (r := AV.i64 x7) rfl rfl rfl (LOp.eqr (LOp.add rfl rfl rfl) (congrArg (AV.ik .i64) hx4)) ?_
      refine ROps.l (r := AV.i64 x7) rfl rfl rfl (LOp.assign rfl rfl) ?_
      refine ROps.nil ?_
      cases Option.some.inj h2_
      exact ⟨_, rfl, ((setAt?_len he2).trans hl2), ⟨(ALe.refl _), (ALe.refl _), (ALe.refl _), trivial⟩, ⟨⟨rfl, .inr rfl⟩, trivial⟩⟩
    · refine RunC.regionW ?_
      refine ROps.l (r := AV.i64 v4) rfl rfl rfl (LOp.move rfl rfl) ?_
      refine ROps.l (r := AV.oref 0 0 0 a1.length) rfl rfl rfl (LOp.move rfl rfl) ?_
      refine ROps.l (r := AV.i64 ((a1.length : Nat) : Int)) rfl rfl rfl (LOp.len_oref und28 rfl rfl) ?_
      refine ROps.l (r := AV.b false) rfl rfl rfl (LOp.eqb (LOp.lss rfl rfl rfl) hc1) ?_
      refine ROps.nil ?_
      refine RunC.cond_false rfl rfl ?_
      refine RunC.exit ?_
      cases Option.some.inj h2_
      have hx := ho2 _ rfl
      exact ⟨L1, v3, hl2, ⟨(ALe.refl _), trivial⟩, ⟨⟨rfl, .inr rfl⟩, trivial⟩, hx⟩
  · rintro τ3 Γ3 ⟨L8, v10, hl9, hw3, hd3, rfl⟩
    refine RunC.wl (τ' := [(1, AV.i64 v10)]) (Γ' := [⟨0, some (L8.map AV.i64)⟩]) hw3 hd3 ?_
    replace h : w_markInt64S_0o_k1 L8 v10 = some (q0, q1) := h
    unfold w_markInt64S_0o_k1 at h
    refine RunC.seq ?_
    refine RunC.regionW ?_
    refine ROps.l (r := AV.i64 v10) rfl rfl rfl (LOp.move rfl rfl) ?_
    refine ROps.l (r := AV.i64 v10) rfl rfl rfl (LOp.assign rfl rfl) ?_
    refine ROps.nil ?_
    refine RunC.ret ?_
    have hq := Option.some.inj h
    obtain ⟨hq0, hq⟩ := Prod.mk.inj hq
    subst q0
    subst q1
    exact bodyQ.mk (r' := AV.i64 v10) [(0, 0)] (.inr rfl) rfl (show List.Nodup [0] from by decide) rfl rfl (Res.one rfl (RV.tmp rfl)) (SelL.arr (f := AV.i64) (fun _ => rfl) rfl trivial)
noncomputable def w_markFactor_02o_03o1 (a0 : Int) (a1 : Int) (a2 : Int) (a3 : List F) (a4 : List Int) : Option (Int × (List F) × (List Int)) :=
  obind2 (w_markMatrix_02o a0 a1 a2 a3) fun (r1 : Int) (r2 : List F) =>
  need (decide (r2.length = a3.length)) <|
  obind2 (w_markInt64S_0o r1 a4) fun (r3 : Int) (r4 : List Int) =>
  need (decide (r4.length = a4.length)) <|
  some (r3, r2, r4)
theorem w_markFactor_02o_03o1_ok (a0 : Int) (a1 : Int) (a2 : Int) (a3 : List F) (a4 : List Int) (q0 : Int) (q1 : List F) (q2 : List Int) (h : w_markFactor_02o_03o1 a0 a1 a2 a3 a4 = some (q0, q1, q2)) : Ev Try.prog 30 [AV.agg [AV.i64 a0, AV.i64 a1, AV.oref 0 0 0 a3.length, AV.oref 1 0 0 a4.length], AV.i64 a2] [⟨0, some (a3.map AV.f32)⟩, ⟨0, some (a4.map AV.i64)⟩] (AV.i64 q0) [⟨0, some (q1.map AV.f32)⟩, ⟨0, some (q2.map AV.i64)⟩] := by
  refine Ev.start Try.func30 rfl rfl 0 (τ := [(0, AV.agg [AV.i64 a0, AV.i64 a1, AV.oref 0 0 0 a3.length, AV.oref 1 0 0 a4.length]), (1, AV.i64 a2)]) rfl (Γ' := [⟨0, some (a3.map AV.f32)⟩, ⟨0, some (a4.map AV.i64)⟩]) rfl (n := 14) rfl (g := 2) rfl ?_
  unfold w_markFactor_02o_03o1 at h
  refine RunC.seq ?_
  refine RunC.regionW ?_
  refine ROps.d (r := AV.ptr [AV.i64 a0, AV.i64 a1, AV.oref 0 0 0 a3.length, AV.oref 1 0 0 a4.length]) (fs := []) (Γ' := [⟨0, some (a3.map AV.f32)⟩, ⟨0, some (a4.map AV.i64)⟩]) rfl rfl rfl (TOp.box_s rfl rfl rfl) rfl ?_
  refine ROps.l (r := AV.i64 0) rfl rfl rfl (LOp.assign rfl rfl) ?_
  refine ROps.nil ?_
  refine RunC.seq ?_
  obtain ⟨r1, r2, hf1, h⟩ := obind2_some h
  obtain ⟨hn2, h⟩ := need_some h
  refine RunC.regionW ?_
  refine ROps.l (r := AV.ptr [AV.i64 a0, AV.i64 a1, AV.oref 0 0 0 a3.length, AV.oref 1 0 0 a4.length]) rfl rfl rfl (LOp.fap und48 rfl siz27 rfl rfl rfl) ?_
  refine ROps.l (r := AV.agg [AV.i64 a0, AV.i64 a1, AV.oref 0 0 0 a3.length]) rfl rfl rfl (LOp.loadAgg agg27 siz27 rfl rfl rfl rfl) ?_
  refine ROps.l (r := AV.i64 a2) rfl rfl rfl (LOp.move rfl rfl) ?_
  refine ROps.callO (A := [AV.agg [AV.i64 a0, AV.i64 a1, AV.oref 0 0 0 a3.length], AV.i64 a2]) (args := [AV.agg [AV.i64 a0, AV.i64 a1, AV.oref 0 0 0 a3.length], AV.i64 a2]) (Γc := [⟨0, some (a3.map AV.f32)⟩]) (Γc' := [⟨0, some (r2.map AV.f32)⟩]) (r' := AV.i64 r1) (Γ' := [⟨0, some (r2.map AV.f32)⟩, ⟨0, some (a4.map AV.i64)⟩]) [(0, 0)] [] rfl (CallAs.func ent15 rfl rfl) rfl rfl (SelOk.of (show List.Nodup [0] from by decide) (SelL.arr0 (f := AV.f32) (fun _ => rfl) rfl trivial)) (live_of ⟨⟨_, _, rfl⟩, trivial⟩) (by simp [AV.ren, AV.rens, sigma, rens_f32, rens_f64, rens_i64, rens_ik, rens_str, rens_cp]) rfl (w_markMatrix_02o_ok a0 a1 a2 a3 r1 r2 hf1) rfl (news_of trivial) (show List.Nodup [0] from by decide) (by simp [AV.ren, AV.rens, sigma, of_decide_eq_true hn2]) (by simp [backOb, sigma, AV.ren, AV.rens, rens_f32, rens_f64, rens_i64, rens_ik, rens_str, rens_cp]) ?_
  refine ROps.l (r := AV.i64 r1) rfl rfl rfl (LOp.assign rfl rfl) ?_
  refine ROps.nil ?_
  refine RunC.seq ?_
  obtain ⟨r3, r4, hf3, h⟩ := obind2_some h
  obtain ⟨hn4, h⟩ := need_some h
  refine RunC.regionW ?_
  refine ROps.l (r := AV.ptr [AV.oref 1 0 0 a4.length]) rfl rfl rfl (LOp.fap und48 rfl siz28 rfl rfl rfl) ?_
  refine ROps.l (r := AV.oref 1 0 0 a4.length) rfl rfl rfl (LOp.load1 agg28 rfl rfl) ?_
  refine ROps.l (r := AV.i64 r1) rfl rfl rfl (LOp.move rfl rfl) ?_
  refine ROps.callO (A := [AV.oref 1 0 0 a4.length, AV.i64 r1]) (args := [AV.oref 0 0 0 a4.length, AV.i64 r1]) (Γc := [⟨0, some (a4.map AV.i64)⟩]) (Γc' := [⟨0, some (r4.map AV.i64)⟩]) (r' := AV.i64 r3) (Γ' := [⟨0, some (r2.map AV.f32)⟩, ⟨0, some (r4.map AV.i64)⟩]) [(1, 0)] [] rfl (CallAs.func ent16 rfl rfl) rfl rfl (SelOk.of (show List.Nodup [1] from by decide) (SelL.arr0 (f := AV.i64) (fun _ => rfl) rfl trivial)) (live_of ⟨⟨_, _, rfl⟩, trivial⟩) (by simp [AV.ren, AV.rens, sigma, rens_f32, rens_f64, rens_i64, rens_ik, rens_str, rens_cp]) rfl (w_markInt64S_0o_ok r1 a4 r3 r4 hf3) rfl (news_of trivial) (show List.Nodup [1] from by decide) (by simp [AV.ren, AV.rens, sigma, of_decide_eq_true hn4]) (by simp [backOb, sigma, AV.ren, AV.rens, rens_f32, rens_f64, rens_i64, rens_ik, rens_str, rens_cp]) ?_
  refine ROps.l (r := AV.i64 r3) rfl rfl rfl (LOp.assign rfl rfl) ?_
  refine ROps.nil ?_
  refine RunC.seq ?_
  refine RunC.regionW ?_
  refine ROps.l (r := AV.i64 r3) rfl rfl rfl (LOp.move rfl rfl) ?_
  refine ROps.l (r := AV.i64 r3) rfl rfl rfl (LOp.assign rfl rfl) ?_
  refine ROps.nil ?_
  refine RunC.ret ?_
  have hq := Option.some.inj h
  obtain ⟨hq0, hq⟩ := Prod.mk.inj hq
  obtain ⟨hq1, hq⟩ := Prod.mk.inj hq
  subst q0
  subst q1
  subst q2
  exact bodyQ.mk (r' := AV.i64 r3) [(0, 0), (1, 0)] (.inr rfl) rfl (show List.Nodup [0, 1] from by decide) rfl rfl (Res.one rfl (RV.tmp rfl)) (SelL.arr (f := AV.f32) (fun _ => rfl) rfl (SelL.arr (f := AV.i64) (fun _ => rfl) rfl trivial))
noncomputable def w_heldFloat32S_b1 (a0 : List F) (v1 : Int) (v2 : Int) : Option (LR (Int × Int) (Int) (Int)) :=
  bsel (decide (v2 < (a0.length : Int))) (
    obind (at? a0 v2) fun (e3 : F) =>
    olet (fint .f32 v1) fun (x4 : F) =>
    bsel (!feq .f32 e3 x4) (
      some (LR.ret (-1))) (
      olet (IntKind.i64.wrap (v1 + 1)) fun (x5 : Int) =>
      olet (IntKind.i64.wrap (v2 + 1)) fun (x6 : Int) =>
      some (LR.next (x5, x6)))) (
    some (LR.out v1))
noncomputable def w_heldFloat32S_s1 (a0 : List F) : (Int × Int) → Option (LR (Int × Int) (Int) (Int)) := fun s => w_heldFloat32S_b1 a0 s.1 s.2
noncomputable def w_heldFloat32S_k1 (v7 : Int) : Option (Int) :=
  some v7
noncomputable def w_heldFloat32S (a0 : List F) (a1 : Int) : Option (Int) :=
  obind (loopM (w_heldFloat32S_s1 a0) (a1, 0)) fun z => osum z (fun e => w_heldFloat32S_k1 e) (fun r => some r)
theorem w_heldFloat32S_ok (a0 : List F) (a1 : Int) (q0 : Int) (h : w_heldFloat32S a0 a1 = some q0) : Ev Try.prog 26 [AV.sl a0.length (a0.map AV.f32), AV.i64 a1] [] (AV.i64 q0) [] := by
  refine Ev.start Try.func26 rfl rfl 0 (τ := [(0, AV.sl a0.length (a0.map AV.f32)), (1, AV.i64 a1)]) rfl (Γ' := []) rfl (n := 22) rfl (g := 0) rfl ?_
  unfold w_heldFloat32S at h
  refine RunC.seq ?_
  refine RunC.regionW ?_
  refine ROps.l (r := AV.i64 0) rfl rfl rfl (LOp.assign rfl rfl) ?_
  refine ROps.nil ?_
  refine RunC.seq ?_
  refine RunC.seq ?_
  refine RunC.regionW ?_
  refine ROps.l (r := AV.i64 0) rfl rfl rfl (LOp.assign rfl rfl) ?_
  refine ROps.nil ?_
  obtain ⟨z2, hz_2, h⟩ := obind_some h
  refine RunC.cutN (fun τ Γ => ∃ (v7 : Int), WeakLe τ [(1, AV.i64 v7)] ∧ DeadLe Γ [] ∧ z2 = .inl v7) ?_ ?_
  · refine RunC.block (RunC.loop (RunL.loopM (x := z2) (w_heldFloat32S_s1 a0) (fun (s : Int × Int) τ Γ => WeakLe τ [(0, AV.sl a0.length (a0.map AV.f32)), (1, AV.i64 s.1), (5, AV.i64 s.2)] ∧ DeadLe Γ []) ?_ _ _ _ hz_2 ⟨⟨(ALe.refl _), (ALe.refl _), (ALe.refl _), trivial⟩, trivial⟩))
    rintro ⟨v1, v2⟩ τ2 Γ2 y2_ ⟨hw2, hd2⟩ h2_ ho2 hr2
    refine RunC.wl (τ' := [(0, AV.sl a0.length (a0.map AV.f32)), (1, AV.i64 v1), (5, AV.i64 v2)]) (Γ' := []) hw2 hd2 ?_
    replace h2_ : w_heldFloat32S_b1 a0 v1 v2 = some y2_ := h2_
    unfold w_heldFloat32S_b1 at h2_
    refine RunC.seq ?_
    refine RunC.seq ?_
    rcases bsel_some h2_ with ⟨hc1, h2_⟩ | ⟨hc1, h2_⟩
    · refine RunC.regionW ?_
      refine ROps.l (r := AV.i64 v2) rfl rfl rfl (LOp.move rfl rfl) ?_
      refine ROps.l (r := AV.sl a0.length (a0.map AV.f32)) rfl rfl rfl (LOp.move rfl rfl) ?_
      refine ROps.l (r := AV.i64 (a0.length : Int)) rfl rfl rfl (LOp.len_sl und22 rfl rfl) ?_
      refine ROps.l (r := AV.b true) rfl rfl rfl (LOp.eqb (LOp.lss rfl rfl rfl) hc1) ?_
      refine ROps.nil ?_
      refine RunC.cond_true rfl rfl ?_
      refine RunC.skip ?_
      refine RunC.seq ?_
      refine RunC.block ?_
      refine RunC.seq ?_
      refine RunC.seq ?_
      obtain ⟨e3, he2, h2_⟩ := obind_some h2_
      obtain ⟨x4, hx3, h2_⟩ := olet_some h2_
      rcases bsel_some h2_ with ⟨hc4, h2_⟩ | ⟨hc4, h2_⟩
      · refine RunC.regionW ?_
        refine ROps.l (r := AV.sl a0.length (a0.map AV.f32)) rfl rfl rfl (LOp.move rfl rfl) ?_
        refine ROps.l (r := AV.i64 v2) rfl rfl rfl (LOp.move rfl rfl) ?_
        refine ROps.l (r := AV.ptr [AV.f32 e3]) rfl rfl rfl (LOp.le (LOp.ix (f := AV.f32) und22 siz25 rfl rfl rfl rfl he2) ALe.ptr) ?_
        refine ROps.l (r := AV.f32 e3) rfl rfl rfl (LOp.load1 agg25 rfl rfl) ?_
        refine ROps.l (r := AV.i64 v1) rfl rfl rfl (LOp.move rfl rfl) ?_
        refine ROps.l (r := AV.f32 x4) rfl rfl rfl (LOp.eqr (LOp.i2f (src := 3) (dst := 25) ⟨_, pun3⟩ pun25 rfl rfl) (congrArg (AV.f .f32) hx3)) ?_
        refine ROps.l (r := AV.b true) rfl rfl rfl (LOp.eqb (LOp.fne rfl (OpF.tmp rfl) (OpF.tmp rfl)) hc4) ?_
        refine ROps.nil ?_
        refine RunC.cond_true rfl rfl ?_
        refine RunC.seq ?_
        refine RunC.regionW ?_
        refine ROps.l (r := AV.i64 (-1)) rfl rfl rfl (LOp.assign rfl rfl) ?_
        refine ROps.nil ?_
        refine RunC.ret ?_
        cases Option.some.inj h2_
        have hx3_ := hr2 _ rfl
        subst hx3_
        have hq := Option.some.inj h
        subst q0
        exact bodyQ.pure (.inr rfl) rfl (Res.one rfl (RV.tmp rfl))
      · refine RunC.regionW ?_
        refine ROps.l (r := AV.sl a0.length (a0.map AV.f32)) rfl rfl rfl (LOp.move rfl rfl) ?_
        refine ROps.l (r := AV.i64 v2) rfl rfl rfl (LOp.move rfl rfl) ?_
        refine ROps.l (r := AV.ptr [AV.f32 e3]) rfl rfl rfl (LOp.le (LOp.ix (f := AV.f32) und22 siz25 rfl rfl rfl rfl he2) ALe.ptr) ?_
        refine ROps.l (r := AV.f32 e3) rfl rfl rfl (LOp.load1 agg25 rfl rfl) ?_
        refine ROps.l (r := AV.i64 v1) rfl rfl rfl (LOp.move rfl rfl) ?_
        refine ROps.l (r := AV.f32 x4) rfl rfl rfl (LOp.eqr (LOp.i2f (src := 3) (dst := 25) ⟨_, pun3⟩ pun25 rfl rfl) (congrArg (AV.f .f32) hx3)) ?_
        refine ROps.l (r := AV.b false) rfl rfl rfl (LOp.eqb (LOp.fne rfl (OpF.tmp rfl) (OpF.tmp rfl)) hc4) ?_
        refine ROps.nil ?_
        refine RunC.cond_false rfl rfl ?_
        refine RunC.skip ?_
        obtain ⟨x5, hx5, h2_⟩ := olet_some h2_
        refine RunC.regionW ?_
        refine ROps.l (r := AV.i64 v1) rfl rfl rfl (LOp.move rfl rfl) ?_
        refine ROps.l (r := AV.i64 x5) rfl rfl rfl (LOp.eqr (LOp.add rfl rfl rfl) (congrArg (AV.ik .i64) hx5)) ?_
        refine ROps.l (r := AV.i64 x5) rfl rfl rfl (LOp.assign rfl rfl) ?_
        refine ROps.nil ?_
        refine RunC.wl (τ' := [(0, AV.sl a0.length (a0.map AV.f32)), (1, AV.i64 x5), (5, AV.i64 v2)]) (Γ' := []) ⟨(ALe.refl _), (ALe.refl _), (ALe.refl _), trivial⟩ trivial ?_
        obtain ⟨x6, hx6, h2_⟩ := olet_some h2_
        refine RunC.regionW ?_
        refine ROps.l (r := AV.i64 v2) rfl rfl rfl (LOp.move rfl rfl) ?_
        refine ROps.l (r := AV.i64 x6) rfl rfl rfl (LOp.eqr (LOp.add rfl rfl rfl) (congrArg (AV.ik .i64) hx6)) ?_
        refine ROps.l (r := AV.i64 x6) rfl rfl rfl (LOp.assign rfl rfl) ?_
        refine ROps.nil ?_
        cases Option.some.inj h2_
        exact ⟨_, rfl, ⟨(ALe.refl _), (ALe.refl _), (ALe.refl _), trivial⟩, trivial⟩
    · refine RunC.regionW ?_
      refine ROps.l (r := AV.i64 v2) rfl rfl rfl (LOp.move rfl rfl) ?_
      refine ROps.l (r := AV.sl a0.length (a0.map AV.f32)) rfl rfl rfl (LOp.move rfl rfl) ?_
      refine ROps.l (r := AV.i64 (a0.length : Int)) rfl rfl rfl (LOp.len_sl und22 rfl rfl) ?_
      refine ROps.l (r := AV.b false) rfl rfl rfl (LOp.eqb (LOp.lss rfl rfl rfl) hc1) ?_
      refine ROps.nil ?_
      refine RunC.cond_false rfl rfl ?_
      refine RunC.exit ?_
      cases Option.some.inj h2_
      have hx := ho2 _ rfl
      exact ⟨v1, ⟨(ALe.refl _), trivial⟩, trivial, hx⟩
  · rintro τ4 Γ4 ⟨v7, hw4, hd4, rfl⟩
    refine RunC.wl (τ' := [(1, AV.i64 v7)]) (Γ' := []) hw4 hd4 ?_
    replace h : w_heldFloat32S_k1 v7 = some q0 := h
    unfold w_heldFloat32S_k1 at h
    refine RunC.seq ?_
    refine RunC.regionW ?_
    refine ROps.l (r := AV.i64 v7) rfl rfl rfl (LOp.move rfl rfl) ?_
    refine ROps.l (r := AV.i64 v7) rfl rfl rfl (LOp.assign rfl rfl) ?_
    refine ROps.nil ?_
    refine RunC.ret ?_
    have hq := Option.some.inj h
    subst q0
    exact bodyQ.pure (.inr rfl) rfl (Res.one rfl (RV.tmp rfl))
noncomputable def w_heldMatrix (a0 : Int) (a1 : Int) (a2 : List F) (a3 : Int) : Option (Int) :=
  obind (w_heldFloat32S a2 a3) fun (r1 : Int) =>
  bsel (decide (r1 < 0)) (
    some (-1)) (
    some r1)
theorem w_heldMatrix_ok (a0 : Int) (a1 : Int) (a2 : List F) (a3 : Int) (q0 : Int) (h : w_heldMatrix a0 a1 a2 a3 = some q0) : Ev Try.prog 17 [AV.agg [AV.i64 a0, AV.i64 a1, AV.sl a2.length (a2.map AV.f32)], AV.i64 a3] [] (AV.i64 q0) [] := by
  refine Ev.start Try.func17 rfl rfl 0 (τ := [(0, AV.agg [AV.i64 a0, AV.i64 a1, AV.sl a2.length (a2.map AV.f32)]), (1, AV.i64 a3)]) rfl (Γ' := []) rfl (n := 12) rfl (g := 0) rfl ?_
  unfold w_heldMatrix at h
  refine RunC.seq ?_
  refine RunC.regionW ?_
  refine ROps.d (r := AV.ptr [AV.i64 a0, AV.i64 a1, AV.sl a2.length (a2.map AV.f32)]) (fs := []) (Γ' := []) rfl rfl rfl (TOp.box_s rfl rfl rfl) rfl ?_
  refine ROps.l (r := AV.i64 0) rfl rfl rfl (LOp.assign rfl rfl) ?_
  refine ROps.nil ?_
  refine RunC.seq ?_
  obtain ⟨r1, hf1, h⟩ := obind_some h
  refine RunC.regionW ?_
  refine ROps.l (r := AV.ptr [AV.sl a2.length (a2.map AV.f32)]) rfl rfl rfl (LOp.fap und27 rfl siz22 rfl rfl rfl) ?_
  refine ROps.l (r := AV.sl a2.length (a2.map AV.f32)) rfl rfl rfl (LOp.load1 agg22 rfl rfl) ?_
  refine ROps.l (r := AV.i64 a3) rfl rfl rfl (LOp.move rfl rfl) ?_
  refine ROps.d (r := AV.i64 r1) (fs := []) (Γ' := []) rfl rfl rfl (TOp.callB (CallAs.func ent26 rfl rfl) (Bors.cons (Bor.sl (fun _ => rfl)) (Bors.cons (Bor.pure rfl) Bors.nil)) rfl rfl (w_heldFloat32S_ok a2 a3 r1 hf1)) rfl ?_
  refine ROps.l (r := AV.i64 r1) rfl rfl rfl (LOp.assign rfl rfl) ?_
  refine ROps.nil ?_
  refine RunC.seq ?_
  refine RunC.seq ?_
  rcases bsel_some h with ⟨hc2, h⟩ | ⟨hc2, h⟩
  · refine RunC.regionW ?_
    refine ROps.l (r := AV.i64 r1) rfl rfl rfl (LOp.move rfl rfl) ?_
    refine ROps.l (r := AV.b true) rfl rfl rfl (LOp.eqb (LOp.lss rfl rfl rfl) hc2) ?_
    refine ROps.nil ?_
    refine RunC.cond_true rfl rfl ?_
    refine RunC.seq ?_
    refine RunC.regionW ?_
    refine ROps.l (r := AV.i64 (-1)) rfl rfl rfl (LOp.assign rfl rfl) ?_
    refine ROps.nil ?_
    refine RunC.ret ?_
    have hq := Option.some.inj h
    subst q0
    exact bodyQ.pure (.inr rfl) rfl (Res.one rfl (RV.tmp rfl))
  · refine RunC.regionW ?_
    refine ROps.l (r := AV.i64 r1) rfl rfl rfl (LOp.move rfl rfl) ?_
    refine ROps.l (r := AV.b false) rfl rfl rfl (LOp.eqb (LOp.lss rfl rfl rfl) hc2) ?_
    refine ROps.nil ?_
    refine RunC.cond_false rfl rfl ?_
    refine RunC.skip ?_
    refine RunC.seq ?_
    refine RunC.regionW ?_
    refine ROps.l (r := AV.i64 r1) rfl rfl rfl (LOp.move rfl rfl) ?_
    refine ROps.l (r := AV.i64 r1) rfl rfl rfl (LOp.assign rfl rfl) ?_
    refine ROps.nil ?_
    refine RunC.ret ?_
    have hq := Option.some.inj h
    subst q0
    exact bodyQ.pure (.inr rfl) rfl (Res.one rfl (RV.tmp rfl))
noncomputable def w_heldInt64S_b1 (a0 : List Int) (v1 : Int) (v2 : Int) : Option (LR (Int × Int) (Int) (Int)) :=
  bsel (decide (v2 < (a0.length : Int))) (
    obind (at? a0 v2) fun (e3 : Int) =>
    bsel (!decide (e3 = v1)) (
      some (LR.ret (-1))) (
      olet (IntKind.i64.wrap (v1 + 1)) fun (x4 : Int) =>
      olet (IntKind.i64.wrap (v2 + 1)) fun (x5 : Int) =>
      some (LR.next (x4, x5)))) (
    some (LR.out v1))
noncomputable def w_heldInt64S_s1 (a0 : List Int) : (Int × Int) → Option (LR (Int × Int) (Int) (Int)) := fun s => w_heldInt64S_b1 a0 s.1 s.2
noncomputable def w_heldInt64S_k1 (v6 : Int) : Option (Int) :=
  some v6
noncomputable def w_heldInt64S (a0 : List Int) (a1 : Int) : Option (Int) :=
  obind (loopM (w_heldInt64S_s1 a0) (a1, 0)) fun z => osum z (fun e => w_heldInt64S_k1 e) (fun r => some r)
theorem w_heldInt64S_ok (a0 : List Int) (a1 : Int) (q0 : Int) (h : w_heldInt64S a0 a1 = some q0) : Ev Try.prog 18 [AV.sl a0.length (a0.map AV.i64), AV.i64 a1] [] (AV.i64 q0) [] := by
  refine Ev.start Try.func18 rfl rfl 0 (τ := [(0, AV.sl a0.length (a0.map AV.i64)), (1, AV.i64 a1)]) rfl (Γ' := []) rfl (n := 21) rfl (g := 0) rfl ?_
  unfold w_heldInt64S at h
  refine RunC.seq ?_
  refine RunC.regionW ?_
  refine ROps.l (r := AV.i64 0) rfl rfl rfl (LOp.assign rfl rfl) ?_
  refine ROps.nil ?_
  refine RunC.seq ?_
  refine RunC.seq ?_
  refine RunC.regionW ?_
  refine ROps.l (r := AV.i64 0) rfl rfl rfl (LOp.assign rfl rfl) ?_
  refine ROps.nil ?_
  obtain ⟨z2, hz_2, h⟩ := obind_some h
  refine RunC.cutN (fun τ Γ => ∃ (v6 : Int), WeakLe τ [(1, AV.i64 v6)] ∧ DeadLe Γ [] ∧ z2 = .inl v6) ?_ ?_
  · refine RunC.block (RunC.loop (RunL.loopM (x := z2) (w_heldInt64S_s1 a0) (fun (s : Int × Int) τ Γ => WeakLe τ [(0, AV.sl a0.length (a0.map AV.i64)), (1, AV.i64 s.1), (5, AV.i64 s.2)] ∧ DeadLe Γ []) ?_ _ _ _ hz_2 ⟨⟨(ALe.refl _), (ALe.refl _), (ALe.refl _), trivial⟩, trivial⟩))
    rintro ⟨v1, v2⟩ τ2 Γ2 y2_ ⟨hw2, hd2⟩ h2_ ho2 hr2
    refine RunC.wl (τ' := [(0, AV.sl a0.length (a0.map AV.i64)), (1, AV.i64 v1), (5, AV.i64 v2)]) (Γ' := []) hw2 hd2 ?_
    replace h2_ : w_heldInt64S_b1 a0 v1 v2 = some y2_ := h2_
    unfold w_heldInt64S_b1 at h2_
    refine RunC.seq ?_
    refine RunC.seq ?_
    rcases bsel_some h2_ with ⟨hc1, h2_⟩ | ⟨hc1, h2_⟩
    · refine RunC.regionW ?_
      refine ROps.l (r := AV.i64 v2) rfl rfl rfl (LOp.move rfl rfl) ?_
      refine ROps.l (r := AV.sl a0.length (a0.map AV.i64)) rfl rfl rfl (LOp.move rfl rfl) ?_
      refine ROps.l (r := AV.i64 (a0.length : Int)) rfl rfl rfl (LOp.len_sl und28 rfl rfl) ?_
      refine ROps.l (r := AV.b true) rfl rfl rfl (LOp.eqb (LOp.lss rfl rfl rfl) hc1) ?_
      refine ROps.nil ?_
      refine RunC.cond_true rfl rfl ?_
      refine RunC.skip ?_
      refine RunC.seq ?_
      refine RunC.block ?_
      refine RunC.seq ?_
      refine RunC.seq ?_
      obtain ⟨e3, he2, h2_⟩ := obind_some h2_
      rcases bsel_some h2_ with ⟨hc3, h2_⟩ | ⟨hc3, h2_⟩
      · refine RunC.regionW ?_
        refine ROps.l (r := AV.sl a0.length (a0.map AV.i64)) rfl rfl rfl (LOp.move rfl rfl) ?_
        refine ROps.l (r := AV.i64 v2) rfl rfl rfl (LOp.move rfl rfl) ?_
        refine ROps.l (r := AV.ptr [AV.i64 e3]) rfl rfl rfl (LOp.le (LOp.ix (f := AV.i64) und28 siz2 rfl rfl rfl rfl he2) ALe.ptr) ?_
        refine ROps.l (r := AV.i64 e3) rfl rfl rfl (LOp.load1 agg2 rfl rfl) ?_
        refine ROps.l (r := AV.i64 v1) rfl rfl rfl (LOp.move rfl rfl) ?_
        refine ROps.l (r := AV.b true) rfl rfl rfl (LOp.eqb (LOp.neq rfl rfl rfl) hc3) ?_
        refine ROps.nil ?_
        refine RunC.cond_true rfl rfl ?_
        refine RunC.seq ?_
        refine RunC.regionW ?_
        refine ROps.l (r := AV.i64 (-1)) rfl rfl rfl (LOp.assign rfl rfl) ?_
        refine ROps.nil ?_
        refine RunC.ret ?_
        cases Option.some.inj h2_
        have hx3_ := hr2 _ rfl
        subst hx3_
        have hq := Option.some.inj h
        subst q0
        exact bodyQ.pure (.inr rfl) rfl (Res.one rfl (RV.tmp rfl))
      · refine RunC.regionW ?_
        refine ROps.l (r := AV.sl a0.length (a0.map AV.i64)) rfl rfl rfl (LOp.move rfl rfl) ?_
        refine ROps.l (r := AV.i64 v2) rfl rfl rfl (LOp.move rfl rfl) ?_
        refine ROps.l (r := AV.ptr [AV.i64 e3]) rfl rfl rfl (LOp.le (LOp.ix (f := AV.i64) und28 siz2 rfl rfl rfl rfl he2) ALe.ptr) ?_
        refine ROps.l (r := AV.i64 e3) rfl rfl rfl (LOp.load1 agg2 rfl rfl) ?_
        refine ROps.l (r := AV.i64 v1) rfl rfl rfl (LOp.move rfl rfl) ?_
        refine ROps.l (r := AV.b false) rfl rfl rfl (LOp.eqb (LOp.neq rfl rfl rfl) hc3) ?_
        refine ROps.nil ?_
        refine RunC.cond_false rfl rfl ?_
        refine RunC.skip ?_
        obtain ⟨x4, hx4, h2_⟩ := olet_some h2_
        refine RunC.regionW ?_
        refine ROps.l (r := AV.i64 v1) rfl rfl rfl (LOp.move rfl rfl) ?_
        refine ROps.l (r := AV.i64 x4) rfl rfl rfl (LOp.eqr (LOp.add rfl rfl rfl) (congrArg (AV.ik .i64) hx4)) ?_
        refine ROps.l (r := AV.i64 x4) rfl rfl rfl (LOp.assign rfl rfl) ?_
        refine ROps.nil ?_
        obtain ⟨x5, hx5, h2_⟩ := olet_some h2_
        refine RunC.regionW ?_
        refine ROps.l (r := AV.i64 v2) rfl rfl rfl (LOp.move rfl rfl) ?_
        refine ROps.l (r := AV.i64 x5) rfl rfl rfl (LOp.eqr (LOp.add rfl rfl rfl) (congrArg (AV.ik .i64) hx5)) ?_
        refine ROps.l (r := AV.i64 x5) rfl rfl rfl (LOp.assign rfl rfl) ?_
        refine ROps.nil ?_
        cases Option.some.inj h2_
        exact ⟨_, rfl, ⟨(ALe.refl _), (ALe.refl _), (ALe.refl _), trivial⟩, trivial⟩
    · refine RunC.regionW ?_
      refine ROps.l (r := AV.i64 v2) rfl rfl rfl (LOp.move rfl rfl) ?_
      refine ROps.l (r := AV.sl a0.length (a0.map AV.i64)) rfl rfl rfl (LOp.move rfl rfl) ?_
      refine ROps.l (r := AV.i64 (a0.length : Int)) rfl rfl rfl (LOp.len_sl und28 rfl rfl) ?_
      refine ROps.l (r := AV.b false) rfl rfl rfl (LOp.eqb (LOp.lss rfl rfl rfl) hc1) ?_
      refine ROps.nil ?_
      refine RunC.cond_false rfl rfl ?_
      refine RunC.exit ?_
      cases Option.some.inj h2_
      have hx := ho2 _ rfl
      exact ⟨v1, ⟨(ALe.refl _), trivial⟩, trivial, hx⟩
  · rintro τ4 Γ4 ⟨v6, hw4, hd4, rfl⟩
    refine RunC.wl (τ' := [(1, AV.i64 v6)]) (Γ' := []) hw4 hd4 ?_
    replace h : w_heldInt64S_k1 v6 = some q0 := h
    unfold w_heldInt64S_k1 at h
    refine RunC.seq ?_
    refine RunC.regionW ?_
    refine ROps.l (r := AV.i64 v6) rfl rfl rfl (LOp.move rfl rfl) ?_
    refine ROps.l (r := AV.i64 v6) rfl rfl rfl (LOp.assign rfl rfl) ?_
    refine ROps.nil ?_
    refine RunC.ret ?_
    have hq := Option.some.inj h
    subst q0
    exact bodyQ.pure (.inr rfl) rfl (Res.one rfl (RV.tmp rfl))
noncomputable def w_heldFactor (a0 : Int) (a1 : Int) (a2 : List F) (a3 : List Int) (a4 : Int) : Option (Int) :=
  obind (w_heldMatrix a0 a1 a2 a4) fun (r1 : Int) =>
  bsel (decide (r1 < 0)) (
    some (-1)) (
    obind (w_heldInt64S a3 r1) fun (r2 : Int) =>
    bsel (decide (r2 < 0)) (
      some (-1)) (
      some r2))
theorem w_heldFactor_ok (a0 : Int) (a1 : Int) (a2 : List F) (a3 : List Int) (a4 : Int) (q0 : Int) (h : w_heldFactor a0 a1 a2 a3 a4 = some q0) : Ev Try.prog 31 [AV.agg [AV.i64 a0, AV.i64 a1, AV.sl a2.length (a2.map AV.f32), AV.sl a3.length (a3.map AV.i64)], AV.i64 a4] [] (AV.i64 q0) [] := by
  refine Ev.start Try.func31 rfl rfl 0 (τ := [(0, AV.agg [AV.i64 a0, AV.i64 a1, AV.sl a2.length (a2.map AV.f32), AV.sl a3.length (a3.map AV.i64)]), (1, AV.i64 a4)]) rfl (Γ' := []) rfl (n := 18) rfl (g := 0) rfl ?_
  unfold w_heldFactor at h
  refine RunC.seq ?_
  refine RunC.regionW ?_
  refine ROps.d (r := AV.ptr [AV.i64 a0, AV.i64 a1, AV.sl a2.length (a2.map AV.f32), AV.sl a3.length (a3.map AV.i64)]) (fs := []) (Γ' := []) rfl rfl rfl (TOp.box_s rfl rfl rfl) rfl ?_
  refine ROps.l (r := AV.i64 0) rfl rfl rfl (LOp.assign rfl rfl) ?_
  refine ROps.nil ?_
  refine RunC.seq ?_
  obtain ⟨r1, hf1, h⟩ := obind_some h
  refine RunC.regionW ?_
  refine ROps.l (r := AV.ptr [AV.i64 a0, AV.i64 a1, AV.sl a2.length (a2.map AV.f32), AV.sl a3.length (a3.map AV.i64)]) rfl rfl rfl (LOp.fap und48 rfl siz27 rfl rfl rfl) ?_
  refine ROps.l (r := AV.agg [AV.i64 a0, AV.i64 a1, AV.sl a2.length (a2.map AV.f32)]) rfl rfl rfl (LOp.loadAgg agg27 siz27 rfl rfl rfl rfl) ?_
  refine ROps.l (r := AV.i64 a4) rfl rfl rfl (LOp.move rfl rfl) ?_
  refine ROps.d (r := AV.i64 r1) (fs := []) (Γ' := []) rfl rfl rfl (TOp.callB (CallAs.func ent17 rfl rfl) (Bors.cons (Bor.agg (Bors.cons (Bor.pure rfl) (Bors.cons (Bor.pure rfl) (Bors.cons (Bor.sl (fun _ => rfl)) Bors.nil)))) (Bors.cons (Bor.pure rfl) Bors.nil)) rfl rfl (w_heldMatrix_ok a0 a1 a2 a4 r1 hf1)) rfl ?_
  refine ROps.l (r := AV.i64 r1) rfl rfl rfl (LOp.assign rfl rfl) ?_
  refine ROps.nil ?_
  refine RunC.seq ?_
  refine RunC.seq ?_
  rcases bsel_some h with ⟨hc2, h⟩ | ⟨hc2, h⟩
  · refine RunC.regionW ?_
    refine ROps.l (r := AV.i64 r1) rfl rfl rfl (LOp.move rfl rfl) ?_
    refine ROps.l (r := AV.b true) rfl rfl rfl (LOp.eqb (LOp.lss rfl rfl rfl) hc2) ?_
    refine ROps.nil ?_
    refine RunC.cond_true rfl rfl ?_
    refine RunC.seq ?_
    refine RunC.regionW ?_
    refine ROps.l (r := AV.i64 (-1)) rfl rfl rfl (LOp.assign rfl rfl) ?_
    refine ROps.nil ?_
    refine RunC.ret ?_
    have hq := Option.some.inj h
    subst q0
    exact bodyQ.pure (.inr rfl) rfl (Res.one rfl (RV.tmp rfl))
  · refine RunC.regionW ?_
    refine ROps.l (r := AV.i64 r1) rfl rfl rfl (LOp.move rfl rfl) ?_
    refine ROps.l (r := AV.b false) rfl rfl rfl (LOp.eqb (LOp.lss rfl rfl rfl) hc2) ?_
    refine ROps.nil ?_
    refine RunC.cond_false rfl rfl ?_
    refine RunC.skip ?_
    refine RunC.seq ?_
    obtain ⟨r2, hf3, h⟩ := obind_some h
    refine RunC.regionW ?_
    refine ROps.l (r := AV.ptr [AV.sl a3.length (a3.map AV.i64)]) rfl rfl rfl (LOp.fap und48 rfl siz28 rfl rfl rfl) ?_
    refine ROps.l (r := AV.sl a3.length (a3.map AV.i64)) rfl rfl rfl (LOp.load1 agg28 rfl rfl) ?_
    refine ROps.l (r := AV.i64 r1) rfl rfl rfl (LOp.move rfl rfl) ?_
    refine ROps.d (r := AV.i64 r2) (fs := []) (Γ' := []) rfl rfl rfl (TOp.callB (CallAs.func ent18 rfl rfl) (Bors.cons (Bor.sl (fun _ => rfl)) (Bors.cons (Bor.pure rfl) Bors.nil)) rfl rfl (w_heldInt64S_ok a3 r1 r2 hf3)) rfl ?_
    refine ROps.l (r := AV.i64 r2) rfl rfl rfl (LOp.assign rfl rfl) ?_
    refine ROps.nil ?_
    refine RunC.wl (τ' := [(1, AV.i64 r2)]) (Γ' := []) ⟨(ALe.refl _), trivial⟩ trivial ?_
    refine RunC.seq ?_
    refine RunC.seq ?_
    rcases bsel_some h with ⟨hc4, h⟩ | ⟨hc4, h⟩
    · refine RunC.regionW ?_
      refine ROps.l (r := AV.i64 r2) rfl rfl rfl (LOp.move rfl rfl) ?_
      refine ROps.l (r := AV.b true) rfl rfl rfl (LOp.eqb (LOp.lss rfl rfl rfl) hc4) ?_
      refine ROps.nil ?_
      refine RunC.cond_true rfl rfl ?_
      refine RunC.seq ?_
      refine RunC.regionW ?_
      refine ROps.l (r := AV.i64 (-1)) rfl rfl rfl (LOp.assign rfl rfl) ?_
      refine ROps.nil ?_
      refine RunC.ret ?_
      have hq := Option.some.inj h
      subst q0
      exact bodyQ.pure (.inr rfl) rfl (Res.one rfl (RV.tmp rfl))
    · refine RunC.regionW ?_
      refine ROps.l (r := AV.i64 r2) rfl rfl rfl (LOp.move rfl rfl) ?_
      refine ROps.l (r := AV.b false) rfl rfl rfl (LOp.eqb (LOp.lss rfl rfl rfl) hc4) ?_
      refine ROps.nil ?_
      refine RunC.cond_false rfl rfl ?_
      refine RunC.skip ?_
      refine RunC.seq ?_
      refine RunC.regionW ?_
      refine ROps.l (r := AV.i64 r2) rfl rfl rfl (LOp.move rfl rfl) ?_
      refine ROps.l (r := AV.i64 r2) rfl rfl rfl (LOp.assign rfl rfl) ?_
      refine ROps.nil ?_
      refine RunC.ret ?_
      have hq := Option.some.inj h
      subst q0
      exact bodyQ.pure (.inr rfl) rfl (Res.one rfl (RV.tmp rfl))
end Go.Proofs.Ytjbifkimffmhpaa
