/- Generated. -/
import Derived.Test.YtkdociaoknmgbaaG0
namespace Go.Proofs.Ytkdociaoknmgbaa
open Go Go.AM Go.AM.AV
set_option maxRecDepth 20000
set_option maxHeartbeats 4000000
set_option linter.unusedVariables false
set_option linter.unusedSimpArgs false
noncomputable def s_l02Flip_b1 (a0 : Int) (a1 : Int) (a2 : List F) (L6 : List F) (v7 : Int) : Option (LR ((List F) × Int) ((List F)) (Int × Int × (List F))) :=
 olet (IntKind.i64.wrap (a0 * a1)) fun (x8 : Int) =>
 bsel (decide (v7 < x8)) (
  need (!decide (a0 = 0)) <|
  olet (v7.tmod a0) fun (x9 : Int) =>
  need (!decide (a0 = 0)) <|
  olet (IntKind.i64.wrap (v7.tdiv a0)) fun (x10 : Int) =>
  obind (s_l02At a0 a1 a2 x9 x10) fun (r11 : F) =>
  need (apok 4 L6.length 1) <|
  olet (IntKind.i64.wrap (v7 + 1)) fun (x12 : Int) =>
  some (LR.next ((L6 ++ ([r11] : List F)), x12))) (
  some (LR.out L6))
noncomputable def s_l02Flip_s1 (a0 : Int) (a1 : Int) (a2 : List F) : ((List F) × Int) → Option (LR ((List F) × Int) ((List F)) (Int × Int × (List F))) := fun s => s_l02Flip_b1 a0 a1 a2 s.1 s.2
noncomputable def s_l02Flip_k1 (r1 : Int) (r2 : Int) (L15 : List F) : Option (Int × Int × (List F)) :=
 some (r1, r2, L15)
noncomputable def s_l02Flip (a0 : Int) (a1 : Int) (a2 : List F) : Option (Int × Int × (List F)) :=
 obind3 (s_l02Blank a1 a0) fun (r1 : Int) (r2 : Int) (r3 : List F) =>
 obind (loopM (s_l02Flip_s1 a0 a1 a2) (r3, 0)) fun z => osum z (fun e => s_l02Flip_k1 r1 r2 e) (fun r => some r)
theorem s_l02Flip_ok (a0 : Int) (a1 : Int) (a2 : List F) (q0 : Int) (q1 : Int) (q2 : List F) (h : s_l02Flip a0 a1 a2 = some (q0, q1, q2)) : Ev Try.prog 116 [ptr (mXc a0 a1 a2)] [] (agg (oXc q0 q1 0 0 q2.length)) [⟨0, some (q2.map f32)⟩] := by
 refine Ev.start Try.func116 rfl rfl 4 (τ := [(0, ptr (mXc a0 a1 a2))]) rfl (Γ' := [⟨0, none⟩, ⟨0, none⟩, ⟨0, none⟩, ⟨0, none⟩]) rfl (n := 95) rfl (g := 0) rfl (fun _ => rfl) ?_
 unfold s_l02Flip at h
 refine zQ ?_
 refine ROps.d (r := optr 0 1 0) (fs := [(0, zMx)]) (Γ' := [⟨1, some zMx⟩, ⟨0, none⟩, ⟨0, none⟩, ⟨0, none⟩]) rfl rfl rfl (TOp.alloc_o (g := ⟨0, none⟩) 0 rfl zer33 zok33 rfl) rfl ?_
 refine zN ?_
 refine RunC.seq ?_
 obtain ⟨r1, r2, r3, hf1, h⟩ := obind3_some h
 refine RunC.region_draw (Γ' := [⟨1, some zMx⟩, ⟨1, some (r3.map f32)⟩, ⟨1, some zMx⟩, ⟨0, none⟩]) 10 mixed 
  (TR.l (r := ptr (mXc a0 a1 a2)) rfl rfl (LOp.move rfl rfl) <|
  (TR.l (r := ptr (mXc a0 a1 a2)) rfl rfl (LOp.nilCheck_ptr rfl rfl) <|
  (TR.l (r := ptr [i64 a1, (sFc a2)]) rfl rfl (LOp.fap und33 rfl siz2 rfl rfl rfl) <|
  (TR.l (r := i64 a1) rfl rfl (LOp.load1 agg2 rfl rfl) <|
  (TR.l (r := ptr (mXc a0 a1 a2)) rfl rfl (LOp.move rfl rfl) <|
  (TR.l (r := ptr (mXc a0 a1 a2)) rfl rfl (LOp.nilCheck_ptr rfl rfl) <|
  (TR.l (r := ptr (mXc a0 a1 a2)) rfl rfl (LOp.fap und33 rfl siz2 rfl rfl rfl) <|
  (TR.l (r := i64 a0) rfl rfl (LOp.load1 agg2 rfl rfl) <|
  (TR.d (r := agg (oXc r1 r2 1 1 r3.length)) (fs := [(1, (r3.map f32))]) rfl rfl (TOp.callBN (ls := [(r3.map f32)]) [1] (CallAs.func ent161 rfl rfl) (Bors.cons (Bor.pure rfl) (Bors.cons (Bor.pure rfl) Bors.nil)) rfl (s_l02Blank_ok a1 a0 r1 r2 r3 hf1) (and_all (lts0_map (f := f32) (fun _ => rfl) _) rfl) (and_all (noss_map (f := f32) (fun _ => rfl) _) rfl) rfl (by decide) (ns_of ⟨⟨_, rfl⟩, trivial⟩)) <|
  (TR.d (r := optr 2 1 0) (fs := [(2, zMx)]) rfl rfl (TOp.alloc_o (g := ⟨0, none⟩) 2 rfl zer33 zok33 rfl) <|
  TR.nil)))))))))) rfl (by kernel_rfl) rfl (fills_of (by show List.Nodup [1, 2]; decide) ⟨⟨_, rfl⟩, ⟨_, rfl⟩, trivial⟩) rfl ?_
 iterate 10 refine ROps.dropS ?_
 refine ROps.drop0 ?_
 refine ROps.store_le (r := agg (oXc r1 r2 1 1 r3.length)) (l' := (oXc r1 r2 1 1 r3.length)) (Γ' := [⟨1, some zMx⟩, ⟨1, some (r3.map f32)⟩, ⟨1, some (oXc r1 r2 1 1 r3.length)⟩, ⟨0, none⟩]) rfl siz33 rfl rfl rfl aR rfl rfl rfl rfl (Nat.le_of_ble_eq_true rfl) rfl rfl ?_
 refine zN ?_
 refine RunC.seq ?_
 refine zQ ?_
 refine za (r := i64 0) ?_
 refine zN ?_
 obtain ⟨z2, hz_2, h⟩ := obind_some h
 refine RunC.cutN (fun τ Γ => ∃ (L15 : List F) (u13 : Nat) (u14 : Nat), WeakLe τ [(2, optr 0 1 0), (3, optr 2 1 0)] ∧ DeadLe Γ [⟨1, some zMx⟩, ⟨u13, some (L15.map f32)⟩, ⟨1, some (oXc r1 r2 1 u13 L15.length)⟩, ⟨u14, none⟩] ∧ z2 = .inl L15) ?_ ?_
 ·refine RunC.block (RunC.loop (RunL.loopM (x := z2) (s_l02Flip_s1 a0 a1 a2) (fun (s : (List F) × Int) τ Γ => ∃ (u4 : Nat) (u5 : Nat), WeakLe τ [(0, ptr (mXc a0 a1 a2)), (2, optr 0 1 0), (3, optr 2 1 0), (4, i64 s.2)] ∧ DeadLe Γ [⟨1, some zMx⟩, ⟨u4, some (s.1.map f32)⟩, ⟨1, some [i64 r1, i64 r2, oref 1 u4 0 s.1.length]⟩, ⟨u5, none⟩]) ?_ _ _ _ hz_2 ⟨1, 0, ⟨aR, aR, aR, aR, trivial⟩, ⟨⟨rfl, .inr rfl⟩, ⟨rfl, .inr rfl⟩, ⟨rfl, .inr (by first | rfl | simp)⟩, ⟨rfl, .inl rfl⟩, trivial⟩⟩))
  rintro ⟨L6, v7⟩ τ2 Γ2 y2_ ⟨u4, u5, hw2, hd2⟩ h2_ ho2 hr2
  refine RunC.wl (τ' := [(0, ptr (mXc a0 a1 a2)), (2, optr 0 1 0), (3, optr 2 1 0), (4, i64 v7)]) (Γ' := [⟨1, some zMx⟩, ⟨u4, some (L6.map f32)⟩, ⟨1, some (oXc r1 r2 1 u4 L6.length)⟩, ⟨u5, none⟩]) hw2 hd2 ?_
  replace h2_ : s_l02Flip_b1 a0 a1 a2 L6 v7 = some y2_ := h2_
  unfold s_l02Flip_b1 at h2_
  iterate 2 (refine RunC.seq ?_)
  obtain ⟨x8, hx2, h2_⟩ := olet_some h2_
  rcases bsel_some h2_ with ⟨hc3, h2_⟩ | ⟨hc3, h2_⟩
  ·refine RunC.region_draw (Γ' := [⟨1, some zMx⟩, ⟨u4, some (L6.map f32)⟩, ⟨1, some (oXc r1 r2 1 u4 L6.length)⟩, ⟨u5, none⟩]) 11 mixed 
    (TR.l (r := i64 v7) rfl rfl (LOp.move rfl rfl) <|
    (TR.l (r := ptr (mXc a0 a1 a2)) rfl rfl (LOp.move rfl rfl) <|
    (TR.l (r := ptr (mXc a0 a1 a2)) rfl rfl (LOp.nilCheck_ptr rfl rfl) <|
    (TR.l (r := ptr (mXc a0 a1 a2)) rfl rfl (LOp.fap und33 rfl siz2 rfl rfl rfl) <|
    (TR.l (r := i64 a0) rfl rfl (LOp.load1 agg2 rfl rfl) <|
    (TR.l (r := ptr (mXc a0 a1 a2)) rfl rfl (LOp.move rfl rfl) <|
    (TR.l (r := ptr (mXc a0 a1 a2)) rfl rfl (LOp.nilCheck_ptr rfl rfl) <|
    (TR.l (r := ptr [i64 a1, (sFc a2)]) rfl rfl (LOp.fap und33 rfl siz2 rfl rfl rfl) <|
    (TR.l (r := i64 a1) rfl rfl (LOp.load1 agg2 rfl rfl) <|
    (TR.l (r := i64 x8) rfl rfl (LOp.eqr (LOp.mul rfl rfl rfl) (congrArg (ik .i64) hx2)) <|
    (TR.l (r := b true) rfl rfl (LOp.eqb (LOp.lss rfl rfl rfl) hc3) <|
    TR.nil))))))))))) rfl (by kernel_rfl) rfl fills_nil rfl ?_
   iterate 11 refine ROps.dropS ?_
   refine ROps.drop0 ?_
   refine zN ?_
   refine RunC.cond_true rfl rfl ?_
   refine RunC.skip ?_
   refine RunC.seq ?_
   refine RunC.block ?_
   obtain ⟨hz4, h2_⟩ := need_some h2_
   obtain ⟨x9, hx5, h2_⟩ := olet_some h2_
   obtain ⟨hz6, h2_⟩ := need_some h2_
   obtain ⟨x10, hx7, h2_⟩ := olet_some h2_
   obtain ⟨r11, hf8, h2_⟩ := obind_some h2_
   obtain ⟨hm9, h2_⟩ := need_some h2_
   refine RunC.region_draw (Γ' := [⟨1, some zMx⟩, ⟨u4, some (L6.map f32)⟩, ⟨1, some (oXc r1 r2 1 u4 L6.length)⟩, ⟨(u5 + 1), some (([r11] : List F).map f32)⟩]) 17 mixed 
    (TR.l (r := optr 2 1 2) rfl rfl (LOp.fao und33 rfl siz26 rfl rfl rfl) <|
    (TR.d (r := oref 1 u4 0 L6.length) (fs := []) rfl rfl (TOp.load1_o rfl rfl agg26 rfl rfl) <|
    (TR.l (r := ptr (mXc a0 a1 a2)) rfl rfl (LOp.move rfl rfl) <|
    (TR.l (r := i64 v7) rfl rfl (LOp.move rfl rfl) <|
    (TR.l (r := ptr (mXc a0 a1 a2)) rfl rfl (LOp.move rfl rfl) <|
    (TR.l (r := ptr (mXc a0 a1 a2)) rfl rfl (LOp.nilCheck_ptr rfl rfl) <|
    (TR.l (r := ptr (mXc a0 a1 a2)) rfl rfl (LOp.fap und33 rfl siz2 rfl rfl rfl) <|
    (TR.l (r := i64 a0) rfl rfl (LOp.load1 agg2 rfl rfl) <|
    (TR.l (r := i64 x9) rfl rfl (LOp.eqr (LOp.rem rfl rfl rfl (nz hz4)) (congrArg (ik .i64) hx5)) <|
    (TR.l (r := i64 v7) rfl rfl (LOp.move rfl rfl) <|
    (TR.l (r := ptr (mXc a0 a1 a2)) rfl rfl (LOp.move rfl rfl) <|
    (TR.l (r := ptr (mXc a0 a1 a2)) rfl rfl (LOp.nilCheck_ptr rfl rfl) <|
    (TR.l (r := ptr (mXc a0 a1 a2)) rfl rfl (LOp.fap und33 rfl siz2 rfl rfl rfl) <|
    (TR.l (r := i64 a0) rfl rfl (LOp.load1 agg2 rfl rfl) <|
    (TR.l (r := i64 x10) rfl rfl (LOp.eqr (LOp.quo rfl rfl rfl (nz hz6)) (congrArg (ik .i64) hx7)) <|
    (TR.d (r := f32 r11) (fs := []) rfl rfl (TOp.callB (CallAs.func ent163 rfl rfl) (Bors.cons (Bor.ptr (Bors.cons (Bor.pure rfl) (Bors.cons (Bor.pure rfl) (Bors.cons (Bor.sl (fun _ => rfl)) Bors.nil)))) (Bors.cons (Bor.pure rfl) (Bors.cons (Bor.pure rfl) Bors.nil))) rfl rfl (s_l02At_ok a0 a1 a2 x9 x10 r11 hf8)) <|
    (TR.d (r := oref 3 (u5 + 1) 0 1) (fs := [(3, (([r11] : List F).map f32))]) rfl rfl (TOp.buildSlice_o (g := ⟨u5, none⟩) (za := f32 (some 0)) (qs := [(0, [f32 r11])]) 3 rfl und26 siz28 zer28 rfl zel28 rfl rfl ⟨rfl, ⟨_, ALe.refl _, rfl⟩, trivial⟩ rfl) <|
    TR.nil))))))))))))))))) rfl (by kernel_rfl) rfl (fills_of (by show List.Nodup [3]; decide) ⟨⟨_, rfl⟩, trivial⟩) rfl ?_
   iterate 17 refine ROps.dropS ?_
   refine ROps.drop0 ?_
   refine ROps.app (f := f32) (xs := L6) (ys := ([r11] : List F)) (Γ' := [⟨1, some zMx⟩, ⟨(u4 + 1), some ((L6 ++ ([r11] : List F)).map f32)⟩, ⟨1, some (oXc r1 r2 1 u4 L6.length)⟩, ⟨(u5 + 1), some (([r11] : List F).map f32)⟩]) rfl pun26 inf28 rfl rfl rfl rfl rfl rfl rfl rfl rfl (by simp) (ReadAs.own rfl (by simp)) (ones_map (fun _ => rfl)) (ap_by hm9) (ap_mx hm9) rfl ?_
   refine zl (r := optr 2 1 2) (LOp.fao und33 rfl siz26 rfl rfl rfl) ?_
   refine ROps.store_le (r := oref 1 (u4 + 1) 0 (L6.length + 1)) (l' := [i64 r1, i64 r2, oref 1 (u4 + 1) 0 (L6.length + 1)]) (Γ' := [⟨1, some zMx⟩, ⟨(u4 + 1), some ((L6 ++ ([r11] : List F)).map f32)⟩, ⟨1, some [i64 r1, i64 r2, oref 1 (u4 + 1) 0 (L6.length + 1)]⟩, ⟨(u5 + 1), some (([r11] : List F).map f32)⟩]) rfl siz26 rfl rfl rfl aR rfl rfl rfl rfl (Nat.le_of_ble_eq_true rfl) rfl rfl ?_
   refine zN ?_
   refine RunC.wl (τ' := [(0, ptr (mXc a0 a1 a2)), (2, optr 0 1 0), (3, optr 2 1 0), (4, i64 v7)]) (Γ' := [⟨1, some zMx⟩, ⟨(u4 + 1), some ((L6 ++ ([r11] : List F)).map f32)⟩, ⟨1, some [i64 r1, i64 r2, oref 1 (u4 + 1) 0 (L6.length + 1)]⟩, ⟨(u5 + 1), none⟩]) ⟨aR, aR, aR, aR, trivial⟩ ⟨⟨rfl, .inr rfl⟩, ⟨rfl, .inr rfl⟩, ⟨rfl, .inr rfl⟩, ⟨rfl, .inl rfl⟩, trivial⟩ ?_
   obtain ⟨x12, hx10, h2_⟩ := olet_some h2_
   refine RunC.regionW ?_
   refine zm (r := i64 v7) ?_
   refine zl (r := i64 x12) (LOp.eqr (LOp.add rfl rfl rfl) (congrArg (ik .i64) hx10)) ?_
   refine za (r := i64 x12) ?_
   refine zN ?_
   cases Option.some.inj h2_
   exact ⟨_, rfl, (u4 + 1), (u5 + 1), ⟨aR, aR, aR, aR, trivial⟩, ⟨⟨rfl, .inr rfl⟩, ⟨rfl, .inr rfl⟩, ⟨rfl, .inr (by first | rfl | simp)⟩, ⟨rfl, .inl rfl⟩, trivial⟩⟩
  ·refine RunC.region_draw (Γ' := [⟨1, some zMx⟩, ⟨u4, some (L6.map f32)⟩, ⟨1, some (oXc r1 r2 1 u4 L6.length)⟩, ⟨u5, none⟩]) 11 mixed 
    (TR.l (r := i64 v7) rfl rfl (LOp.move rfl rfl) <|
    (TR.l (r := ptr (mXc a0 a1 a2)) rfl rfl (LOp.move rfl rfl) <|
    (TR.l (r := ptr (mXc a0 a1 a2)) rfl rfl (LOp.nilCheck_ptr rfl rfl) <|
    (TR.l (r := ptr (mXc a0 a1 a2)) rfl rfl (LOp.fap und33 rfl siz2 rfl rfl rfl) <|
    (TR.l (r := i64 a0) rfl rfl (LOp.load1 agg2 rfl rfl) <|
    (TR.l (r := ptr (mXc a0 a1 a2)) rfl rfl (LOp.move rfl rfl) <|
    (TR.l (r := ptr (mXc a0 a1 a2)) rfl rfl (LOp.nilCheck_ptr rfl rfl) <|
    (TR.l (r := ptr [i64 a1, (sFc a2)]) rfl rfl (LOp.fap und33 rfl siz2 rfl rfl rfl) <|
    (TR.l (r := i64 a1) rfl rfl (LOp.load1 agg2 rfl rfl) <|
    (TR.l (r := i64 x8) rfl rfl (LOp.eqr (LOp.mul rfl rfl rfl) (congrArg (ik .i64) hx2)) <|
    (TR.l (r := b false) rfl rfl (LOp.eqb (LOp.lss rfl rfl rfl) hc3) <|
    TR.nil))))))))))) rfl (by kernel_rfl) rfl fills_nil rfl ?_
   iterate 11 refine ROps.dropS ?_
   refine ROps.drop0 ?_
   refine zN ?_
   refine RunC.cond_false rfl rfl ?_
   refine RunC.exit ?_
   cases Option.some.inj h2_
   have hx := ho2 _ rfl
   exact ⟨L6, u4, u5, ⟨aR, aR, trivial⟩, ⟨⟨rfl, .inr rfl⟩, ⟨rfl, .inr rfl⟩, ⟨rfl, .inr (by first | rfl | simp)⟩, ⟨rfl, .inl rfl⟩, trivial⟩, hx⟩
 ·rintro τ3 Γ3 ⟨L15, u13, u14, hw3, hd3, rfl⟩
  refine RunC.wl hw3 hd3 ?_
  replace h : s_l02Flip_k1 r1 r2 L15 = some (q0, q1, q2) := h
  unfold s_l02Flip_k1 at h
  refine zQ ?_
  refine ROps.d (r := agg (oXc r1 r2 1 u13 L15.length)) (fs := []) (Γ' := [⟨1, some zMx⟩, ⟨u13, some (L15.map f32)⟩, ⟨1, some (oXc r1 r2 1 u13 L15.length)⟩, ⟨u14, none⟩]) rfl rfl rfl (TOp.loadAgg_o rfl agg33 siz33 rfl rfl rfl rfl) rfl ?_
  refine ROps.store_le (r := agg (oXc r1 r2 1 u13 L15.length)) (l' := (oXc r1 r2 1 u13 L15.length)) (Γ' := [⟨1, some (oXc r1 r2 1 u13 L15.length)⟩, ⟨u13, some (L15.map f32)⟩, ⟨1, some (oXc r1 r2 1 u13 L15.length)⟩, ⟨u14, none⟩]) rfl siz33 rfl rfl rfl aR rfl rfl rfl rfl (Nat.le_of_ble_eq_true rfl) rfl rfl ?_
  refine zN ?_
  refine RunC.ret ?_
  have hq := Option.some.inj h
  obtain ⟨hq0, hq⟩ := Prod.mk.inj hq
  obtain ⟨hq1, hq⟩ := Prod.mk.inj hq
  subst q0
  subst q1
  subst q2
  exact bodyQ.mk (r' := agg (oXc r1 r2 1 u13 L15.length)) [(1, u13)] (.inr rfl) rfl (show List.Nodup [1] from by decide) (by simp [ren, rens, sigma]) rfl (Res.one rfl (RV.cell agg33 siz33 rfl rfl rfl rfl)) (SelL.arr0 (f := f32) (fun _ => rfl) rfl trivial)
noncomputable def s_FlipMatrix (a0 : Int) (a1 : Int) (a2 : List F) : Option (Int × Int × Bool × (List F)) :=
 obind (s_l02Is a0 a1 a2) fun (r1 : Bool) =>
 bsel r1 (
  obind3 (s_l02Flip a0 a1 a2) fun (r2 : Int) (r3 : Int) (r4 : List F) =>
  some (r2, r3, true, r4)) (
  some (0, 0, false, ([] : List F)))
theorem s_FlipMatrix_ok (a0 : Int) (a1 : Int) (a2 : List F) (q0 : Int) (q1 : Int) (q2 : Bool) (q3 : List F) (h : s_FlipMatrix a0 a1 a2 = some (q0, q1, q2, q3)) : Ev Try.prog 48 [agg (mXc a0 a1 a2)] [] (tup [agg (oXc q0 q1 0 0 q3.length), b q2]) [⟨0, some (q3.map f32)⟩] := by
 refine Ev.start Try.func48 rfl rfl 2 (τ := [(0, agg (mXc a0 a1 a2))]) rfl (Γ' := [⟨0, none⟩, ⟨0, none⟩]) rfl (n := 17) rfl (g := 0) rfl (fun _ => rfl) ?_
 unfold s_FlipMatrix at h
 refine zQ ?_
 refine ROps.d (r := ptr (mXc a0 a1 a2)) (fs := []) (Γ' := [⟨0, none⟩, ⟨0, none⟩]) rfl rfl rfl (TOp.box_s rfl rfl rfl) rfl ?_
 refine ROps.d (r := optr 0 1 0) (fs := [(0, zMx)]) (Γ' := [⟨1, some zMx⟩, ⟨0, none⟩]) rfl rfl rfl (TOp.alloc_o (g := ⟨0, none⟩) 0 rfl zer33 zok33 rfl) rfl ?_
 refine za (r := b false) ?_
 refine zN ?_
 iterate 2 (refine RunC.seq ?_)
 obtain ⟨r1, hf1, h⟩ := obind_some h
 rcases bsel_some h with ⟨hc2, h⟩ | ⟨hc2, h⟩
 ·refine RunC.regionW ?_
  refine ROps.d (r := b true) (fs := []) (Γ' := [⟨1, some zMx⟩, ⟨0, none⟩]) rfl rfl rfl (TOp.eqb (TOp.callB (CallAs.func ent66 rfl rfl) (Bors.cons (Bor.ptr (Bors.cons (Bor.pure rfl) (Bors.cons (Bor.pure rfl) (Bors.cons (Bor.sl (fun _ => rfl)) Bors.nil)))) Bors.nil) rfl rfl (s_l02Is_ok a0 a1 a2 r1 hf1)) hc2) rfl ?_
  refine zl (r := b false) (LOp.eqb (LOp.not rfl rfl) rfl) ?_
  refine zN ?_
  refine RunC.cond_false rfl rfl ?_
  refine RunC.skip ?_
  refine RunC.seq ?_
  obtain ⟨r2, r3, r4, hf3, h⟩ := obind3_some h
  refine RunC.regionW ?_
  refine ROps.d (r := agg (oXc r2 r3 1 1 r4.length)) (fs := [(1, (r4.map f32))]) (Γ' := [⟨1, some zMx⟩, ⟨1, some (r4.map f32)⟩]) rfl rfl rfl (TOp.callBN (ls := [(r4.map f32)]) [1] (CallAs.func ent116 rfl rfl) (Bors.cons (Bor.ptr (Bors.cons (Bor.pure rfl) (Bors.cons (Bor.pure rfl) (Bors.cons (Bor.sl (fun _ => rfl)) Bors.nil)))) Bors.nil) rfl (s_l02Flip_ok a0 a1 a2 r2 r3 r4 hf3) (and_all (lts0_map (f := f32) (fun _ => rfl) _) rfl) (and_all (noss_map (f := f32) (fun _ => rfl) _) rfl) rfl (by decide) (ns_of ⟨⟨_, rfl⟩, trivial⟩)) rfl ?_
  refine ROps.store_le (r := agg (oXc r2 r3 1 1 r4.length)) (l' := (oXc r2 r3 1 1 r4.length)) (Γ' := [⟨1, some (oXc r2 r3 1 1 r4.length)⟩, ⟨1, some (r4.map f32)⟩]) rfl siz33 rfl rfl rfl aR rfl rfl rfl rfl (Nat.le_of_ble_eq_true rfl) rfl rfl ?_
  refine za (r := b true) ?_
  refine zN ?_
  refine RunC.ret ?_
  have hq := Option.some.inj h
  obtain ⟨hq0, hq⟩ := Prod.mk.inj hq
  obtain ⟨hq1, hq⟩ := Prod.mk.inj hq
  obtain ⟨hq2, hq⟩ := Prod.mk.inj hq
  subst q0
  subst q1
  subst q2
  subst q3
  exact bodyQ.mk (r' := tup [agg (oXc r2 r3 1 1 r4.length), b true]) [(1, 1)] (.inr rfl) rfl (show List.Nodup [1] from by decide) rfl rfl (Res.two rfl (RV.cell agg33 siz33 rfl rfl rfl rfl) (RV.tmp rfl)) (SelL.arr0 (f := f32) (fun _ => rfl) rfl trivial)
 ·refine RunC.regionW ?_
  refine ROps.d (r := b false) (fs := []) (Γ' := [⟨1, some zMx⟩, ⟨0, none⟩]) rfl rfl rfl (TOp.eqb (TOp.callB (CallAs.func ent66 rfl rfl) (Bors.cons (Bor.ptr (Bors.cons (Bor.pure rfl) (Bors.cons (Bor.pure rfl) (Bors.cons (Bor.sl (fun _ => rfl)) Bors.nil)))) Bors.nil) rfl rfl (s_l02Is_ok a0 a1 a2 r1 hf1)) hc2) rfl ?_
  refine zl (r := b true) (LOp.eqb (LOp.not rfl rfl) rfl) ?_
  refine zN ?_
  refine RunC.cond_true rfl rfl ?_
  refine zQ ?_
  refine zl (r := agg zMx) (LOp.build (qs := []) zer33 zok33 und33 plc33 rfl trivial rfl) ?_
  refine ROps.store_le (r := agg zMx) (l' := zMx) (Γ' := [⟨1, some zMx⟩, ⟨0, none⟩]) rfl siz33 rfl rfl rfl aR rfl rfl rfl rfl (Nat.le_of_ble_eq_true rfl) rfl rfl ?_
  refine za (r := b false) ?_
  refine zN ?_
  refine RunC.nil_cell (l' := [i64 0, i64 0, oref 1 1 0 0]) (Γ' := [⟨1, some [i64 0, i64 0, oref 1 1 0 0]⟩, ⟨1, some (([] : List F).map f32)⟩]) 0 2 1 rfl rfl rfl rfl rfl ?_
  refine RunC.ret ?_
  have hq := Option.some.inj h
  obtain ⟨hq0, hq⟩ := Prod.mk.inj hq
  obtain ⟨hq1, hq⟩ := Prod.mk.inj hq
  obtain ⟨hq2, hq⟩ := Prod.mk.inj hq
  subst q0
  subst q1
  subst q2
  subst q3
  exact bodyQ.mk (r' := tup [agg [i64 0, i64 0, oref 1 1 0 (([] : List F).length)], b false]) [(1, 1)] (.inr rfl) rfl (show List.Nodup [1] from by decide) rfl rfl (Res.eq (Res.two rfl (RV.cell agg33 siz33 rfl rfl rfl rfl) (RV.tmp rfl)) (by rw [(show ([] : List F).length = 0 from rfl)] <;> rfl)) (SelL.arr0 (f := f32) (fun _ => rfl) rfl trivial)
noncomputable def s_l02Fit (a0 : Int) (a1 : Int) (a2 : List F) (a3 : Int) (a4 : Int) (a5 : List F) : Option (Bool) :=
 obind (s_l02Is a0 a1 a2) fun (r1 : Bool) =>
 bsel r1 (
  obind (s_l02Is a3 a4 a5) fun (r2 : Bool) =>
  bsel r2 (
   some (decide (a1 = a3))) (
   some false)) (
  some false)
theorem s_l02Fit_ok (a0 : Int) (a1 : Int) (a2 : List F) (a3 : Int) (a4 : Int) (a5 : List F) (q0 : Bool) (h : s_l02Fit a0 a1 a2 a3 a4 a5 = some q0) : Ev Try.prog 117 [ptr (mXc a0 a1 a2), ptr (mXc a3 a4 a5)] [] (b q0) [] := by
 refine Ev.start Try.func117 rfl rfl 0 (τ := [(0, ptr (mXc a0 a1 a2)), (1, ptr (mXc a3 a4 a5))]) rfl (Γ' := []) rfl (n := 45) rfl (g := 0) rfl (fun _ => rfl) ?_
 unfold s_l02Fit at h
 refine zQ ?_
 refine za (r := b false) ?_
 refine zN ?_
 refine RunC.seq ?_
 obtain ⟨r1, hf1, h⟩ := obind_some h
 rcases bsel_some h with ⟨hc2, h⟩ | ⟨hc2, h⟩
 ·obtain ⟨r2, hf3, h⟩ := obind_some h
  rcases bsel_some h with ⟨hc4, h⟩ | ⟨hc4, h⟩
  ·refine RunC.region_draw (Γ' := []) 18 mixed 
    (TR.l (r := ptr (mXc a0 a1 a2)) rfl rfl (LOp.move rfl rfl) <|
    (TR.d (r := b true) (fs := []) rfl rfl (TOp.eqb (TOp.callB (CallAs.func ent66 rfl rfl) (Bors.cons (Bor.ptr (Bors.cons (Bor.pure rfl) (Bors.cons (Bor.pure rfl) (Bors.cons (Bor.sl (fun _ => rfl)) Bors.nil)))) Bors.nil) rfl rfl (s_l02Is_ok a0 a1 a2 r1 hf1)) hc2) <|
    (TR.l (r := b true) rfl rfl (LOp.move rfl rfl) <|
    (TR.l (r := ptr (mXc a3 a4 a5)) rfl rfl (LOp.move rfl rfl) <|
    (TR.d (r := b true) (fs := []) rfl rfl (TOp.eqb (TOp.callB (CallAs.func ent66 rfl rfl) (Bors.cons (Bor.ptr (Bors.cons (Bor.pure rfl) (Bors.cons (Bor.pure rfl) (Bors.cons (Bor.sl (fun _ => rfl)) Bors.nil)))) Bors.nil) rfl rfl (s_l02Is_ok a3 a4 a5 r2 hf3)) hc4) <|
    (TR.l (r := b true) rfl rfl (LOp.pick_true rfl rfl rfl) <|
    (TR.l (r := b true) rfl rfl (LOp.move rfl rfl) <|
    (TR.l (r := ptr (mXc a0 a1 a2)) rfl rfl (LOp.move rfl rfl) <|
    (TR.l (r := ptr (mXc a0 a1 a2)) rfl rfl (LOp.nilCheck_ptr rfl rfl) <|
    (TR.l (r := ptr [i64 a1, (sFc a2)]) rfl rfl (LOp.fap und33 rfl siz2 rfl rfl rfl) <|
    (TR.l (r := i64 a1) rfl rfl (LOp.load1 agg2 rfl rfl) <|
    (TR.l (r := ptr (mXc a3 a4 a5)) rfl rfl (LOp.move rfl rfl) <|
    (TR.l (r := ptr (mXc a3 a4 a5)) rfl rfl (LOp.nilCheck_ptr rfl rfl) <|
    (TR.l (r := ptr (mXc a3 a4 a5)) rfl rfl (LOp.fap und33 rfl siz2 rfl rfl rfl) <|
    (TR.l (r := i64 a3) rfl rfl (LOp.load1 agg2 rfl rfl) <|
    (TR.l (r := b (decide (a1 = a3))) rfl rfl (LOp.eql rfl rfl rfl) <|
    (TR.l (r := b (decide (a1 = a3))) rfl rfl (LOp.pick_true rfl rfl rfl) <|
    (TR.l (r := b (decide (a1 = a3))) rfl rfl (LOp.assign rfl rfl) <|
    TR.nil)))))))))))))))))) rfl (by kernel_rfl) rfl fills_nil rfl ?_
   iterate 18 refine ROps.dropS ?_
   refine ROps.drop0 ?_
   refine zN ?_
   refine RunC.ret ?_
   have hq := Option.some.inj h
   subst q0
   exact bodyQ.pure (.inr rfl) rfl (Res.one rfl (RV.tmp rfl))
  ·refine RunC.region_draw (Γ' := []) 18 mixed 
    (TR.l (r := ptr (mXc a0 a1 a2)) rfl rfl (LOp.move rfl rfl) <|
    (TR.d (r := b true) (fs := []) rfl rfl (TOp.eqb (TOp.callB (CallAs.func ent66 rfl rfl) (Bors.cons (Bor.ptr (Bors.cons (Bor.pure rfl) (Bors.cons (Bor.pure rfl) (Bors.cons (Bor.sl (fun _ => rfl)) Bors.nil)))) Bors.nil) rfl rfl (s_l02Is_ok a0 a1 a2 r1 hf1)) hc2) <|
    (TR.l (r := b true) rfl rfl (LOp.move rfl rfl) <|
    (TR.l (r := ptr (mXc a3 a4 a5)) rfl rfl (LOp.move rfl rfl) <|
    (TR.d (r := b false) (fs := []) rfl rfl (TOp.eqb (TOp.callB (CallAs.func ent66 rfl rfl) (Bors.cons (Bor.ptr (Bors.cons (Bor.pure rfl) (Bors.cons (Bor.pure rfl) (Bors.cons (Bor.sl (fun _ => rfl)) Bors.nil)))) Bors.nil) rfl rfl (s_l02Is_ok a3 a4 a5 r2 hf3)) hc4) <|
    (TR.l (r := b false) rfl rfl (LOp.pick_true rfl rfl rfl) <|
    (TR.l (r := b false) rfl rfl (LOp.move rfl rfl) <|
    (TR.s rfl rfl <|
    (TR.s rfl rfl <|
    (TR.s rfl rfl <|
    (TR.s rfl rfl <|
    (TR.s rfl rfl <|
    (TR.s rfl rfl <|
    (TR.s rfl rfl <|
    (TR.s rfl rfl <|
    (TR.s rfl rfl <|
    (TR.l (r := b false) rfl rfl (LOp.pick_false rfl rfl rfl) <|
    (TR.l (r := b false) rfl rfl (LOp.assign rfl rfl) <|
    TR.nil)))))))))))))))))) rfl (by kernel_rfl) rfl fills_nil rfl ?_
   iterate 18 refine ROps.dropS ?_
   refine ROps.drop0 ?_
   refine zN ?_
   refine RunC.ret ?_
   have hq := Option.some.inj h
   subst q0
   exact bodyQ.pure (.inr rfl) rfl (Res.one rfl (RV.tmp rfl))
 ·refine RunC.region_draw (Γ' := []) 18 mixed 
   (TR.l (r := ptr (mXc a0 a1 a2)) rfl rfl (LOp.move rfl rfl) <|
   (TR.d (r := b false) (fs := []) rfl rfl (TOp.eqb (TOp.callB (CallAs.func ent66 rfl rfl) (Bors.cons (Bor.ptr (Bors.cons (Bor.pure rfl) (Bors.cons (Bor.pure rfl) (Bors.cons (Bor.sl (fun _ => rfl)) Bors.nil)))) Bors.nil) rfl rfl (s_l02Is_ok a0 a1 a2 r1 hf1)) hc2) <|
   (TR.l (r := b false) rfl rfl (LOp.move rfl rfl) <|
   (TR.s rfl rfl <|
   (TR.s rfl rfl <|
   (TR.l (r := b false) rfl rfl (LOp.pick_false rfl rfl rfl) <|
   (TR.l (r := b false) rfl rfl (LOp.move rfl rfl) <|
   (TR.s rfl rfl <|
   (TR.s rfl rfl <|
   (TR.s rfl rfl <|
   (TR.s rfl rfl <|
   (TR.s rfl rfl <|
   (TR.s rfl rfl <|
   (TR.s rfl rfl <|
   (TR.s rfl rfl <|
   (TR.s rfl rfl <|
   (TR.l (r := b false) rfl rfl (LOp.pick_false rfl rfl rfl) <|
   (TR.l (r := b false) rfl rfl (LOp.assign rfl rfl) <|
   TR.nil)))))))))))))))))) rfl (by kernel_rfl) rfl fills_nil rfl ?_
  iterate 18 refine ROps.dropS ?_
  refine ROps.drop0 ?_
  refine zN ?_
  refine RunC.ret ?_
  have hq := Option.some.inj h
  subst q0
  exact bodyQ.pure (.inr rfl) rfl (Res.one rfl (RV.tmp rfl))
noncomputable def s_l02Mul_b2 (a0 : Int) (a1 : Int) (a2 : List F) (a3 : Int) (a4 : Int) (a5 : List F) (v7 : Int) (y9 : F) (v10 : Int) : Option (LR (F × Int) (F) (Int × Int × (List F))) :=
 bsel (decide (v10 < a1)) (
  need (!decide (a4 = 0)) <|
  olet (IntKind.i64.wrap (v7.tdiv a4)) fun (x11 : Int) =>
  obind (s_l02At a0 a1 a2 x11 v10) fun (r12 : F) =>
  need (!decide (a4 = 0)) <|
  olet (v7.tmod a4) fun (x13 : Int) =>
  obind (s_l02At a3 a4 a5 v10 x13) fun (r14 : F) =>
  olet (fop .mul .f32 r12 r14) fun (x15 : F) =>
  olet (fop .add .f32 y9 x15) fun (x16 : F) =>
  olet (IntKind.i64.wrap (v10 + 1)) fun (x17 : Int) =>
  some (LR.next (x16, x17))) (
  some (LR.out y9))
noncomputable def s_l02Mul_s2 (a0 : Int) (a1 : Int) (a2 : List F) (a3 : Int) (a4 : Int) (a5 : List F) (v7 : Int) : (F × Int) → Option (LR (F × Int) (F) (Int × Int × (List F))) := fun s => s_l02Mul_b2 a0 a1 a2 a3 a4 a5 v7 s.1 s.2
noncomputable def s_l02Mul_k2 (L6 : List F) (v7 : Int) (y18 : F) : Option (LR ((List F) × Int) ((List F)) (Int × Int × (List F))) :=
 need (apok 4 L6.length 1) <|
 olet (IntKind.i64.wrap (v7 + 1)) fun (x19 : Int) =>
 some (LR.next ((L6 ++ ([y18] : List F)), x19))
noncomputable def s_l02Mul_b3 (a0 : Int) (a1 : Int) (a2 : List F) (a3 : Int) (a4 : Int) (a5 : List F) (L6 : List F) (v7 : Int) : Option (LR ((List F) × Int) ((List F)) (Int × Int × (List F))) :=
 olet (IntKind.i64.wrap (a0 * a4)) fun (x8 : Int) =>
 bsel (decide (v7 < x8)) (
  obind (loopM (s_l02Mul_s2 a0 a1 a2 a3 a4 a5 v7) (some 0, 0)) fun z => osum z (fun e => s_l02Mul_k2 L6 v7 e) (fun r => some (LR.ret r))) (
  some (LR.out L6))
noncomputable def s_l02Mul_s3 (a0 : Int) (a1 : Int) (a2 : List F) (a3 : Int) (a4 : Int) (a5 : List F) : ((List F) × Int) → Option (LR ((List F) × Int) ((List F)) (Int × Int × (List F))) := fun s => s_l02Mul_b3 a0 a1 a2 a3 a4 a5 s.1 s.2
noncomputable def s_l02Mul_k3 (r1 : Int) (r2 : Int) (L22 : List F) : Option (Int × Int × (List F)) :=
 some (r1, r2, L22)
noncomputable def s_l02Mul (a0 : Int) (a1 : Int) (a2 : List F) (a3 : Int) (a4 : Int) (a5 : List F) : Option (Int × Int × (List F)) :=
 obind3 (s_l02Blank a0 a4) fun (r1 : Int) (r2 : Int) (r3 : List F) =>
 obind (loopM (s_l02Mul_s3 a0 a1 a2 a3 a4 a5) (r3, 0)) fun z => osum z (fun e => s_l02Mul_k3 r1 r2 e) (fun r => some r)
theorem s_l02Mul_ok (a0 : Int) (a1 : Int) (a2 : List F) (a3 : Int) (a4 : Int) (a5 : List F) (q0 : Int) (q1 : Int) (q2 : List F) (h : s_l02Mul a0 a1 a2 a3 a4 a5 = some (q0, q1, q2)) : Ev Try.prog 119 [ptr (mXc a0 a1 a2), ptr (mXc a3 a4 a5)] [] (agg (oXc q0 q1 0 0 q2.length)) [⟨0, some (q2.map f32)⟩] := by
 refine Ev.start Try.func119 rfl rfl 4 (τ := [(0, ptr (mXc a0 a1 a2)), (1, ptr (mXc a3 a4 a5))]) rfl (Γ' := [⟨0, none⟩, ⟨0, none⟩, ⟨0, none⟩, ⟨0, none⟩]) rfl (n := 135) rfl (g := 0) rfl (fun _ => rfl) ?_
 unfold s_l02Mul at h
 refine zQ ?_
 refine ROps.d (r := optr 0 1 0) (fs := [(0, zMx)]) (Γ' := [⟨1, some zMx⟩, ⟨0, none⟩, ⟨0, none⟩, ⟨0, none⟩]) rfl rfl rfl (TOp.alloc_o (g := ⟨0, none⟩) 0 rfl zer33 zok33 rfl) rfl ?_
 refine zN ?_
 refine RunC.seq ?_
 obtain ⟨r1, r2, r3, hf1, h⟩ := obind3_some h
 refine RunC.region_draw (Γ' := [⟨1, some zMx⟩, ⟨1, some (r3.map f32)⟩, ⟨1, some zMx⟩, ⟨0, none⟩]) 10 mixed 
  (TR.l (r := ptr (mXc a0 a1 a2)) rfl rfl (LOp.move rfl rfl) <|
  (TR.l (r := ptr (mXc a0 a1 a2)) rfl rfl (LOp.nilCheck_ptr rfl rfl) <|
  (TR.l (r := ptr (mXc a0 a1 a2)) rfl rfl (LOp.fap und33 rfl siz2 rfl rfl rfl) <|
  (TR.l (r := i64 a0) rfl rfl (LOp.load1 agg2 rfl rfl) <|
  (TR.l (r := ptr (mXc a3 a4 a5)) rfl rfl (LOp.move rfl rfl) <|
  (TR.l (r := ptr (mXc a3 a4 a5)) rfl rfl (LOp.nilCheck_ptr rfl rfl) <|
  (TR.l (r := ptr [i64 a4, (sFc a5)]) rfl rfl (LOp.fap und33 rfl siz2 rfl rfl rfl) <|
  (TR.l (r := i64 a4) rfl rfl (LOp.load1 agg2 rfl rfl) <|
  (TR.d (r := agg (oXc r1 r2 1 1 r3.length)) (fs := [(1, (r3.map f32))]) rfl rfl (TOp.callBN (ls := [(r3.map f32)]) [1] (CallAs.func ent161 rfl rfl) (Bors.cons (Bor.pure rfl) (Bors.cons (Bor.pure rfl) Bors.nil)) rfl (s_l02Blank_ok a0 a4 r1 r2 r3 hf1) (and_all (lts0_map (f := f32) (fun _ => rfl) _) rfl) (and_all (noss_map (f := f32) (fun _ => rfl) _) rfl) rfl (by decide) (ns_of ⟨⟨_, rfl⟩, trivial⟩)) <|
  (TR.d (r := optr 2 1 0) (fs := [(2, zMx)]) rfl rfl (TOp.alloc_o (g := ⟨0, none⟩) 2 rfl zer33 zok33 rfl) <|
  TR.nil)))))))))) rfl (by kernel_rfl) rfl (fills_of (by show List.Nodup [1, 2]; decide) ⟨⟨_, rfl⟩, ⟨_, rfl⟩, trivial⟩) rfl ?_
 iterate 10 refine ROps.dropS ?_
 refine ROps.drop0 ?_
 refine ROps.store_le (r := agg (oXc r1 r2 1 1 r3.length)) (l' := (oXc r1 r2 1 1 r3.length)) (Γ' := [⟨1, some zMx⟩, ⟨1, some (r3.map f32)⟩, ⟨1, some (oXc r1 r2 1 1 r3.length)⟩, ⟨0, none⟩]) rfl siz33 rfl rfl rfl aR rfl rfl rfl rfl (Nat.le_of_ble_eq_true rfl) rfl rfl ?_
 refine zN ?_
 refine RunC.seq ?_
 refine zQ ?_
 refine za (r := i64 0) ?_
 refine zN ?_
 obtain ⟨z4, hz_4, h⟩ := obind_some h
 refine RunC.cutN (fun τ Γ => ∃ (L22 : List F) (u20 : Nat) (u21 : Nat), WeakLe τ [(4, optr 0 1 0), (5, optr 2 1 0)] ∧ DeadLe Γ [⟨1, some zMx⟩, ⟨u20, some (L22.map f32)⟩, ⟨1, some (oXc r1 r2 1 u20 L22.length)⟩, ⟨u21, none⟩] ∧ z4 = .inl L22) ?_ ?_
 ·refine RunC.block (RunC.loop (RunL.loopM (x := z4) (s_l02Mul_s3 a0 a1 a2 a3 a4 a5) (fun (s : (List F) × Int) τ Γ => ∃ (u4 : Nat) (u5 : Nat), WeakLe τ [(0, ptr (mXc a0 a1 a2)), (1, ptr (mXc a3 a4 a5)), (4, optr 0 1 0), (5, optr 2 1 0), (6, i64 s.2)] ∧ DeadLe Γ [⟨1, some zMx⟩, ⟨u4, some (s.1.map f32)⟩, ⟨1, some [i64 r1, i64 r2, oref 1 u4 0 s.1.length]⟩, ⟨u5, none⟩]) ?_ _ _ _ hz_4 ⟨1, 0, ⟨aR, aR, aR, aR, aR, trivial⟩, ⟨⟨rfl, .inr rfl⟩, ⟨rfl, .inr rfl⟩, ⟨rfl, .inr (by first | rfl | simp)⟩, ⟨rfl, .inl rfl⟩, trivial⟩⟩))
  rintro ⟨L6, v7⟩ τ4 Γ4 y4_ ⟨u4, u5, hw4, hd4⟩ h4_ ho4 hr4
  refine RunC.wl (τ' := [(0, ptr (mXc a0 a1 a2)), (1, ptr (mXc a3 a4 a5)), (4, optr 0 1 0), (5, optr 2 1 0), (6, i64 v7)]) (Γ' := [⟨1, some zMx⟩, ⟨u4, some (L6.map f32)⟩, ⟨1, some (oXc r1 r2 1 u4 L6.length)⟩, ⟨u5, none⟩]) hw4 hd4 ?_
  replace h4_ : s_l02Mul_b3 a0 a1 a2 a3 a4 a5 L6 v7 = some y4_ := h4_
  unfold s_l02Mul_b3 at h4_
  iterate 2 (refine RunC.seq ?_)
  obtain ⟨x8, hx2, h4_⟩ := olet_some h4_
  rcases bsel_some h4_ with ⟨hc3, h4_⟩ | ⟨hc3, h4_⟩
  ·refine RunC.region_draw (Γ' := [⟨1, some zMx⟩, ⟨u4, some (L6.map f32)⟩, ⟨1, some (oXc r1 r2 1 u4 L6.length)⟩, ⟨u5, none⟩]) 11 mixed 
    (TR.l (r := i64 v7) rfl rfl (LOp.move rfl rfl) <|
    (TR.l (r := ptr (mXc a0 a1 a2)) rfl rfl (LOp.move rfl rfl) <|
    (TR.l (r := ptr (mXc a0 a1 a2)) rfl rfl (LOp.nilCheck_ptr rfl rfl) <|
    (TR.l (r := ptr (mXc a0 a1 a2)) rfl rfl (LOp.fap und33 rfl siz2 rfl rfl rfl) <|
    (TR.l (r := i64 a0) rfl rfl (LOp.load1 agg2 rfl rfl) <|
    (TR.l (r := ptr (mXc a3 a4 a5)) rfl rfl (LOp.move rfl rfl) <|
    (TR.l (r := ptr (mXc a3 a4 a5)) rfl rfl (LOp.nilCheck_ptr rfl rfl) <|
    (TR.l (r := ptr [i64 a4, (sFc a5)]) rfl rfl (LOp.fap und33 rfl siz2 rfl rfl rfl) <|
    (TR.l (r := i64 a4) rfl rfl (LOp.load1 agg2 rfl rfl) <|
    (TR.l (r := i64 x8) rfl rfl (LOp.eqr (LOp.mul rfl rfl rfl) (congrArg (ik .i64) hx2)) <|
    (TR.l (r := b true) rfl rfl (LOp.eqb (LOp.lss rfl rfl rfl) hc3) <|
    TR.nil))))))))))) rfl (by kernel_rfl) rfl fills_nil rfl ?_
   iterate 11 refine ROps.dropS ?_
   refine ROps.drop0 ?_
   refine zN ?_
   refine RunC.cond_true rfl rfl ?_
   refine RunC.skip ?_
   refine RunC.seq ?_
   refine RunC.block ?_
   refine zQ ?_
   refine zl (r := f32 (some 0)) (LOp.le (LOp.assign rfl rfl) (ALe.fl (by kernel_rfl) (by kernel_rfl))) ?_
   refine zN ?_
   refine RunC.seq ?_
   refine zQ ?_
   refine za (r := i64 0) ?_
   refine zN ?_
   obtain ⟨z5, hz_5, h4_⟩ := obind_some h4_
   refine RunC.cutN (fun τ Γ => ∃ (y18 : F), WeakLe τ [(0, ptr (mXc a0 a1 a2)), (1, ptr (mXc a3 a4 a5)), (4, optr 0 1 0), (5, optr 2 1 0), (6, i64 v7), (7, f32 y18)] ∧ DeadLe Γ [⟨1, some zMx⟩, ⟨u4, some (L6.map f32)⟩, ⟨1, some (oXc r1 r2 1 u4 L6.length)⟩, ⟨u5, none⟩] ∧ z5 = .inl y18) ?_ ?_
   ·refine RunC.block (RunC.loop (RunL.loopM (x := z5) (s_l02Mul_s2 a0 a1 a2 a3 a4 a5 v7) (fun (s : F × Int) τ Γ => WeakLe τ [(0, ptr (mXc a0 a1 a2)), (1, ptr (mXc a3 a4 a5)), (4, optr 0 1 0), (5, optr 2 1 0), (6, i64 v7), (7, f32 s.1), (8, i64 s.2)] ∧ DeadLe Γ [⟨1, some zMx⟩, ⟨u4, some (L6.map f32)⟩, ⟨1, some (oXc r1 r2 1 u4 L6.length)⟩, ⟨u5, none⟩]) ?_ _ _ _ hz_5 ⟨⟨aR, aR, aR, aR, aR, aR, aR, trivial⟩, ⟨⟨rfl, .inr rfl⟩, ⟨rfl, .inr rfl⟩, ⟨rfl, .inr rfl⟩, ⟨rfl, .inl rfl⟩, trivial⟩⟩))
    rintro ⟨y9, v10⟩ τ5 Γ5 y5_ ⟨hw5, hd5⟩ h5_ ho5 hr5
    refine RunC.wl (τ' := [(0, ptr (mXc a0 a1 a2)), (1, ptr (mXc a3 a4 a5)), (4, optr 0 1 0), (5, optr 2 1 0), (6, i64 v7), (7, f32 y9), (8, i64 v10)]) (Γ' := [⟨1, some zMx⟩, ⟨u4, some (L6.map f32)⟩, ⟨1, some (oXc r1 r2 1 u4 L6.length)⟩, ⟨u5, none⟩]) hw5 hd5 ?_
    replace h5_ : s_l02Mul_b2 a0 a1 a2 a3 a4 a5 v7 y9 v10 = some y5_ := h5_
    unfold s_l02Mul_b2 at h5_
    iterate 2 (refine RunC.seq ?_)
    rcases bsel_some h5_ with ⟨hc4, h5_⟩ | ⟨hc4, h5_⟩
    ·refine RunC.regionW ?_
     refine zm (r := i64 v10) ?_
     refine zm (r := ptr (mXc a0 a1 a2)) ?_
     refine zl (r := ptr (mXc a0 a1 a2)) (LOp.nilCheck_ptr rfl rfl) ?_
     refine zl (r := ptr [i64 a1, (sFc a2)]) (LOp.fap und33 rfl siz2 rfl rfl rfl) ?_
     refine zl (r := i64 a1) (LOp.load1 agg2 rfl rfl) ?_
     refine zl (r := b true) (LOp.eqb (LOp.lss rfl rfl rfl) hc4) ?_
     refine zN ?_
     refine RunC.cond_true rfl rfl ?_
     refine RunC.skip ?_
     refine RunC.seq ?_
     refine RunC.block ?_
     obtain ⟨hz5, h5_⟩ := need_some h5_
     obtain ⟨x11, hx6, h5_⟩ := olet_some h5_
     obtain ⟨r12, hf7, h5_⟩ := obind_some h5_
     obtain ⟨hz8, h5_⟩ := need_some h5_
     obtain ⟨x13, hx9, h5_⟩ := olet_some h5_
     obtain ⟨r14, hf10, h5_⟩ := obind_some h5_
     obtain ⟨x15, hx11, h5_⟩ := olet_some h5_
     obtain ⟨x16, hx12, h5_⟩ := olet_some h5_
     refine RunC.region_draw (Γ' := [⟨1, some zMx⟩, ⟨u4, some (L6.map f32)⟩, ⟨1, some (oXc r1 r2 1 u4 L6.length)⟩, ⟨u5, none⟩]) 22 mixed 
      (TR.l (r := f32 y9) rfl rfl (LOp.move rfl rfl) <|
      (TR.l (r := ptr (mXc a0 a1 a2)) rfl rfl (LOp.move rfl rfl) <|
      (TR.l (r := i64 v7) rfl rfl (LOp.move rfl rfl) <|
      (TR.l (r := ptr (mXc a3 a4 a5)) rfl rfl (LOp.move rfl rfl) <|
      (TR.l (r := ptr (mXc a3 a4 a5)) rfl rfl (LOp.nilCheck_ptr rfl rfl) <|
      (TR.l (r := ptr [i64 a4, (sFc a5)]) rfl rfl (LOp.fap und33 rfl siz2 rfl rfl rfl) <|
      (TR.l (r := i64 a4) rfl rfl (LOp.load1 agg2 rfl rfl) <|
      (TR.l (r := i64 x11) rfl rfl (LOp.eqr (LOp.quo rfl rfl rfl (nz hz5)) (congrArg (ik .i64) hx6)) <|
      (TR.l (r := i64 v10) rfl rfl (LOp.move rfl rfl) <|
      (TR.d (r := f32 r12) (fs := []) rfl rfl (TOp.callB (CallAs.func ent163 rfl rfl) (Bors.cons (Bor.ptr (Bors.cons (Bor.pure rfl) (Bors.cons (Bor.pure rfl) (Bors.cons (Bor.sl (fun _ => rfl)) Bors.nil)))) (Bors.cons (Bor.pure rfl) (Bors.cons (Bor.pure rfl) Bors.nil))) rfl rfl (s_l02At_ok a0 a1 a2 x11 v10 r12 hf7)) <|
      (TR.l (r := ptr (mXc a3 a4 a5)) rfl rfl (LOp.move rfl rfl) <|
      (TR.l (r := i64 v10) rfl rfl (LOp.move rfl rfl) <|
      (TR.l (r := i64 v7) rfl rfl (LOp.move rfl rfl) <|
      (TR.l (r := ptr (mXc a3 a4 a5)) rfl rfl (LOp.move rfl rfl) <|
      (TR.l (r := ptr (mXc a3 a4 a5)) rfl rfl (LOp.nilCheck_ptr rfl rfl) <|
      (TR.l (r := ptr [i64 a4, (sFc a5)]) rfl rfl (LOp.fap und33 rfl siz2 rfl rfl rfl) <|
      (TR.l (r := i64 a4) rfl rfl (LOp.load1 agg2 rfl rfl) <|
      (TR.l (r := i64 x13) rfl rfl (LOp.eqr (LOp.rem rfl rfl rfl (nz hz8)) (congrArg (ik .i64) hx9)) <|
      (TR.d (r := f32 r14) (fs := []) rfl rfl (TOp.callB (CallAs.func ent163 rfl rfl) (Bors.cons (Bor.ptr (Bors.cons (Bor.pure rfl) (Bors.cons (Bor.pure rfl) (Bors.cons (Bor.sl (fun _ => rfl)) Bors.nil)))) (Bors.cons (Bor.pure rfl) (Bors.cons (Bor.pure rfl) Bors.nil))) rfl rfl (s_l02At_ok a3 a4 a5 v10 x13 r14 hf10)) <|
      (TR.d (r := f32 x15) (fs := []) rfl rfl (TOp.eqr (TOp.fop (.inr (.inr (.inl rfl))) rfl (OpF.tmp rfl) (OpF.tmp rfl)) (congrArg (f .f32) hx11)) <|
      (TR.d (r := f32 x16) (fs := []) rfl rfl (TOp.eqr (TOp.fop (.inl rfl) rfl (OpF.tmp rfl) (OpF.tmp rfl)) (congrArg (f .f32) hx12)) <|
      (TR.l (r := f32 x16) rfl rfl (LOp.assign rfl rfl) <|
      TR.nil)))))))))))))))))))))) rfl (by kernel_rfl) rfl fills_nil rfl ?_
     iterate 22 refine ROps.dropS ?_
     refine ROps.drop0 ?_
     refine zN ?_
     refine RunC.wl (τ' := [(0, ptr (mXc a0 a1 a2)), (1, ptr (mXc a3 a4 a5)), (4, optr 0 1 0), (5, optr 2 1 0), (6, i64 v7), (7, f32 x16), (8, i64 v10)]) (Γ' := [⟨1, some zMx⟩, ⟨u4, some (L6.map f32)⟩, ⟨1, some (oXc r1 r2 1 u4 L6.length)⟩, ⟨u5, none⟩]) ⟨aR, aR, aR, aR, aR, aR, aR, trivial⟩ ⟨⟨rfl, .inr rfl⟩, ⟨rfl, .inr rfl⟩, ⟨rfl, .inr rfl⟩, ⟨rfl, .inl rfl⟩, trivial⟩ ?_
     obtain ⟨x17, hx13, h5_⟩ := olet_some h5_
     refine RunC.regionW ?_
     refine zm (r := i64 v10) ?_
     refine zl (r := i64 x17) (LOp.eqr (LOp.add rfl rfl rfl) (congrArg (ik .i64) hx13)) ?_
     refine za (r := i64 x17) ?_
     refine zN ?_
     cases Option.some.inj h5_
     exact ⟨_, rfl, ⟨aR, aR, aR, aR, aR, aR, aR, trivial⟩, ⟨⟨rfl, .inr rfl⟩, ⟨rfl, .inr rfl⟩, ⟨rfl, .inr rfl⟩, ⟨rfl, .inl rfl⟩, trivial⟩⟩
    ·refine RunC.regionW ?_
     refine zm (r := i64 v10) ?_
     refine zm (r := ptr (mXc a0 a1 a2)) ?_
     refine zl (r := ptr (mXc a0 a1 a2)) (LOp.nilCheck_ptr rfl rfl) ?_
     refine zl (r := ptr [i64 a1, (sFc a2)]) (LOp.fap und33 rfl siz2 rfl rfl rfl) ?_
     refine zl (r := i64 a1) (LOp.load1 agg2 rfl rfl) ?_
     refine zl (r := b false) (LOp.eqb (LOp.lss rfl rfl rfl) hc4) ?_
     refine zN ?_
     refine RunC.cond_false rfl rfl ?_
     refine RunC.exit ?_
     cases Option.some.inj h5_
     have hx := ho5 _ rfl
     exact ⟨y9, ⟨aR, aR, aR, aR, aR, aR, trivial⟩, ⟨⟨rfl, .inr rfl⟩, ⟨rfl, .inr rfl⟩, ⟨rfl, .inr rfl⟩, ⟨rfl, .inl rfl⟩, trivial⟩, hx⟩
   ·rintro τ6 Γ6 ⟨y18, hw6, hd6, rfl⟩
    refine RunC.wl hw6 hd6 ?_
    replace h4_ : s_l02Mul_k2 L6 v7 y18 = some y4_ := h4_
    unfold s_l02Mul_k2 at h4_
    obtain ⟨hm14, h4_⟩ := need_some h4_
    refine RunC.regionW ?_
    refine zl (r := optr 2 1 2) (LOp.fao und33 rfl siz26 rfl rfl rfl) ?_
    refine ROps.d (r := oref 1 u4 0 L6.length) (fs := []) (Γ' := [⟨1, some zMx⟩, ⟨u4, some (L6.map f32)⟩, ⟨1, some (oXc r1 r2 1 u4 L6.length)⟩, ⟨u5, none⟩]) rfl rfl rfl (TOp.load1_o rfl rfl agg26 rfl rfl) rfl ?_
    refine zm (r := f32 y18) ?_
    refine ROps.d (r := oref 3 (u5 + 1) 0 1) (fs := [(3, (([y18] : List F).map f32))]) (Γ' := [⟨1, some zMx⟩, ⟨u4, some (L6.map f32)⟩, ⟨1, some (oXc r1 r2 1 u4 L6.length)⟩, ⟨(u5 + 1), some (([y18] : List F).map f32)⟩]) rfl rfl rfl (TOp.buildSlice_o (g := ⟨u5, none⟩) (za := f32 (some 0)) (qs := [(0, [f32 y18])]) 3 rfl und26 siz28 zer28 rfl zel28 rfl rfl ⟨rfl, ⟨_, ALe.refl _, rfl⟩, trivial⟩ rfl) rfl ?_
    refine ROps.app (f := f32) (xs := L6) (ys := ([y18] : List F)) (Γ' := [⟨1, some zMx⟩, ⟨(u4 + 1), some ((L6 ++ ([y18] : List F)).map f32)⟩, ⟨1, some (oXc r1 r2 1 u4 L6.length)⟩, ⟨(u5 + 1), some (([y18] : List F).map f32)⟩]) rfl pun26 inf28 rfl rfl rfl rfl rfl rfl rfl rfl rfl (by simp) (ReadAs.own rfl (by simp)) (ones_map (fun _ => rfl)) (ap_by hm14) (ap_mx hm14) rfl ?_
    refine zl (r := optr 2 1 2) (LOp.fao und33 rfl siz26 rfl rfl rfl) ?_
    refine ROps.store_le (r := oref 1 (u4 + 1) 0 (L6.length + 1)) (l' := [i64 r1, i64 r2, oref 1 (u4 + 1) 0 (L6.length + 1)]) (Γ' := [⟨1, some zMx⟩, ⟨(u4 + 1), some ((L6 ++ ([y18] : List F)).map f32)⟩, ⟨1, some [i64 r1, i64 r2, oref 1 (u4 + 1) 0 (L6.length + 1)]⟩, ⟨(u5 + 1), some (([y18] : List F).map f32)⟩]) rfl siz26 rfl rfl rfl aR rfl rfl rfl rfl (Nat.le_of_ble_eq_true rfl) rfl rfl ?_
    refine zN ?_
    refine RunC.wl (τ' := [(0, ptr (mXc a0 a1 a2)), (1, ptr (mXc a3 a4 a5)), (4, optr 0 1 0), (5, optr 2 1 0), (6, i64 v7)]) (Γ' := [⟨1, some zMx⟩, ⟨(u4 + 1), some ((L6 ++ ([y18] : List F)).map f32)⟩, ⟨1, some [i64 r1, i64 r2, oref 1 (u4 + 1) 0 (L6.length + 1)]⟩, ⟨(u5 + 1), none⟩]) ⟨aR, aR, aR, aR, aR, trivial⟩ ⟨⟨rfl, .inr rfl⟩, ⟨rfl, .inr rfl⟩, ⟨rfl, .inr rfl⟩, ⟨rfl, .inl rfl⟩, trivial⟩ ?_
    obtain ⟨x19, hx15, h4_⟩ := olet_some h4_
    refine RunC.regionW ?_
    refine zm (r := i64 v7) ?_
    refine zl (r := i64 x19) (LOp.eqr (LOp.add rfl rfl rfl) (congrArg (ik .i64) hx15)) ?_
    refine za (r := i64 x19) ?_
    refine zN ?_
    cases Option.some.inj h4_
    exact ⟨_, rfl, (u4 + 1), (u5 + 1), ⟨aR, aR, aR, aR, aR, trivial⟩, ⟨⟨rfl, .inr rfl⟩, ⟨rfl, .inr rfl⟩, ⟨rfl, .inr (by first | rfl | simp)⟩, ⟨rfl, .inl rfl⟩, trivial⟩⟩
  ·refine RunC.region_draw (Γ' := [⟨1, some zMx⟩, ⟨u4, some (L6.map f32)⟩, ⟨1, some (oXc r1 r2 1 u4 L6.length)⟩, ⟨u5, none⟩]) 11 mixed 
    (TR.l (r := i64 v7) rfl rfl (LOp.move rfl rfl) <|
    (TR.l (r := ptr (mXc a0 a1 a2)) rfl rfl (LOp.move rfl rfl) <|
    (TR.l (r := ptr (mXc a0 a1 a2)) rfl rfl (LOp.nilCheck_ptr rfl rfl) <|
    (TR.l (r := ptr (mXc a0 a1 a2)) rfl rfl (LOp.fap und33 rfl siz2 rfl rfl rfl) <|
    (TR.l (r := i64 a0) rfl rfl (LOp.load1 agg2 rfl rfl) <|
    (TR.l (r := ptr (mXc a3 a4 a5)) rfl rfl (LOp.move rfl rfl) <|
    (TR.l (r := ptr (mXc a3 a4 a5)) rfl rfl (LOp.nilCheck_ptr rfl rfl) <|
    (TR.l (r := ptr [i64 a4, (sFc a5)]) rfl rfl (LOp.fap und33 rfl siz2 rfl rfl rfl) <|
    (TR.l (r := i64 a4) rfl rfl (LOp.load1 agg2 rfl rfl) <|
    (TR.l (r := i64 x8) rfl rfl (LOp.eqr (LOp.mul rfl rfl rfl) (congrArg (ik .i64) hx2)) <|
    (TR.l (r := b false) rfl rfl (LOp.eqb (LOp.lss rfl rfl rfl) hc3) <|
    TR.nil))))))))))) rfl (by kernel_rfl) rfl fills_nil rfl ?_
   iterate 11 refine ROps.dropS ?_
   refine ROps.drop0 ?_
   refine zN ?_
   refine RunC.cond_false rfl rfl ?_
   refine RunC.exit ?_
   cases Option.some.inj h4_
   have hx := ho4 _ rfl
   exact ⟨L6, u4, u5, ⟨aR, aR, trivial⟩, ⟨⟨rfl, .inr rfl⟩, ⟨rfl, .inr rfl⟩, ⟨rfl, .inr (by first | rfl | simp)⟩, ⟨rfl, .inl rfl⟩, trivial⟩, hx⟩
 ·rintro τ7 Γ7 ⟨L22, u20, u21, hw7, hd7, rfl⟩
  refine RunC.wl hw7 hd7 ?_
  replace h : s_l02Mul_k3 r1 r2 L22 = some (q0, q1, q2) := h
  unfold s_l02Mul_k3 at h
  refine zQ ?_
  refine ROps.d (r := agg (oXc r1 r2 1 u20 L22.length)) (fs := []) (Γ' := [⟨1, some zMx⟩, ⟨u20, some (L22.map f32)⟩, ⟨1, some (oXc r1 r2 1 u20 L22.length)⟩, ⟨u21, none⟩]) rfl rfl rfl (TOp.loadAgg_o rfl agg33 siz33 rfl rfl rfl rfl) rfl ?_
  refine ROps.store_le (r := agg (oXc r1 r2 1 u20 L22.length)) (l' := (oXc r1 r2 1 u20 L22.length)) (Γ' := [⟨1, some (oXc r1 r2 1 u20 L22.length)⟩, ⟨u20, some (L22.map f32)⟩, ⟨1, some (oXc r1 r2 1 u20 L22.length)⟩, ⟨u21, none⟩]) rfl siz33 rfl rfl rfl aR rfl rfl rfl rfl (Nat.le_of_ble_eq_true rfl) rfl rfl ?_
  refine zN ?_
  refine RunC.ret ?_
  have hq := Option.some.inj h
  obtain ⟨hq0, hq⟩ := Prod.mk.inj hq
  obtain ⟨hq1, hq⟩ := Prod.mk.inj hq
  subst q0
  subst q1
  subst q2
  exact bodyQ.mk (r' := agg (oXc r1 r2 1 u20 L22.length)) [(1, u20)] (.inr rfl) rfl (show List.Nodup [1] from by decide) (by simp [ren, rens, sigma]) rfl (Res.one rfl (RV.cell agg33 siz33 rfl rfl rfl rfl)) (SelL.arr0 (f := f32) (fun _ => rfl) rfl trivial)
noncomputable def s_l02Give_02o (a0 : Int) (a1 : Int) (a2 : List F) : Option ((Int × Int × Bool × (List F)) ⊕ (Int × Int × Bool × (List F) × (List F))) :=
 obind (s_l02Is a0 a1 a2) fun (r1 : Bool) =>
 bsel r1 (
  some (Sum.inl (a0, a1, true, a2))) (
  some (Sum.inr (0, 0, false, a2, ([] : List F))))
theorem s_l02Give_02o_ok0 (a0 : Int) (a1 : Int) (a2 : List F) (q0 : Int) (q1 : Int) (q2 : Bool) (q3 : List F) (h : s_l02Give_02o a0 a1 a2 = some (Sum.inl (q0, q1, q2, q3))) : Ev Try.prog 118 [agg (oXc a0 a1 0 0 a2.length)] [⟨0, some (a2.map f32)⟩] (tup [agg (oXc q0 q1 0 0 q3.length), b q2]) [⟨0, some (q3.map f32)⟩] := by
 refine Ev.start Try.func118 rfl rfl 2 (τ := [(0, agg (oXc a0 a1 0 0 a2.length))]) rfl (Γ' := [⟨0, some (a2.map f32)⟩, ⟨0, none⟩, ⟨0, none⟩]) rfl (n := 16) rfl (g := 1) rfl (by decide) ?_
 unfold s_l02Give_02o at h
 refine zQ ?_
 refine ROps.d (r := ptr (oXc a0 a1 0 0 a2.length)) (fs := []) (Γ' := [⟨0, some (a2.map f32)⟩, ⟨0, none⟩, ⟨0, none⟩]) rfl rfl rfl (TOp.box_s rfl rfl rfl) rfl ?_
 refine ROps.d (r := optr 1 1 0) (fs := [(1, zMx)]) (Γ' := [⟨0, some (a2.map f32)⟩, ⟨1, some zMx⟩, ⟨0, none⟩]) rfl rfl rfl (TOp.alloc_o (g := ⟨0, none⟩) 1 rfl zer33 zok33 rfl) rfl ?_
 refine za (r := b false) ?_
 refine zN ?_
 iterate 2 (refine RunC.seq ?_)
 obtain ⟨r1, hf1, h⟩ := obind_some h
 rcases bsel_some h with ⟨hc2, h⟩ | ⟨hc2, h⟩
 ·refine RunC.regionW ?_
  refine ROps.d (r := b true) (fs := []) (Γ' := [⟨0, some (a2.map f32)⟩, ⟨1, some zMx⟩, ⟨0, none⟩]) rfl rfl rfl (TOp.eqb (TOp.callB (CallAs.func ent66 rfl rfl) (Bors.cons (Bor.ptr (Bors.cons (Bor.pure rfl) (Bors.cons (Bor.pure rfl) (Bors.cons (Bor.own (f := f32) (fun _ => rfl) rfl rfl) Bors.nil)))) Bors.nil) rfl rfl (s_l02Is_ok a0 a1 a2 r1 hf1)) hc2) rfl ?_
  refine zl (r := b false) (LOp.eqb (LOp.not rfl rfl) rfl) ?_
  refine zN ?_
  refine RunC.cond_false rfl rfl ?_
  refine RunC.skip ?_
  refine zQ ?_
  refine zl (r := agg (oXc a0 a1 0 0 a2.length)) (LOp.loadAgg agg33 siz33 rfl rfl rfl rfl) ?_
  refine ROps.store_le (r := agg (oXc a0 a1 0 0 a2.length)) (l' := (oXc a0 a1 0 0 a2.length)) (Γ' := [⟨0, some (a2.map f32)⟩, ⟨1, some (oXc a0 a1 0 0 a2.length)⟩, ⟨0, none⟩]) rfl siz33 rfl rfl rfl aR rfl rfl rfl rfl (Nat.le_of_ble_eq_true rfl) rfl rfl ?_
  refine za (r := b true) ?_
  refine zN ?_
  refine RunC.ret ?_
  have hq := Option.some.inj h
  have hq := Sum.inl.inj hq
  obtain ⟨hq0, hq⟩ := Prod.mk.inj hq
  obtain ⟨hq1, hq⟩ := Prod.mk.inj hq
  obtain ⟨hq2, hq⟩ := Prod.mk.inj hq
  subst q0
  subst q1
  subst q2
  subst q3
  exact bodyQ.mk (r' := tup [agg (oXc a0 a1 0 0 a2.length), b true]) [(0, 0)] (.inr rfl) rfl (show List.Nodup [0] from by decide) rfl rfl (Res.two rfl (RV.cell agg33 siz33 rfl rfl rfl rfl) (RV.tmp rfl)) (SelL.arr (f := f32) (fun _ => rfl) rfl trivial)
 ·refine RunC.regionW ?_
  refine ROps.d (r := b false) (fs := []) (Γ' := [⟨0, some (a2.map f32)⟩, ⟨1, some zMx⟩, ⟨0, none⟩]) rfl rfl rfl (TOp.eqb (TOp.callB (CallAs.func ent66 rfl rfl) (Bors.cons (Bor.ptr (Bors.cons (Bor.pure rfl) (Bors.cons (Bor.pure rfl) (Bors.cons (Bor.own (f := f32) (fun _ => rfl) rfl rfl) Bors.nil)))) Bors.nil) rfl rfl (s_l02Is_ok a0 a1 a2 r1 hf1)) hc2) rfl ?_
  refine zl (r := b true) (LOp.eqb (LOp.not rfl rfl) rfl) ?_
  refine zN ?_
  refine RunC.cond_true rfl rfl ?_
  refine zQ ?_
  refine zl (r := agg zMx) (LOp.build (qs := []) zer33 zok33 und33 plc33 rfl trivial rfl) ?_
  refine ROps.store_le (r := agg zMx) (l' := zMx) (Γ' := [⟨0, some (a2.map f32)⟩, ⟨1, some zMx⟩, ⟨0, none⟩]) rfl siz33 rfl rfl rfl aR rfl rfl rfl rfl (Nat.le_of_ble_eq_true rfl) rfl rfl ?_
  refine za (r := b false) ?_
  refine zN ?_
  cases Option.some.inj h
theorem s_l02Give_02o_ok1 (a0 : Int) (a1 : Int) (a2 : List F) (q0 : Int) (q1 : Int) (q2 : Bool) (q3 : List F) (q4 : List F) (h : s_l02Give_02o a0 a1 a2 = some (Sum.inr (q0, q1, q2, q3, q4))) : Ev Try.prog 118 [agg (oXc a0 a1 0 0 a2.length)] [⟨0, some (a2.map f32)⟩] (tup [agg (oXc q0 q1 1 0 q4.length), b q2]) [⟨0, some (q3.map f32)⟩, ⟨0, some (q4.map f32)⟩] := by
 refine Ev.start Try.func118 rfl rfl 2 (τ := [(0, agg (oXc a0 a1 0 0 a2.length))]) rfl (Γ' := [⟨0, some (a2.map f32)⟩, ⟨0, none⟩, ⟨0, none⟩]) rfl (n := 16) rfl (g := 1) rfl (by decide) ?_
 unfold s_l02Give_02o at h
 refine zQ ?_
 refine ROps.d (r := ptr (oXc a0 a1 0 0 a2.length)) (fs := []) (Γ' := [⟨0, some (a2.map f32)⟩, ⟨0, none⟩, ⟨0, none⟩]) rfl rfl rfl (TOp.box_s rfl rfl rfl) rfl ?_
 refine ROps.d (r := optr 1 1 0) (fs := [(1, zMx)]) (Γ' := [⟨0, some (a2.map f32)⟩, ⟨1, some zMx⟩, ⟨0, none⟩]) rfl rfl rfl (TOp.alloc_o (g := ⟨0, none⟩) 1 rfl zer33 zok33 rfl) rfl ?_
 refine za (r := b false) ?_
 refine zN ?_
 iterate 2 (refine RunC.seq ?_)
 obtain ⟨r1, hf1, h⟩ := obind_some h
 rcases bsel_some h with ⟨hc2, h⟩ | ⟨hc2, h⟩
 ·refine RunC.regionW ?_
  refine ROps.d (r := b true) (fs := []) (Γ' := [⟨0, some (a2.map f32)⟩, ⟨1, some zMx⟩, ⟨0, none⟩]) rfl rfl rfl (TOp.eqb (TOp.callB (CallAs.func ent66 rfl rfl) (Bors.cons (Bor.ptr (Bors.cons (Bor.pure rfl) (Bors.cons (Bor.pure rfl) (Bors.cons (Bor.own (f := f32) (fun _ => rfl) rfl rfl) Bors.nil)))) Bors.nil) rfl rfl (s_l02Is_ok a0 a1 a2 r1 hf1)) hc2) rfl ?_
  refine zl (r := b false) (LOp.eqb (LOp.not rfl rfl) rfl) ?_
  refine zN ?_
  refine RunC.cond_false rfl rfl ?_
  refine RunC.skip ?_
  refine zQ ?_
  refine zl (r := agg (oXc a0 a1 0 0 a2.length)) (LOp.loadAgg agg33 siz33 rfl rfl rfl rfl) ?_
  refine ROps.store_le (r := agg (oXc a0 a1 0 0 a2.length)) (l' := (oXc a0 a1 0 0 a2.length)) (Γ' := [⟨0, some (a2.map f32)⟩, ⟨1, some (oXc a0 a1 0 0 a2.length)⟩, ⟨0, none⟩]) rfl siz33 rfl rfl rfl aR rfl rfl rfl rfl (Nat.le_of_ble_eq_true rfl) rfl rfl ?_
  refine za (r := b true) ?_
  refine zN ?_
  cases Option.some.inj h
 ·refine RunC.regionW ?_
  refine ROps.d (r := b false) (fs := []) (Γ' := [⟨0, some (a2.map f32)⟩, ⟨1, some zMx⟩, ⟨0, none⟩]) rfl rfl rfl (TOp.eqb (TOp.callB (CallAs.func ent66 rfl rfl) (Bors.cons (Bor.ptr (Bors.cons (Bor.pure rfl) (Bors.cons (Bor.pure rfl) (Bors.cons (Bor.own (f := f32) (fun _ => rfl) rfl rfl) Bors.nil)))) Bors.nil) rfl rfl (s_l02Is_ok a0 a1 a2 r1 hf1)) hc2) rfl ?_
  refine zl (r := b true) (LOp.eqb (LOp.not rfl rfl) rfl) ?_
  refine zN ?_
  refine RunC.cond_true rfl rfl ?_
  refine zQ ?_
  refine zl (r := agg zMx) (LOp.build (qs := []) zer33 zok33 und33 plc33 rfl trivial rfl) ?_
  refine ROps.store_le (r := agg zMx) (l' := zMx) (Γ' := [⟨0, some (a2.map f32)⟩, ⟨1, some zMx⟩, ⟨0, none⟩]) rfl siz33 rfl rfl rfl aR rfl rfl rfl rfl (Nat.le_of_ble_eq_true rfl) rfl rfl ?_
  refine za (r := b false) ?_
  refine zN ?_
  refine RunC.nil_cell (l' := [i64 0, i64 0, oref 2 1 0 0]) (Γ' := [⟨0, some (a2.map f32)⟩, ⟨1, some [i64 0, i64 0, oref 2 1 0 0]⟩, ⟨1, some (([] : List F).map f32)⟩]) 1 2 2 rfl rfl rfl rfl rfl ?_
  refine RunC.ret ?_
  have hq := Option.some.inj h
  have hq := Sum.inr.inj hq
  obtain ⟨hq0, hq⟩ := Prod.mk.inj hq
  obtain ⟨hq1, hq⟩ := Prod.mk.inj hq
  obtain ⟨hq2, hq⟩ := Prod.mk.inj hq
  obtain ⟨hq3, hq⟩ := Prod.mk.inj hq
  subst q0
  subst q1
  subst q2
  subst q3
  subst q4
  exact bodyQ.mk (r' := tup [agg [i64 0, i64 0, oref 2 1 0 (([] : List F).length)], b false]) [(0, 0), (2, 1)] (.inr rfl) rfl (show List.Nodup [0, 2] from by decide) rfl rfl (Res.eq (Res.two rfl (RV.cell agg33 siz33 rfl rfl rfl rfl) (RV.tmp rfl)) (by rw [(show ([] : List F).length = 0 from rfl)] <;> rfl)) (SelL.arr (f := f32) (fun _ => rfl) rfl (SelL.arr0 (f := f32) (fun _ => rfl) rfl trivial))
noncomputable def s_MulMatrices (a0 : Int) (a1 : Int) (a2 : List F) (a3 : Int) (a4 : Int) (a5 : List F) : Option (Int × Int × Bool × (List F)) :=
 obind (s_l02Fit a0 a1 a2 a3 a4 a5) fun (r1 : Bool) =>
 bsel r1 (
  obind3 (s_l02Mul a0 a1 a2 a3 a4 a5) fun (r2 : Int) (r3 : Int) (r4 : List F) =>
  obind (s_l02Give_02o r2 r3 r4) (fun z => osum z (fun y => obind4 (some y) fun (r5 : Int) (r6 : Int) (r7 : Bool) (r8 : List F) =>
   need (decide (r8.length = r4.length)) <|
   some (r5, r6, r7, r8)) (fun y => obind5 (some y) fun (r9 : Int) (r10 : Int) (r11 : Bool) (r12 : List F) (r13 : List F) =>
   need (decide (r12.length = r4.length)) <|
   some (r9, r10, r11, r13)))) (
  some (0, 0, false, ([] : List F)))
theorem s_MulMatrices_ok (a0 : Int) (a1 : Int) (a2 : List F) (a3 : Int) (a4 : Int) (a5 : List F) (q0 : Int) (q1 : Int) (q2 : Bool) (q3 : List F) (h : s_MulMatrices a0 a1 a2 a3 a4 a5 = some (q0, q1, q2, q3)) : Ev Try.prog 49 [agg (mXc a0 a1 a2), agg (mXc a3 a4 a5)] [] (tup [agg (oXc q0 q1 0 0 q3.length), b q2]) [⟨0, some (q3.map f32)⟩] := by
 refine Ev.start Try.func49 rfl rfl 3 (τ := [(0, agg (mXc a0 a1 a2)), (1, agg (mXc a3 a4 a5))]) rfl (Γ' := [⟨0, none⟩, ⟨0, none⟩, ⟨0, none⟩]) rfl (n := 27) rfl (g := 0) rfl (fun _ => rfl) ?_
 unfold s_MulMatrices at h
 refine zQ ?_
 refine ROps.d (r := ptr (mXc a0 a1 a2)) (fs := []) (Γ' := [⟨0, none⟩, ⟨0, none⟩, ⟨0, none⟩]) rfl rfl rfl (TOp.box_s rfl rfl rfl) rfl ?_
 refine ROps.d (r := ptr (mXc a3 a4 a5)) (fs := []) (Γ' := [⟨0, none⟩, ⟨0, none⟩, ⟨0, none⟩]) rfl rfl rfl (TOp.box_s rfl rfl rfl) rfl ?_
 refine ROps.d (r := optr 0 1 0) (fs := [(0, zMx)]) (Γ' := [⟨1, some zMx⟩, ⟨0, none⟩, ⟨0, none⟩]) rfl rfl rfl (TOp.alloc_o (g := ⟨0, none⟩) 0 rfl zer33 zok33 rfl) rfl ?_
 refine za (r := b false) ?_
 refine zN ?_
 iterate 2 (refine RunC.seq ?_)
 obtain ⟨r1, hf1, h⟩ := obind_some h
 rcases bsel_some h with ⟨hc2, h⟩ | ⟨hc2, h⟩
 ·refine RunC.regionW ?_
  refine ROps.d (r := b true) (fs := []) (Γ' := [⟨1, some zMx⟩, ⟨0, none⟩, ⟨0, none⟩]) rfl rfl rfl (TOp.eqb (TOp.callB (CallAs.func ent117 rfl rfl) (Bors.cons (Bor.ptr (Bors.cons (Bor.pure rfl) (Bors.cons (Bor.pure rfl) (Bors.cons (Bor.sl (fun _ => rfl)) Bors.nil)))) (Bors.cons (Bor.ptr (Bors.cons (Bor.pure rfl) (Bors.cons (Bor.pure rfl) (Bors.cons (Bor.sl (fun _ => rfl)) Bors.nil)))) Bors.nil)) rfl rfl (s_l02Fit_ok a0 a1 a2 a3 a4 a5 r1 hf1)) hc2) rfl ?_
  refine zl (r := b false) (LOp.eqb (LOp.not rfl rfl) rfl) ?_
  refine zN ?_
  refine RunC.cond_false rfl rfl ?_
  refine RunC.skip ?_
  refine RunC.seq ?_
  obtain ⟨r2, r3, r4, hf3, h⟩ := obind3_some h
  obtain ⟨z1, hf4, h⟩ := obind_some h
  rcases z1 with z1 | z1
  ·replace h := (osum_inl _ _ _).symm.trans h
   obtain ⟨r5, r6, r7, r8, hz2, h⟩ := obind4_some h
   cases hz2
   obtain ⟨hn5, h⟩ := need_some h
   refine RunC.regionW ?_
   refine ROps.d (r := agg (oXc r2 r3 1 1 r4.length)) (fs := [(1, (r4.map f32))]) (Γ' := [⟨1, some zMx⟩, ⟨1, some (r4.map f32)⟩, ⟨0, none⟩]) rfl rfl rfl (TOp.callBN (ls := [(r4.map f32)]) [1] (CallAs.func ent119 rfl rfl) (Bors.cons (Bor.ptr (Bors.cons (Bor.pure rfl) (Bors.cons (Bor.pure rfl) (Bors.cons (Bor.sl (fun _ => rfl)) Bors.nil)))) (Bors.cons (Bor.ptr (Bors.cons (Bor.pure rfl) (Bors.cons (Bor.pure rfl) (Bors.cons (Bor.sl (fun _ => rfl)) Bors.nil)))) Bors.nil)) rfl (s_l02Mul_ok a0 a1 a2 a3 a4 a5 r2 r3 r4 hf3) (and_all (lts0_map (f := f32) (fun _ => rfl) _) rfl) (and_all (noss_map (f := f32) (fun _ => rfl) _) rfl) rfl (by decide) (ns_of ⟨⟨_, rfl⟩, trivial⟩)) rfl ?_
   refine ROps.callO (A := [agg (oXc r2 r3 1 1 r4.length)]) (args := [agg (oXc r2 r3 0 0 r4.length)]) (Γc := [⟨0, some (r4.map f32)⟩]) (Γc' := [⟨0, some (r8.map f32)⟩]) (r' := tup [agg (oXc r5 r6 1 1 r4.length), b r7]) (Γ' := [⟨1, some zMx⟩, ⟨1, some (r8.map f32)⟩, ⟨0, none⟩]) [(1, 1)] [] rfl (CallAs.func ent118 rfl rfl) rfl rfl (SelOk.of (show List.Nodup [1] from by decide) (SelL.arr0 (f := f32) (fun _ => rfl) rfl trivial)) (live_of ⟨⟨_, _, rfl⟩, trivial⟩) (by simp [ren, rens, sigma, rens_f32, rens_f64, rens_i64, rens_ik, rens_str, rens_cp]) rfl (s_l02Give_02o_ok0 r2 r3 r4 r5 r6 r7 r8 hf4) rfl (news_of trivial) (show List.Nodup [1] from by decide) (by simp [ren, rens, sigma, of_decide_eq_true hn5]) (by simp [backOb, sigma, ren, rens, rens_f32, rens_f64, rens_i64, rens_ik, rens_str, rens_cp]) ?_
   refine zl (r := agg (oXc r5 r6 1 1 r4.length)) (LOp.extract rfl rfl rfl) ?_
   refine zl (r := b r7) (LOp.extract rfl rfl rfl) ?_
   refine ROps.store_le (r := agg (oXc r5 r6 1 1 r4.length)) (l' := (oXc r5 r6 1 1 r4.length)) (Γ' := [⟨1, some (oXc r5 r6 1 1 r4.length)⟩, ⟨1, some (r8.map f32)⟩, ⟨0, none⟩]) rfl siz33 rfl rfl rfl aR rfl rfl rfl rfl (Nat.le_of_ble_eq_true rfl) rfl rfl ?_
   refine za (r := b r7) ?_
   refine zN ?_
   refine RunC.ret ?_
   have hq := Option.some.inj h
   obtain ⟨hq0, hq⟩ := Prod.mk.inj hq
   obtain ⟨hq1, hq⟩ := Prod.mk.inj hq
   obtain ⟨hq2, hq⟩ := Prod.mk.inj hq
   subst q0
   subst q1
   subst q2
   subst q3
   exact bodyQ.mk (r' := tup [agg (oXc r5 r6 1 1 r8.length), b r7]) [(1, 1)] (.inr rfl) rfl (show List.Nodup [1] from by decide) rfl rfl (Res.eq (Res.two rfl (RV.cell agg33 siz33 rfl rfl rfl rfl) (RV.tmp rfl)) (by rw [(show r8.length = r4.length from (of_decide_eq_true hn5))] <;> rfl)) (SelL.arr0 (f := f32) (fun _ => rfl) rfl trivial)
  ·replace h := (osum_inr _ _ _).symm.trans h
   obtain ⟨r9, r10, r11, r12, r13, hz3, h⟩ := obind5_some h
   cases hz3
   obtain ⟨hn6, h⟩ := need_some h
   refine RunC.regionW ?_
   refine ROps.d (r := agg (oXc r2 r3 1 1 r4.length)) (fs := [(1, (r4.map f32))]) (Γ' := [⟨1, some zMx⟩, ⟨1, some (r4.map f32)⟩, ⟨0, none⟩]) rfl rfl rfl (TOp.callBN (ls := [(r4.map f32)]) [1] (CallAs.func ent119 rfl rfl) (Bors.cons (Bor.ptr (Bors.cons (Bor.pure rfl) (Bors.cons (Bor.pure rfl) (Bors.cons (Bor.sl (fun _ => rfl)) Bors.nil)))) (Bors.cons (Bor.ptr (Bors.cons (Bor.pure rfl) (Bors.cons (Bor.pure rfl) (Bors.cons (Bor.sl (fun _ => rfl)) Bors.nil)))) Bors.nil)) rfl (s_l02Mul_ok a0 a1 a2 a3 a4 a5 r2 r3 r4 hf3) (and_all (lts0_map (f := f32) (fun _ => rfl) _) rfl) (and_all (noss_map (f := f32) (fun _ => rfl) _) rfl) rfl (by decide) (ns_of ⟨⟨_, rfl⟩, trivial⟩)) rfl ?_
   refine ROps.callO (A := [agg (oXc r2 r3 1 1 r4.length)]) (args := [agg (oXc r2 r3 0 0 r4.length)]) (Γc := [⟨0, some (r4.map f32)⟩]) (Γc' := [⟨0, some (r12.map f32)⟩, ⟨0, some (r13.map f32)⟩]) (r' := tup [agg (oXc r9 r10 2 1 r13.length), b r11]) (Γ' := [⟨1, some zMx⟩, ⟨1, some (r12.map f32)⟩, ⟨1, some (r13.map f32)⟩]) [(1, 1)] [(2, 1)] rfl (CallAs.func ent118 rfl rfl) rfl rfl (SelOk.of (show List.Nodup [1] from by decide) (SelL.arr0 (f := f32) (fun _ => rfl) rfl trivial)) (live_of ⟨⟨_, _, rfl⟩, trivial⟩) (by simp [ren, rens, sigma, rens_f32, rens_f64, rens_i64, rens_ik, rens_str, rens_cp]) rfl (s_l02Give_02o_ok1 r2 r3 r4 r9 r10 r11 r12 r13 hf4) rfl (news_of ⟨⟨_, rfl, rfl⟩, trivial⟩) (show List.Nodup [1, 2] from by decide) (by simp [ren, rens, sigma, of_decide_eq_true hn6]) (by simp [backOb, sigma, ren, rens, rens_f32, rens_f64, rens_i64, rens_ik, rens_str, rens_cp]) ?_
   refine zl (r := agg (oXc r9 r10 2 1 r13.length)) (LOp.extract rfl rfl rfl) ?_
   refine zl (r := b r11) (LOp.extract rfl rfl rfl) ?_
   refine ROps.store_le (r := agg (oXc r9 r10 2 1 r13.length)) (l' := (oXc r9 r10 2 1 r13.length)) (Γ' := [⟨1, some (oXc r9 r10 2 1 r13.length)⟩, ⟨1, some (r12.map f32)⟩, ⟨1, some (r13.map f32)⟩]) rfl siz33 rfl rfl rfl aR rfl rfl rfl rfl (Nat.le_of_ble_eq_true rfl) rfl rfl ?_
   refine za (r := b r11) ?_
   refine zN ?_
   refine RunC.ret ?_
   have hq := Option.some.inj h
   obtain ⟨hq0, hq⟩ := Prod.mk.inj hq
   obtain ⟨hq1, hq⟩ := Prod.mk.inj hq
   obtain ⟨hq2, hq⟩ := Prod.mk.inj hq
   subst q0
   subst q1
   subst q2
   subst q3
   exact bodyQ.mk (r' := tup [agg (oXc r9 r10 2 1 r13.length), b r11]) [(2, 1)] (.inr rfl) rfl (show List.Nodup [2] from by decide) rfl rfl (Res.two rfl (RV.cell agg33 siz33 rfl rfl rfl rfl) (RV.tmp rfl)) (SelL.arr0 (f := f32) (fun _ => rfl) rfl trivial)
 ·refine RunC.regionW ?_
  refine ROps.d (r := b false) (fs := []) (Γ' := [⟨1, some zMx⟩, ⟨0, none⟩, ⟨0, none⟩]) rfl rfl rfl (TOp.eqb (TOp.callB (CallAs.func ent117 rfl rfl) (Bors.cons (Bor.ptr (Bors.cons (Bor.pure rfl) (Bors.cons (Bor.pure rfl) (Bors.cons (Bor.sl (fun _ => rfl)) Bors.nil)))) (Bors.cons (Bor.ptr (Bors.cons (Bor.pure rfl) (Bors.cons (Bor.pure rfl) (Bors.cons (Bor.sl (fun _ => rfl)) Bors.nil)))) Bors.nil)) rfl rfl (s_l02Fit_ok a0 a1 a2 a3 a4 a5 r1 hf1)) hc2) rfl ?_
  refine zl (r := b true) (LOp.eqb (LOp.not rfl rfl) rfl) ?_
  refine zN ?_
  refine RunC.cond_true rfl rfl ?_
  refine zQ ?_
  refine zl (r := agg zMx) (LOp.build (qs := []) zer33 zok33 und33 plc33 rfl trivial rfl) ?_
  refine ROps.store_le (r := agg zMx) (l' := zMx) (Γ' := [⟨1, some zMx⟩, ⟨0, none⟩, ⟨0, none⟩]) rfl siz33 rfl rfl rfl aR rfl rfl rfl rfl (Nat.le_of_ble_eq_true rfl) rfl rfl ?_
  refine za (r := b false) ?_
  refine zN ?_
  refine RunC.nil_cell (l' := [i64 0, i64 0, oref 1 1 0 0]) (Γ' := [⟨1, some [i64 0, i64 0, oref 1 1 0 0]⟩, ⟨1, some (([] : List F).map f32)⟩, ⟨0, none⟩]) 0 2 1 rfl rfl rfl rfl rfl ?_
  refine RunC.ret ?_
  have hq := Option.some.inj h
  obtain ⟨hq0, hq⟩ := Prod.mk.inj hq
  obtain ⟨hq1, hq⟩ := Prod.mk.inj hq
  obtain ⟨hq2, hq⟩ := Prod.mk.inj hq
  subst q0
  subst q1
  subst q2
  subst q3
  exact bodyQ.mk (r' := tup [agg [i64 0, i64 0, oref 1 1 0 (([] : List F).length)], b false]) [(1, 1)] (.inr rfl) rfl (show List.Nodup [1] from by decide) rfl rfl (Res.eq (Res.two rfl (RV.cell agg33 siz33 rfl rfl rfl rfl) (RV.tmp rfl)) (by rw [(show ([] : List F).length = 0 from rfl)] <;> rfl)) (SelL.arr0 (f := f32) (fun _ => rfl) rfl trivial)
noncomputable def i_IsVector (a0 : List F) : Option (Bool) :=
 obind (i_length_float32 a0) fun (r1 : Int) =>
 obind (i_inRange r1 1 256) fun (r2 : Bool) =>
 bsel r2 (
  obind (i_areFinite a0) fun (r3 : Bool) =>
  some r3) (
  some false)
theorem i_IsVector_ok (a0 : List F) (q0 : Bool) (h : i_IsVector a0 = some q0) : Ev Try.prog 120 [(sFc a0)] [] (b q0) [] := by
 refine Ev.start Try.func120 rfl rfl 0 (τ := [(0, (sFc a0))]) rfl (Γ' := []) rfl (n := 21) rfl (g := 0) rfl (fun _ => rfl) ?_
 unfold i_IsVector at h
 refine zQ ?_
 refine za (r := b false) ?_
 refine zN ?_
 refine RunC.seq ?_
 obtain ⟨r1, hf1, h⟩ := obind_some h
 obtain ⟨r2, hf2, h⟩ := obind_some h
 rcases bsel_some h with ⟨hc3, h⟩ | ⟨hc3, h⟩
 ·obtain ⟨r3, hf4, h⟩ := obind_some h
  refine RunC.regionW ?_
  refine zm (r := (sFc a0)) ?_
  refine ROps.d (r := i64 r1) (fs := []) (Γ' := []) rfl rfl rfl (TOp.callB (CallAs.func ent62 rfl rfl) (Bors.cons (Bor.sl (fun _ => rfl)) Bors.nil) rfl rfl (i_length_float32_ok a0 r1 hf1)) rfl ?_
  refine ROps.d (r := b true) (fs := []) (Γ' := []) rfl rfl rfl (TOp.eqb (TOp.callB (CallAs.func ent85 rfl rfl) (Bors.cons (Bor.pure rfl) (Bors.cons (Bor.pure rfl) (Bors.cons (Bor.pure rfl) Bors.nil))) rfl rfl (i_inRange_ok r1 1 256 r2 hf2)) hc3) rfl ?_
  refine zm (r := b true) ?_
  refine zm (r := (sFc a0)) ?_
  refine ROps.d (r := b r3) (fs := []) (Γ' := []) rfl rfl rfl (TOp.callB (CallAs.func ent74 rfl rfl) (Bors.cons (Bor.sl (fun _ => rfl)) Bors.nil) rfl rfl (i_areFinite_ok a0 r3 hf4)) rfl ?_
  refine zl (r := b r3) (LOp.pick_true rfl rfl rfl) ?_
  refine za (r := b r3) ?_
  refine zN ?_
  refine RunC.ret ?_
  have hq := Option.some.inj h
  subst q0
  exact bodyQ.pure (.inr rfl) rfl (Res.one rfl (RV.tmp rfl))
 ·refine RunC.regionW ?_
  refine zm (r := (sFc a0)) ?_
  refine ROps.d (r := i64 r1) (fs := []) (Γ' := []) rfl rfl rfl (TOp.callB (CallAs.func ent62 rfl rfl) (Bors.cons (Bor.sl (fun _ => rfl)) Bors.nil) rfl rfl (i_length_float32_ok a0 r1 hf1)) rfl ?_
  refine ROps.d (r := b false) (fs := []) (Γ' := []) rfl rfl rfl (TOp.eqb (TOp.callB (CallAs.func ent85 rfl rfl) (Bors.cons (Bor.pure rfl) (Bors.cons (Bor.pure rfl) (Bors.cons (Bor.pure rfl) Bors.nil))) rfl rfl (i_inRange_ok r1 1 256 r2 hf2)) hc3) rfl ?_
  refine zm (r := b false) ?_
  iterate 2 (refine ROps.s rfl rfl rfl ?_)
  refine zl (r := b false) (LOp.pick_false rfl rfl rfl) ?_
  refine za (r := b false) ?_
  refine zN ?_
  refine RunC.ret ?_
  have hq := Option.some.inj h
  subst q0
  exact bodyQ.pure (.inr rfl) rfl (Res.one rfl (RV.tmp rfl))
noncomputable def i_Matrix_middle_b1 (a0 : Int) (a1 : Int) (a2 : List F) (L3 : List F) (v4 : Int) : Option (LR ((List F) × Int) ((List F)) ((List F))) :=
 bsel (decide (v4 < (imin a0 a1))) (
  obind (i_Matrix_at a0 a1 a2 v4 v4) fun (r5 : F) =>
  need (apok 4 L3.length 1) <|
  olet (IntKind.i64.wrap (v4 + 1)) fun (x6 : Int) =>
  some (LR.next ((L3 ++ ([r5] : List F)), x6))) (
  some (LR.out L3))
noncomputable def i_Matrix_middle_s1 (a0 : Int) (a1 : Int) (a2 : List F) : ((List F) × Int) → Option (LR ((List F) × Int) ((List F)) ((List F))) := fun s => i_Matrix_middle_b1 a0 a1 a2 s.1 s.2
noncomputable def i_Matrix_middle_k1 (L9 : List F) : Option ((List F)) :=
 some L9
noncomputable def i_Matrix_middle (a0 : Int) (a1 : Int) (a2 : List F) : Option ((List F)) :=
 obind (loopM (i_Matrix_middle_s1 a0 a1 a2) (([] : List F), 0)) fun z => osum z (fun e => i_Matrix_middle_k1 e) (fun r => some r)
theorem i_Matrix_middle_ok (a0 : Int) (a1 : Int) (a2 : List F) (q0 : List F) (h : i_Matrix_middle a0 a1 a2 = some q0) : Ev Try.prog 122 [agg (mXc a0 a1 a2)] [] (oref 0 0 0 q0.length) [⟨0, some (q0.map f32)⟩] := by
 refine Ev.start Try.func122 rfl rfl 2 (τ := [(0, agg (mXc a0 a1 a2))]) rfl (Γ' := [⟨0, none⟩, ⟨0, none⟩]) rfl (n := 47) rfl (g := 0) rfl (fun _ => rfl) ?_
 unfold i_Matrix_middle at h
 refine zQ ?_
 refine ROps.d (r := ptr (mXc a0 a1 a2)) (fs := []) (Γ' := [⟨0, none⟩, ⟨0, none⟩]) rfl rfl rfl (TOp.box_s rfl rfl rfl) rfl ?_
 refine za (r := nilsl) ?_
 refine zN ?_
 refine zQ ?_
 refine ROps.d (r := oref 0 1 0 0) (fs := [(0, (([] : List F).map f32))]) (Γ' := [⟨1, some (([] : List F).map f32)⟩, ⟨0, none⟩]) rfl rfl rfl (TOp.buildSlice_o (g := ⟨0, none⟩) (za := f32 (some 0)) (qs := []) 0 rfl und26 siz28 zer28 rfl zel28 rfl rfl trivial rfl) rfl ?_
 refine za (r := oref 0 1 0 0) ?_
 refine zN ?_
 refine RunC.seq ?_
 refine zQ ?_
 refine zl (r := ptr (mXc a0 a1 a2)) (LOp.fap und33 rfl siz2 rfl rfl rfl) ?_
 refine zl (r := i64 a0) (LOp.load1 agg2 rfl rfl) ?_
 refine zl (r := ptr [i64 a1, (sFc a2)]) (LOp.fap und33 rfl siz2 rfl rfl rfl) ?_
 refine zl (r := i64 a1) (LOp.load1 agg2 rfl rfl) ?_
 refine zl (r := i64 (imin a0 a1)) (LOp.min2 rfl rfl rfl) ?_
 refine zm (r := i64 0) ?_
 refine zN ?_
 obtain ⟨z2, hz_2, h⟩ := obind_some h
 refine RunC.cutN (fun τ Γ => ∃ (L9 : List F) (u7 : Nat) (u8 : Nat), WeakLe τ [(3, oref 0 u7 0 L9.length)] ∧ DeadLe Γ [⟨u7, some (L9.map f32)⟩, ⟨u8, none⟩] ∧ z2 = .inl L9) ?_ ?_
 ·refine RunC.block (RunC.loop (RunL.loopM (x := z2) (i_Matrix_middle_s1 a0 a1 a2) (fun (s : (List F) × Int) τ Γ => ∃ (u1 : Nat) (u2 : Nat), WeakLe τ [(1, ptr (mXc a0 a1 a2)), (3, oref 0 u1 0 s.1.length), (10, i64 (imin a0 a1)), (11, i64 s.2)] ∧ DeadLe Γ [⟨u1, some (s.1.map f32)⟩, ⟨u2, none⟩]) ?_ _ _ _ hz_2 ⟨1, 0, ⟨aR, aR, aR, aR, trivial⟩, ⟨⟨rfl, .inr rfl⟩, ⟨rfl, .inl rfl⟩, trivial⟩⟩))
  rintro ⟨L3, v4⟩ τ2 Γ2 y2_ ⟨u1, u2, hw2, hd2⟩ h2_ ho2 hr2
  refine RunC.wl (τ' := [(1, ptr (mXc a0 a1 a2)), (3, oref 0 u1 0 L3.length), (10, i64 (imin a0 a1)), (11, i64 v4)]) (Γ' := [⟨u1, some (L3.map f32)⟩, ⟨u2, none⟩]) hw2 hd2 ?_
  replace h2_ : i_Matrix_middle_b1 a0 a1 a2 L3 v4 = some y2_ := h2_
  unfold i_Matrix_middle_b1 at h2_
  refine RunC.seq ?_
  rcases bsel_some h2_ with ⟨hc1, h2_⟩ | ⟨hc1, h2_⟩
  ·refine RunC.regionW ?_
   refine zl (r := b true) (LOp.eqb (LOp.lss rfl rfl rfl) hc1) ?_
   refine zN ?_
   refine RunC.seq ?_
   refine RunC.cond_true rfl rfl ?_
   refine RunC.skip ?_
   refine RunC.seq ?_
   refine RunC.block ?_
   refine zQ ?_
   refine zm (r := i64 v4) ?_
   refine za (r := i64 v4) ?_
   refine zN ?_
   obtain ⟨r5, hf2, h2_⟩ := obind_some h2_
   obtain ⟨hm3, h2_⟩ := need_some h2_
   refine RunC.regionW ?_
   refine zm (r := oref 0 u1 0 L3.length) ?_
   refine zl (r := agg (mXc a0 a1 a2)) (LOp.loadAgg agg33 siz33 rfl rfl rfl rfl) ?_
   iterate 2 (refine zm (r := i64 v4) ?_)
   refine ROps.d (r := f32 r5) (fs := []) (Γ' := [⟨u1, some (L3.map f32)⟩, ⟨u2, none⟩]) rfl rfl rfl (TOp.callB (CallAs.func ent94 rfl rfl) (Bors.cons (Bor.agg (Bors.cons (Bor.pure rfl) (Bors.cons (Bor.pure rfl) (Bors.cons (Bor.sl (fun _ => rfl)) Bors.nil)))) (Bors.cons (Bor.pure rfl) (Bors.cons (Bor.pure rfl) Bors.nil))) rfl rfl (i_Matrix_at_ok a0 a1 a2 v4 v4 r5 hf2)) rfl ?_
   refine ROps.d (r := oref 1 (u2 + 1) 0 1) (fs := [(1, (([r5] : List F).map f32))]) (Γ' := [⟨u1, some (L3.map f32)⟩, ⟨(u2 + 1), some (([r5] : List F).map f32)⟩]) rfl rfl rfl (TOp.buildSlice_o (g := ⟨u2, none⟩) (za := f32 (some 0)) (qs := [(0, [f32 r5])]) 1 rfl und26 siz28 zer28 rfl zel28 rfl rfl ⟨rfl, ⟨_, ALe.refl _, rfl⟩, trivial⟩ rfl) rfl ?_
   refine ROps.app (f := f32) (xs := L3) (ys := ([r5] : List F)) (Γ' := [⟨(u1 + 1), some ((L3 ++ ([r5] : List F)).map f32)⟩, ⟨(u2 + 1), some (([r5] : List F).map f32)⟩]) rfl pun26 inf28 rfl rfl rfl rfl rfl rfl rfl rfl rfl (by simp) (ReadAs.own rfl (by simp)) (ones_map (fun _ => rfl)) (ap_by hm3) (ap_mx hm3) rfl ?_
   refine za (r := oref 0 (u1 + 1) 0 (L3.length + 1)) ?_
   refine zN ?_
   refine RunC.wl (τ' := [(1, ptr (mXc a0 a1 a2)), (3, oref 0 (u1 + 1) 0 (L3.length + 1)), (10, i64 (imin a0 a1)), (11, i64 v4)]) (Γ' := [⟨(u1 + 1), some ((L3 ++ ([r5] : List F)).map f32)⟩, ⟨(u2 + 1), none⟩]) ⟨aR, aR, aR, aR, trivial⟩ ⟨⟨rfl, .inr rfl⟩, ⟨rfl, .inl rfl⟩, trivial⟩ ?_
   obtain ⟨x6, hx4, h2_⟩ := olet_some h2_
   refine RunC.regionW ?_
   refine zl (r := i64 x6) (LOp.eqr (LOp.add rfl rfl rfl) (congrArg (ik .i64) hx4)) ?_
   refine zm (r := i64 x6) ?_
   refine zN ?_
   cases Option.some.inj h2_
   exact ⟨_, rfl, (u1 + 1), (u2 + 1), ⟨aR, (ALe.eq (by rw [(app_len rfl rfl)] <;> rfl)), aR, aR, trivial⟩, ⟨⟨rfl, .inr rfl⟩, ⟨rfl, .inl rfl⟩, trivial⟩⟩
  ·refine RunC.regionW ?_
   refine zl (r := b false) (LOp.eqb (LOp.lss rfl rfl rfl) hc1) ?_
   refine zN ?_
   refine RunC.seq ?_
   refine RunC.cond_false rfl rfl ?_
   refine RunC.exit ?_
   cases Option.some.inj h2_
   have hx := ho2 _ rfl
   exact ⟨L3, u1, u2, ⟨aR, trivial⟩, ⟨⟨rfl, .inr rfl⟩, ⟨rfl, .inl rfl⟩, trivial⟩, hx⟩
 ·rintro τ3 Γ3 ⟨L9, u7, u8, hw3, hd3, rfl⟩
  refine RunC.wl hw3 hd3 ?_
  replace h : i_Matrix_middle_k1 L9 = some q0 := h
  unfold i_Matrix_middle_k1 at h
  refine zQ ?_
  refine zm (r := oref 0 u7 0 L9.length) ?_
  refine za (r := oref 0 u7 0 L9.length) ?_
  refine zN ?_
  refine RunC.ret ?_
  have hq := Option.some.inj h
  subst q0
  exact bodyQ.mk (r' := oref 0 u7 0 L9.length) [(0, u7)] (.inr rfl) rfl (show List.Nodup [0] from by decide) (by simp [ren, rens, sigma]) rfl (Res.one rfl (RV.tmp rfl)) (SelL.arr0 (f := f32) (fun _ => rfl) rfl trivial)
noncomputable def i_RootSolve_1 (a0 : F) : Option (Bool) :=
 some (fle .f32 a0 (some 0))
theorem i_RootSolve_1_ok (a0 : F) (q0 : Bool) (h : i_RootSolve_1 a0 = some q0) : Ev Try.prog 123 [f32 a0] [] (b q0) [] := by
 refine Ev.start Try.func123 rfl rfl 0 (τ := [(0, f32 a0)]) rfl (Γ' := []) rfl (n := 11) rfl (g := 0) rfl (fun _ => rfl) ?_
 unfold i_RootSolve_1 at h
 refine zQ ?_
 refine za (r := b false) ?_
 refine zN ?_
 refine zQ ?_
 refine zm (r := f32 a0) ?_
 refine zl (r := b (fle .f32 a0 (some 0))) (LOp.fle rfl (OpF.tmp rfl) (OpF.const rfl (by kernel_rfl) (by kernel_rfl))) ?_
 refine za (r := b (fle .f32 a0 (some 0))) ?_
 refine zN ?_
 refine RunC.ret ?_
 have hq := Option.some.inj h
 subst q0
 exact bodyQ.pure (.inr rfl) rfl (Res.one rfl (RV.tmp rfl))
noncomputable def x_slices_IndexFunc_float32_float32_1Fi_RootSolve_1_b1 (a0 : List F) (v1 : Int) : Option (LR (Int) (Unit) (Int)) :=
 bsel (decide (v1 < (a0.length : Int))) (
  obind (at? a0 v1) fun (e2 : F) =>
  obind (i_RootSolve_1 e2) fun (r3 : Bool) =>
  bsel r3 (
   some (LR.ret v1)) (
   olet (IntKind.i64.wrap (v1 + 1)) fun (x4 : Int) =>
   some (LR.next x4))) (
  some (LR.out ()))
noncomputable def x_slices_IndexFunc_float32_float32_1Fi_RootSolve_1_s1 (a0 : List F) : (Int) → Option (LR (Int) (Unit) (Int)) := fun s => x_slices_IndexFunc_float32_float32_1Fi_RootSolve_1_b1 a0 s
noncomputable def x_slices_IndexFunc_float32_float32_1Fi_RootSolve_1_k1  : Option (Int) :=
 some (-1)
noncomputable def x_slices_IndexFunc_float32_float32_1Fi_RootSolve_1 (a0 : List F) : Option (Int) :=
 obind (loopM (x_slices_IndexFunc_float32_float32_1Fi_RootSolve_1_s1 a0) 0) fun z => osum z (fun _ => x_slices_IndexFunc_float32_float32_1Fi_RootSolve_1_k1) (fun r => some r)
theorem x_slices_IndexFunc_float32_float32_1Fi_RootSolve_1_ok (a0 : List F) (q0 : Int) (h : x_slices_IndexFunc_float32_float32_1Fi_RootSolve_1 a0 = some q0) : Ev Try.prog 164 [(sFc a0), fn (.func 123) [] []] [] (i64 q0) [] := by
 refine Ev.start Try.func164 rfl rfl 0 (τ := [(0, (sFc a0)), (1, fn (.func 123) [] [])]) rfl (Γ' := []) rfl (n := 39) rfl (g := 0) rfl (fun _ => rfl) ?_
 unfold x_slices_IndexFunc_float32_float32_1Fi_RootSolve_1 at h
 refine zQ ?_
 refine za (r := i64 0) ?_
 refine zN ?_
 refine RunC.seq ?_
 refine zQ ?_
 refine zm (r := (sFc a0)) ?_
 refine zl (r := i64 (a0.length : Int)) (LOp.len_sl und26 rfl rfl) ?_
 refine zm (r := i64 0) ?_
 refine zN ?_
 obtain ⟨z2, hz_2, h⟩ := obind_some h
 refine RunC.cutN (fun τ Γ => WeakLe τ [] ∧ DeadLe Γ [] ∧ z2 = .inl ()) ?_ ?_
 ·refine RunC.block (RunC.loop (RunL.loopM (x := z2) (x_slices_IndexFunc_float32_float32_1Fi_RootSolve_1_s1 a0) (fun (s : Int) τ Γ => WeakLe τ [(0, (sFc a0)), (1, fn (.func 123) [] []), (7, i64 (a0.length : Int)), (8, i64 s)] ∧ DeadLe Γ []) ?_ _ _ _ hz_2 ⟨⟨aR, aR, aR, aR, trivial⟩, trivial⟩))
  rintro v1 τ2 Γ2 y2_ ⟨hw2, hd2⟩ h2_ ho2 hr2
  refine RunC.wl (τ' := [(0, (sFc a0)), (1, fn (.func 123) [] []), (7, i64 (a0.length : Int)), (8, i64 v1)]) (Γ' := []) hw2 hd2 ?_
  replace h2_ : x_slices_IndexFunc_float32_float32_1Fi_RootSolve_1_b1 a0 v1 = some y2_ := h2_
  unfold x_slices_IndexFunc_float32_float32_1Fi_RootSolve_1_b1 at h2_
  refine RunC.seq ?_
  rcases bsel_some h2_ with ⟨hc1, h2_⟩ | ⟨hc1, h2_⟩
  ·refine RunC.regionW ?_
   refine zl (r := b true) (LOp.eqb (LOp.lss rfl rfl rfl) hc1) ?_
   refine zN ?_
   refine RunC.seq ?_
   refine RunC.cond_true rfl rfl ?_
   refine RunC.skip ?_
   refine RunC.seq ?_
   refine RunC.block ?_
   refine zQ ?_
   refine zm (r := i64 v1) ?_
   refine za (r := i64 v1) ?_
   refine zN ?_
   refine RunC.seq ?_
   obtain ⟨e2, he2, h2_⟩ := obind_some h2_
   obtain ⟨r3, hf3, h2_⟩ := obind_some h2_
   rcases bsel_some h2_ with ⟨hc4, h2_⟩ | ⟨hc4, h2_⟩
   ·refine RunC.regionW ?_
    refine zm (r := fn (.func 123) [] []) ?_
    refine zm (r := (sFc a0)) ?_
    refine zm (r := i64 v1) ?_
    refine zl (r := ptr [f32 e2]) (LOp.le (LOp.ix (f := f32) und26 siz28 rfl rfl rfl rfl he2) ALe.ptr) ?_
    refine zl (r := f32 e2) (LOp.load1 agg28 rfl rfl) ?_
    refine ROps.d (r := b true) (fs := []) (Γ' := []) rfl rfl rfl (TOp.eqb (TOp.callB (CallAs.fn ent123 rfl rfl rfl rfl) (Bors.cons (Bor.pure rfl) Bors.nil) rfl rfl (i_RootSolve_1_ok e2 r3 hf3)) hc4) rfl ?_
    refine zN ?_
    refine RunC.cond_true rfl rfl ?_
    refine zQ ?_
    refine zm (r := i64 v1) ?_
    refine za (r := i64 v1) ?_
    refine zN ?_
    refine RunC.ret ?_
    cases Option.some.inj h2_
    have hx3_ := hr2 _ rfl
    subst hx3_
    have hq := Option.some.inj h
    subst q0
    exact bodyQ.pure (.inr rfl) rfl (Res.one rfl (RV.tmp rfl))
   ·refine RunC.regionW ?_
    refine zm (r := fn (.func 123) [] []) ?_
    refine zm (r := (sFc a0)) ?_
    refine zm (r := i64 v1) ?_
    refine zl (r := ptr [f32 e2]) (LOp.le (LOp.ix (f := f32) und26 siz28 rfl rfl rfl rfl he2) ALe.ptr) ?_
    refine zl (r := f32 e2) (LOp.load1 agg28 rfl rfl) ?_
    refine ROps.d (r := b false) (fs := []) (Γ' := []) rfl rfl rfl (TOp.eqb (TOp.callB (CallAs.fn ent123 rfl rfl rfl rfl) (Bors.cons (Bor.pure rfl) Bors.nil) rfl rfl (i_RootSolve_1_ok e2 r3 hf3)) hc4) rfl ?_
    refine zN ?_
    refine RunC.cond_false rfl rfl ?_
    refine RunC.skip ?_
    obtain ⟨x4, hx5, h2_⟩ := olet_some h2_
    refine RunC.regionW ?_
    refine zl (r := i64 x4) (LOp.eqr (LOp.add rfl rfl rfl) (congrArg (ik .i64) hx5)) ?_
    refine zm (r := i64 x4) ?_
    refine zN ?_
    cases Option.some.inj h2_
    exact ⟨_, rfl, ⟨aR, aR, aR, aR, trivial⟩, trivial⟩
  ·refine RunC.regionW ?_
   refine zl (r := b false) (LOp.eqb (LOp.lss rfl rfl rfl) hc1) ?_
   refine zN ?_
   refine RunC.seq ?_
   refine RunC.cond_false rfl rfl ?_
   refine RunC.exit ?_
   cases Option.some.inj h2_
   have hx := ho2 _ rfl
   exact ⟨trivial, trivial, hx⟩
 ·rintro τ4 Γ4 ⟨hw4, hd4, rfl⟩
  refine RunC.wl hw4 hd4 ?_
  replace h : x_slices_IndexFunc_float32_float32_1Fi_RootSolve_1_k1 = some q0 := h
  unfold x_slices_IndexFunc_float32_float32_1Fi_RootSolve_1_k1 at h
  refine zQ ?_
  refine za (r := i64 (-1)) ?_
  refine zN ?_
  refine RunC.ret ?_
  have hq := Option.some.inj h
  subst q0
  exact bodyQ.pure (.inr rfl) rfl (Res.one rfl (RV.tmp rfl))
noncomputable def x_slices_ContainsFunc_float32_float32_1Fi_RootSolve_1 (a0 : List F) : Option (Bool) :=
 obind (x_slices_IndexFunc_float32_float32_1Fi_RootSolve_1 a0) fun (r1 : Int) =>
 some (decide (0 ≤ r1))
theorem x_slices_ContainsFunc_float32_float32_1Fi_RootSolve_1_ok (a0 : List F) (q0 : Bool) (h : x_slices_ContainsFunc_float32_float32_1Fi_RootSolve_1 a0 = some q0) : Ev Try.prog 121 [(sFc a0), fn (.func 123) [] []] [] (b q0) [] := by
 refine Ev.start Try.func121 rfl rfl 0 (τ := [(0, (sFc a0)), (1, fn (.func 123) [] [])]) rfl (Γ' := []) rfl (n := 19) rfl (g := 0) rfl (fun _ => rfl) ?_
 unfold x_slices_ContainsFunc_float32_float32_1Fi_RootSolve_1 at h
 refine zQ ?_
 refine za (r := b false) ?_
 refine zN ?_
 refine RunC.seq ?_
 obtain ⟨r1, hf1, h⟩ := obind_some h
 refine RunC.regionW ?_
 refine zm (r := (sFc a0)) ?_
 refine zm (r := fn (.func 123) [] []) ?_
 refine ROps.d (r := i64 r1) (fs := []) (Γ' := []) rfl rfl rfl (TOp.callB (CallAs.func ent164 rfl rfl) (Bors.cons (Bor.sl (fun _ => rfl)) (Bors.cons (Bor.fn Bors.nil Bors.nil) Bors.nil)) rfl rfl (x_slices_IndexFunc_float32_float32_1Fi_RootSolve_1_ok a0 r1 hf1)) rfl ?_
 refine zl (r := b (decide (0 ≤ r1))) (LOp.geq rfl rfl rfl) ?_
 refine za (r := b (decide (0 ≤ r1))) ?_
 refine zN ?_
 refine RunC.ret ?_
 have hq := Option.some.inj h
 subst q0
 exact bodyQ.pure (.inr rfl) rfl (Res.one rfl (RV.tmp rfl))
noncomputable def i_Matrix_lessRow_b1 (a0 : Int) (a1 : Int) (a2 : List F) (a4 : Int) (a6 : Int) (a7 : List F) (y1 : F) (v2 : Int) : Option (LR (F × Int) (F) (F)) :=
 bsel (decide (v2 < a6)) (
  obind (i_Matrix_at a0 a1 a2 a4 v2) fun (r3 : F) =>
  obind (at? a7 v2) fun (e4 : F) =>
  obind (i_mul r3 e4) fun (r5 : F) =>
  olet (fop .sub .f32 y1 r5) fun (x6 : F) =>
  olet (IntKind.i64.wrap (v2 + 1)) fun (x7 : Int) =>
  some (LR.next (x6, x7))) (
  some (LR.out y1))
noncomputable def i_Matrix_lessRow_s1 (a0 : Int) (a1 : Int) (a2 : List F) (a4 : Int) (a6 : Int) (a7 : List F) : (F × Int) → Option (LR (F × Int) (F) (F)) := fun s => i_Matrix_lessRow_b1 a0 a1 a2 a4 a6 a7 s.1 s.2
noncomputable def i_Matrix_lessRow_k1 (y8 : F) : Option (F) :=
 some y8
noncomputable def i_Matrix_lessRow (a0 : Int) (a1 : Int) (a2 : List F) (a3 : F) (a4 : Int) (a5 : Int) (a6 : Int) (a7 : List F) : Option (F) :=
 obind (loopM (i_Matrix_lessRow_s1 a0 a1 a2 a4 a6 a7) (a3, a5)) fun z => osum z (fun e => i_Matrix_lessRow_k1 e) (fun r => some r)
theorem i_Matrix_lessRow_ok (a0 : Int) (a1 : Int) (a2 : List F) (a3 : F) (a4 : Int) (a5 : Int) (a6 : Int) (a7 : List F) (q0 : F) (h : i_Matrix_lessRow a0 a1 a2 a3 a4 a5 a6 a7 = some q0) : Ev Try.prog 124 [agg (mXc a0 a1 a2), f32 a3, i64 a4, i64 a5, i64 a6, (sFc a7)] [] (f32 q0) [] := by
 refine Ev.start Try.func124 rfl rfl 0 (τ := [(0, agg (mXc a0 a1 a2)), (1, f32 a3), (2, i64 a4), (3, i64 a5), (4, i64 a6), (5, (sFc a7))]) rfl (Γ' := []) rfl (n := 65) rfl (g := 0) rfl (fun _ => rfl) ?_
 unfold i_Matrix_lessRow at h
 refine zQ ?_
 refine ROps.d (r := ptr (mXc a0 a1 a2)) (fs := []) (Γ' := []) rfl rfl rfl (TOp.box_s rfl rfl rfl) rfl ?_
 refine zl (r := f32 (some 0)) (LOp.le (LOp.assign rfl rfl) (ALe.fl (by kernel_rfl) (by kernel_rfl))) ?_
 refine zN ?_
 refine RunC.seq ?_
 refine zQ ?_
 refine zm (r := i64 a5) ?_
 refine za (r := i64 a5) ?_
 refine zN ?_
 obtain ⟨z2, hz_2, h⟩ := obind_some h
 refine RunC.cutN (fun τ Γ => ∃ (y8 : F), WeakLe τ [(1, f32 y8)] ∧ DeadLe Γ [] ∧ z2 = .inl y8) ?_ ?_
 ·refine RunC.block (RunC.loop (RunL.loopM (x := z2) (i_Matrix_lessRow_s1 a0 a1 a2 a4 a6 a7) (fun (s : F × Int) τ Γ => WeakLe τ [(1, f32 s.1), (2, i64 a4), (4, i64 a6), (5, (sFc a7)), (6, ptr (mXc a0 a1 a2)), (13, i64 s.2)] ∧ DeadLe Γ []) ?_ _ _ _ hz_2 ⟨⟨aR, aR, aR, aR, aR, aR, trivial⟩, trivial⟩))
  rintro ⟨y1, v2⟩ τ2 Γ2 y2_ ⟨hw2, hd2⟩ h2_ ho2 hr2
  refine RunC.wl (τ' := [(1, f32 y1), (2, i64 a4), (4, i64 a6), (5, (sFc a7)), (6, ptr (mXc a0 a1 a2)), (13, i64 v2)]) (Γ' := []) hw2 hd2 ?_
  replace h2_ : i_Matrix_lessRow_b1 a0 a1 a2 a4 a6 a7 y1 v2 = some y2_ := h2_
  unfold i_Matrix_lessRow_b1 at h2_
  iterate 2 (refine RunC.seq ?_)
  rcases bsel_some h2_ with ⟨hc1, h2_⟩ | ⟨hc1, h2_⟩
  ·refine RunC.regionW ?_
   refine zm (r := i64 v2) ?_
   refine zm (r := i64 a6) ?_
   refine zl (r := b true) (LOp.eqb (LOp.lss rfl rfl rfl) hc1) ?_
   refine zN ?_
   refine RunC.cond_true rfl rfl ?_
   refine RunC.skip ?_
   refine RunC.seq ?_
   refine RunC.block ?_
   obtain ⟨r3, hf2, h2_⟩ := obind_some h2_
   obtain ⟨e4, he3, h2_⟩ := obind_some h2_
   obtain ⟨r5, hf4, h2_⟩ := obind_some h2_
   obtain ⟨x6, hx5, h2_⟩ := olet_some h2_
   refine RunC.region_draw (Γ' := []) 12 mixed 
    (TR.l (r := f32 y1) rfl rfl (LOp.move rfl rfl) <|
    (TR.l (r := agg (mXc a0 a1 a2)) rfl rfl (LOp.loadAgg agg33 siz33 rfl rfl rfl rfl) <|
    (TR.l (r := i64 a4) rfl rfl (LOp.move rfl rfl) <|
    (TR.l (r := i64 v2) rfl rfl (LOp.move rfl rfl) <|
    (TR.d (r := f32 r3) (fs := []) rfl rfl (TOp.callB (CallAs.func ent94 rfl rfl) (Bors.cons (Bor.agg (Bors.cons (Bor.pure rfl) (Bors.cons (Bor.pure rfl) (Bors.cons (Bor.sl (fun _ => rfl)) Bors.nil)))) (Bors.cons (Bor.pure rfl) (Bors.cons (Bor.pure rfl) Bors.nil))) rfl rfl (i_Matrix_at_ok a0 a1 a2 a4 v2 r3 hf2)) <|
    (TR.l (r := (sFc a7)) rfl rfl (LOp.move rfl rfl) <|
    (TR.l (r := i64 v2) rfl rfl (LOp.move rfl rfl) <|
    (TR.l (r := ptr [f32 e4]) rfl rfl (LOp.le (LOp.ix (f := f32) und26 siz28 rfl rfl rfl rfl he3) ALe.ptr) <|
    (TR.l (r := f32 e4) rfl rfl (LOp.load1 agg28 rfl rfl) <|
    (TR.d (r := f32 r5) (fs := []) rfl rfl (TOp.callB (CallAs.func ent76 rfl rfl) (Bors.cons (Bor.pure rfl) (Bors.cons (Bor.pure rfl) Bors.nil)) rfl rfl (i_mul_ok r3 e4 r5 hf4)) <|
    (TR.d (r := f32 x6) (fs := []) rfl rfl (TOp.eqr (TOp.fop (.inr (.inl rfl)) rfl (OpF.tmp rfl) (OpF.tmp rfl)) (congrArg (f .f32) hx5)) <|
    (TR.l (r := f32 x6) rfl rfl (LOp.assign rfl rfl) <|
    TR.nil)))))))))))) rfl (by kernel_rfl) rfl fills_nil rfl ?_
   iterate 12 refine ROps.dropS ?_
   refine ROps.drop0 ?_
   refine zN ?_
   refine RunC.wl (τ' := [(1, f32 x6), (2, i64 a4), (4, i64 a6), (5, (sFc a7)), (6, ptr (mXc a0 a1 a2)), (13, i64 v2)]) (Γ' := []) ⟨aR, aR, aR, aR, aR, aR, trivial⟩ trivial ?_
   obtain ⟨x7, hx6, h2_⟩ := olet_some h2_
   refine RunC.regionW ?_
   refine zm (r := i64 v2) ?_
   refine zl (r := i64 x7) (LOp.eqr (LOp.add rfl rfl rfl) (congrArg (ik .i64) hx6)) ?_
   refine za (r := i64 x7) ?_
   refine zN ?_
   cases Option.some.inj h2_
   exact ⟨_, rfl, ⟨aR, aR, aR, aR, aR, aR, trivial⟩, trivial⟩
  ·refine RunC.regionW ?_
   refine zm (r := i64 v2) ?_
   refine zm (r := i64 a6) ?_
   refine zl (r := b false) (LOp.eqb (LOp.lss rfl rfl rfl) hc1) ?_
   refine zN ?_
   refine RunC.cond_false rfl rfl ?_
   refine RunC.exit ?_
   cases Option.some.inj h2_
   have hx := ho2 _ rfl
   exact ⟨y1, ⟨aR, trivial⟩, trivial, hx⟩
 ·rintro τ3 Γ3 ⟨y8, hw3, hd3, rfl⟩
  refine RunC.wl hw3 hd3 ?_
  replace h : i_Matrix_lessRow_k1 y8 = some q0 := h
  unfold i_Matrix_lessRow_k1 at h
  refine zQ ?_
  refine zm (r := f32 y8) ?_
  refine za (r := f32 y8) ?_
  refine zN ?_
  refine RunC.ret ?_
  have hq := Option.some.inj h
  subst q0
  exact bodyQ.pure (.inr rfl) rfl (Res.one rfl (RV.tmp rfl))
noncomputable def i_Matrix_lessColumn_b1 (a0 : Int) (a1 : Int) (a2 : List F) (a4 : Int) (a6 : Int) (a7 : List F) (y1 : F) (v2 : Int) : Option (LR (F × Int) (F) (F)) :=
 bsel (decide (v2 < a6)) (
  obind (i_Matrix_at a0 a1 a2 v2 a4) fun (r3 : F) =>
  obind (at? a7 v2) fun (e4 : F) =>
  obind (i_mul r3 e4) fun (r5 : F) =>
  olet (fop .sub .f32 y1 r5) fun (x6 : F) =>
  olet (IntKind.i64.wrap (v2 + 1)) fun (x7 : Int) =>
  some (LR.next (x6, x7))) (
  some (LR.out y1))
noncomputable def i_Matrix_lessColumn_s1 (a0 : Int) (a1 : Int) (a2 : List F) (a4 : Int) (a6 : Int) (a7 : List F) : (F × Int) → Option (LR (F × Int) (F) (F)) := fun s => i_Matrix_lessColumn_b1 a0 a1 a2 a4 a6 a7 s.1 s.2
noncomputable def i_Matrix_lessColumn_k1 (y8 : F) : Option (F) :=
 some y8
noncomputable def i_Matrix_lessColumn (a0 : Int) (a1 : Int) (a2 : List F) (a3 : F) (a4 : Int) (a5 : Int) (a6 : Int) (a7 : List F) : Option (F) :=
 obind (loopM (i_Matrix_lessColumn_s1 a0 a1 a2 a4 a6 a7) (a3, a5)) fun z => osum z (fun e => i_Matrix_lessColumn_k1 e) (fun r => some r)
theorem i_Matrix_lessColumn_ok (a0 : Int) (a1 : Int) (a2 : List F) (a3 : F) (a4 : Int) (a5 : Int) (a6 : Int) (a7 : List F) (q0 : F) (h : i_Matrix_lessColumn a0 a1 a2 a3 a4 a5 a6 a7 = some q0) : Ev Try.prog 125 [agg (mXc a0 a1 a2), f32 a3, i64 a4, i64 a5, i64 a6, (sFc a7)] [] (f32 q0) [] := by
 refine Ev.start Try.func125 rfl rfl 0 (τ := [(0, agg (mXc a0 a1 a2)), (1, f32 a3), (2, i64 a4), (3, i64 a5), (4, i64 a6), (5, (sFc a7))]) rfl (Γ' := []) rfl (n := 65) rfl (g := 0) rfl (fun _ => rfl) ?_
 unfold i_Matrix_lessColumn at h
 refine zQ ?_
 refine ROps.d (r := ptr (mXc a0 a1 a2)) (fs := []) (Γ' := []) rfl rfl rfl (TOp.box_s rfl rfl rfl) rfl ?_
 refine zl (r := f32 (some 0)) (LOp.le (LOp.assign rfl rfl) (ALe.fl (by kernel_rfl) (by kernel_rfl))) ?_
 refine zN ?_
 refine RunC.seq ?_
 refine zQ ?_
 refine zm (r := i64 a5) ?_
 refine za (r := i64 a5) ?_
 refine zN ?_
 obtain ⟨z2, hz_2, h⟩ := obind_some h
 refine RunC.cutN (fun τ Γ => ∃ (y8 : F), WeakLe τ [(1, f32 y8)] ∧ DeadLe Γ [] ∧ z2 = .inl y8) ?_ ?_
 ·refine RunC.block (RunC.loop (RunL.loopM (x := z2) (i_Matrix_lessColumn_s1 a0 a1 a2 a4 a6 a7) (fun (s : F × Int) τ Γ => WeakLe τ [(1, f32 s.1), (2, i64 a4), (4, i64 a6), (5, (sFc a7)), (6, ptr (mXc a0 a1 a2)), (13, i64 s.2)] ∧ DeadLe Γ []) ?_ _ _ _ hz_2 ⟨⟨aR, aR, aR, aR, aR, aR, trivial⟩, trivial⟩))
  rintro ⟨y1, v2⟩ τ2 Γ2 y2_ ⟨hw2, hd2⟩ h2_ ho2 hr2
  refine RunC.wl (τ' := [(1, f32 y1), (2, i64 a4), (4, i64 a6), (5, (sFc a7)), (6, ptr (mXc a0 a1 a2)), (13, i64 v2)]) (Γ' := []) hw2 hd2 ?_
  replace h2_ : i_Matrix_lessColumn_b1 a0 a1 a2 a4 a6 a7 y1 v2 = some y2_ := h2_
  unfold i_Matrix_lessColumn_b1 at h2_
  iterate 2 (refine RunC.seq ?_)
  rcases bsel_some h2_ with ⟨hc1, h2_⟩ | ⟨hc1, h2_⟩
  ·refine RunC.regionW ?_
   refine zm (r := i64 v2) ?_
   refine zm (r := i64 a6) ?_
   refine zl (r := b true) (LOp.eqb (LOp.lss rfl rfl rfl) hc1) ?_
   refine zN ?_
   refine RunC.cond_true rfl rfl ?_
   refine RunC.skip ?_
   refine RunC.seq ?_
   refine RunC.block ?_
   obtain ⟨r3, hf2, h2_⟩ := obind_some h2_
   obtain ⟨e4, he3, h2_⟩ := obind_some h2_
   obtain ⟨r5, hf4, h2_⟩ := obind_some h2_
   obtain ⟨x6, hx5, h2_⟩ := olet_some h2_
   refine RunC.region_draw (Γ' := []) 12 mixed 
    (TR.l (r := f32 y1) rfl rfl (LOp.move rfl rfl) <|
    (TR.l (r := agg (mXc a0 a1 a2)) rfl rfl (LOp.loadAgg agg33 siz33 rfl rfl rfl rfl) <|
    (TR.l (r := i64 v2) rfl rfl (LOp.move rfl rfl) <|
    (TR.l (r := i64 a4) rfl rfl (LOp.move rfl rfl) <|
    (TR.d (r := f32 r3) (fs := []) rfl rfl (TOp.callB (CallAs.func ent94 rfl rfl) (Bors.cons (Bor.agg (Bors.cons (Bor.pure rfl) (Bors.cons (Bor.pure rfl) (Bors.cons (Bor.sl (fun _ => rfl)) Bors.nil)))) (Bors.cons (Bor.pure rfl) (Bors.cons (Bor.pure rfl) Bors.nil))) rfl rfl (i_Matrix_at_ok a0 a1 a2 v2 a4 r3 hf2)) <|
    (TR.l (r := (sFc a7)) rfl rfl (LOp.move rfl rfl) <|
    (TR.l (r := i64 v2) rfl rfl (LOp.move rfl rfl) <|
    (TR.l (r := ptr [f32 e4]) rfl rfl (LOp.le (LOp.ix (f := f32) und26 siz28 rfl rfl rfl rfl he3) ALe.ptr) <|
    (TR.l (r := f32 e4) rfl rfl (LOp.load1 agg28 rfl rfl) <|
    (TR.d (r := f32 r5) (fs := []) rfl rfl (TOp.callB (CallAs.func ent76 rfl rfl) (Bors.cons (Bor.pure rfl) (Bors.cons (Bor.pure rfl) Bors.nil)) rfl rfl (i_mul_ok r3 e4 r5 hf4)) <|
    (TR.d (r := f32 x6) (fs := []) rfl rfl (TOp.eqr (TOp.fop (.inr (.inl rfl)) rfl (OpF.tmp rfl) (OpF.tmp rfl)) (congrArg (f .f32) hx5)) <|
    (TR.l (r := f32 x6) rfl rfl (LOp.assign rfl rfl) <|
    TR.nil)))))))))))) rfl (by kernel_rfl) rfl fills_nil rfl ?_
   iterate 12 refine ROps.dropS ?_
   refine ROps.drop0 ?_
   refine zN ?_
   refine RunC.wl (τ' := [(1, f32 x6), (2, i64 a4), (4, i64 a6), (5, (sFc a7)), (6, ptr (mXc a0 a1 a2)), (13, i64 v2)]) (Γ' := []) ⟨aR, aR, aR, aR, aR, aR, trivial⟩ trivial ?_
   obtain ⟨x7, hx6, h2_⟩ := olet_some h2_
   refine RunC.regionW ?_
   refine zm (r := i64 v2) ?_
   refine zl (r := i64 x7) (LOp.eqr (LOp.add rfl rfl rfl) (congrArg (ik .i64) hx6)) ?_
   refine za (r := i64 x7) ?_
   refine zN ?_
   cases Option.some.inj h2_
   exact ⟨_, rfl, ⟨aR, aR, aR, aR, aR, aR, trivial⟩, trivial⟩
  ·refine RunC.regionW ?_
   refine zm (r := i64 v2) ?_
   refine zm (r := i64 a6) ?_
   refine zl (r := b false) (LOp.eqb (LOp.lss rfl rfl rfl) hc1) ?_
   refine zN ?_
   refine RunC.cond_false rfl rfl ?_
   refine RunC.exit ?_
   cases Option.some.inj h2_
   have hx := ho2 _ rfl
   exact ⟨y1, ⟨aR, trivial⟩, trivial, hx⟩
 ·rintro τ3 Γ3 ⟨y8, hw3, hd3, rfl⟩
  refine RunC.wl hw3 hd3 ?_
  replace h : i_Matrix_lessColumn_k1 y8 = some q0 := h
  unfold i_Matrix_lessColumn_k1 at h
  refine zQ ?_
  refine zm (r := f32 y8) ?_
  refine za (r := f32 y8) ?_
  refine zN ?_
  refine RunC.ret ?_
  have hq := Option.some.inj h
  subst q0
  exact bodyQ.pure (.inr rfl) rfl (Res.one rfl (RV.tmp rfl))
noncomputable def i_allFinite_0o (a0 : List F) : Option ((Bool × (List F)) ⊕ (Bool × (List F) × (List F))) :=
 obind (i_areFinite a0) fun (r1 : Bool) =>
 bsel r1 (
  some (Sum.inl (true, a0))) (
  some (Sum.inr (false, a0, ([] : List F))))
theorem i_allFinite_0o_ok0 (a0 : List F) (q0 : Bool) (q1 : List F) (h : i_allFinite_0o a0 = some (Sum.inl (q0, q1))) : Ev Try.prog 77 [oref 0 0 0 a0.length] [⟨0, some (a0.map f32)⟩] (tup [oref 0 0 0 q1.length, b q0]) [⟨0, some (q1.map f32)⟩] := by
 refine Ev.start Try.func77 rfl rfl 1 (τ := [(0, oref 0 0 0 a0.length)]) rfl (Γ' := [⟨0, some (a0.map f32)⟩, ⟨0, none⟩]) rfl (n := 16) rfl (g := 1) rfl (by decide) ?_
 unfold i_allFinite_0o at h
 refine zQ ?_
 refine za (r := nilsl) ?_
 refine za (r := b false) ?_
 refine zN ?_
 iterate 2 (refine RunC.seq ?_)
 obtain ⟨r1, hf1, h⟩ := obind_some h
 rcases bsel_some h with ⟨hc2, h⟩ | ⟨hc2, h⟩
 ·refine RunC.regionW ?_
  refine zm (r := oref 0 0 0 a0.length) ?_
  refine ROps.d (r := b true) (fs := []) (Γ' := [⟨0, some (a0.map f32)⟩, ⟨0, none⟩]) rfl rfl rfl (TOp.eqb (TOp.callB (CallAs.func ent74 rfl rfl) (Bors.cons (Bor.own (f := f32) (fun _ => rfl) rfl rfl) Bors.nil) rfl rfl (i_areFinite_ok a0 r1 hf1)) hc2) rfl ?_
  refine zl (r := b false) (LOp.eqb (LOp.not rfl rfl) rfl) ?_
  refine zN ?_
  refine RunC.cond_false rfl rfl ?_
  refine RunC.skip ?_
  refine zQ ?_
  refine zm (r := oref 0 0 0 a0.length) ?_
  refine za (r := oref 0 0 0 a0.length) ?_
  refine za (r := b true) ?_
  refine zN ?_
  refine RunC.ret ?_
  have hq := Option.some.inj h
  have hq := Sum.inl.inj hq
  obtain ⟨hq0, hq⟩ := Prod.mk.inj hq
  subst q0
  subst q1
  exact bodyQ.mk (r' := tup [oref 0 0 0 a0.length, b true]) [(0, 0)] (.inr rfl) rfl (show List.Nodup [0] from by decide) rfl rfl (Res.two rfl (RV.tmp rfl) (RV.tmp rfl)) (SelL.arr (f := f32) (fun _ => rfl) rfl trivial)
 ·refine RunC.regionW ?_
  refine zm (r := oref 0 0 0 a0.length) ?_
  refine ROps.d (r := b false) (fs := []) (Γ' := [⟨0, some (a0.map f32)⟩, ⟨0, none⟩]) rfl rfl rfl (TOp.eqb (TOp.callB (CallAs.func ent74 rfl rfl) (Bors.cons (Bor.own (f := f32) (fun _ => rfl) rfl rfl) Bors.nil) rfl rfl (i_areFinite_ok a0 r1 hf1)) hc2) rfl ?_
  refine zl (r := b true) (LOp.eqb (LOp.not rfl rfl) rfl) ?_
  refine zN ?_
  refine RunC.cond_true rfl rfl ?_
  refine zQ ?_
  refine za (r := nilsl) ?_
  refine za (r := b false) ?_
  refine zN ?_
  cases Option.some.inj h
theorem i_allFinite_0o_ok1 (a0 : List F) (q0 : Bool) (q1 : List F) (q2 : List F) (h : i_allFinite_0o a0 = some (Sum.inr (q0, q1, q2))) : Ev Try.prog 77 [oref 0 0 0 a0.length] [⟨0, some (a0.map f32)⟩] (tup [oref 1 0 0 q2.length, b q0]) [⟨0, some (q1.map f32)⟩, ⟨0, some (q2.map f32)⟩] := by
 refine Ev.start Try.func77 rfl rfl 1 (τ := [(0, oref 0 0 0 a0.length)]) rfl (Γ' := [⟨0, some (a0.map f32)⟩, ⟨0, none⟩]) rfl (n := 16) rfl (g := 1) rfl (by decide) ?_
 unfold i_allFinite_0o at h
 refine zQ ?_
 refine za (r := nilsl) ?_
 refine za (r := b false) ?_
 refine zN ?_
 iterate 2 (refine RunC.seq ?_)
 obtain ⟨r1, hf1, h⟩ := obind_some h
 rcases bsel_some h with ⟨hc2, h⟩ | ⟨hc2, h⟩
 ·refine RunC.regionW ?_
  refine zm (r := oref 0 0 0 a0.length) ?_
  refine ROps.d (r := b true) (fs := []) (Γ' := [⟨0, some (a0.map f32)⟩, ⟨0, none⟩]) rfl rfl rfl (TOp.eqb (TOp.callB (CallAs.func ent74 rfl rfl) (Bors.cons (Bor.own (f := f32) (fun _ => rfl) rfl rfl) Bors.nil) rfl rfl (i_areFinite_ok a0 r1 hf1)) hc2) rfl ?_
  refine zl (r := b false) (LOp.eqb (LOp.not rfl rfl) rfl) ?_
  refine zN ?_
  refine RunC.cond_false rfl rfl ?_
  refine RunC.skip ?_
  refine zQ ?_
  refine zm (r := oref 0 0 0 a0.length) ?_
  refine za (r := oref 0 0 0 a0.length) ?_
  refine za (r := b true) ?_
  refine zN ?_
  cases Option.some.inj h
 ·refine RunC.regionW ?_
  refine zm (r := oref 0 0 0 a0.length) ?_
  refine ROps.d (r := b false) (fs := []) (Γ' := [⟨0, some (a0.map f32)⟩, ⟨0, none⟩]) rfl rfl rfl (TOp.eqb (TOp.callB (CallAs.func ent74 rfl rfl) (Bors.cons (Bor.own (f := f32) (fun _ => rfl) rfl rfl) Bors.nil) rfl rfl (i_areFinite_ok a0 r1 hf1)) hc2) rfl ?_
  refine zl (r := b true) (LOp.eqb (LOp.not rfl rfl) rfl) ?_
  refine zN ?_
  refine RunC.cond_true rfl rfl ?_
  refine zQ ?_
  refine za (r := nilsl) ?_
  refine za (r := b false) ?_
  refine zN ?_
  refine RunC.nil_slot (Γ' := [⟨0, some (a0.map f32)⟩, ⟨1, some (([] : List F).map f32)⟩]) 2 1 rfl rfl rfl ?_
  refine RunC.ret ?_
  have hq := Option.some.inj h
  have hq := Sum.inr.inj hq
  obtain ⟨hq0, hq⟩ := Prod.mk.inj hq
  obtain ⟨hq1, hq⟩ := Prod.mk.inj hq
  subst q0
  subst q1
  subst q2
  exact bodyQ.mk (r' := tup [oref 1 1 0 (([] : List F).length), b false]) [(0, 0), (1, 1)] (.inr rfl) rfl (show List.Nodup [0, 1] from by decide) rfl rfl (Res.eq (Res.two rfl (RV.tmp rfl) (RV.tmp rfl)) (by rw [(show ([] : List F).length = 0 from rfl)] <;> rfl)) (SelL.arr (f := f32) (fun _ => rfl) rfl (SelL.arr0 (f := f32) (fun _ => rfl) rfl trivial))
noncomputable def i_RootSolve_b1 (a0 : Int) (a1 : Int) (a2 : List F) (L7 : List F) (v9 : Int) : Option (LR ((List F) × Int) ((List F)) (Bool × (List F))) :=
 bsel (decide (v9 < a0)) (
  obind (at? L7 v9) fun (e10 : F) =>
  obind (i_Matrix_lessRow a0 a1 a2 e10 v9 0 v9 L7) fun (r11 : F) =>
  obind (i_Matrix_at a0 a1 a2 v9 v9) fun (r12 : F) =>
  olet (fop .quo .f32 r11 r12) fun (x13 : F) =>
  obind (setAt? L7 v9 x13) fun (L14 : List F) =>
  olet (IntKind.i64.wrap (v9 + 1)) fun (x15 : Int) =>
  some (LR.next (L14, x15))) (
  some (LR.out L7))
noncomputable def i_RootSolve_s1 (a0 : Int) (a1 : Int) (a2 : List F) : ((List F) × Int) → Option (LR ((List F) × Int) ((List F)) (Bool × (List F))) := fun s => i_RootSolve_b1 a0 a1 a2 s.1 s.2
noncomputable def i_RootSolve_b2 (a0 : Int) (a1 : Int) (a2 : List F) (L19 : List F) (v21 : Int) : Option (LR ((List F) × Int) ((List F)) (Bool × (List F))) :=
 bsel (decide (0 ≤ v21)) (
  obind (at? L19 v21) fun (e22 : F) =>
  olet (IntKind.i64.wrap (v21 + 1)) fun (x23 : Int) =>
  obind (i_Matrix_lessColumn a0 a1 a2 e22 v21 x23 a0 L19) fun (r24 : F) =>
  obind (i_Matrix_at a0 a1 a2 v21 v21) fun (r25 : F) =>
  olet (fop .quo .f32 r24 r25) fun (x26 : F) =>
  obind (setAt? L19 v21 x26) fun (L27 : List F) =>
  olet (IntKind.i64.wrap (v21 - 1)) fun (x28 : Int) =>
  some (LR.next (L27, x28))) (
  some (LR.out L19))
noncomputable def i_RootSolve_s2 (a0 : Int) (a1 : Int) (a2 : List F) : ((List F) × Int) → Option (LR ((List F) × Int) ((List F)) (Bool × (List F))) := fun s => i_RootSolve_b2 a0 a1 a2 s.1 s.2
noncomputable def i_RootSolve_k2 (r6 : List F) (L29 : List F) : Option (Bool × (List F)) :=
 obind (i_allFinite_0o L29) (fun z => osum z (fun y => obind2 (some y) fun (r31 : Bool) (r32 : List F) =>
  need (decide (r32.length = r6.length)) <|
  some (r31, r32)) (fun y => obind3 (some y) fun (r33 : Bool) (r34 : List F) (r35 : List F) =>
  need (decide (r34.length = r6.length)) <|
  some (r33, r35)))
noncomputable def i_RootSolve_k1 (a0 : Int) (a1 : Int) (a2 : List F) (r6 : List F) (L16 : List F) : Option (Bool × (List F)) :=
 olet (IntKind.i64.wrap (a0 - 1)) fun (x18 : Int) =>
 obind (loopM (i_RootSolve_s2 a0 a1 a2) (L16, x18)) fun z => osum z (fun e => i_RootSolve_k2 r6 e) (fun r => some r)
noncomputable def i_RootSolve (a0 : Int) (a1 : Int) (a2 : List F) (a3 : List F) : Option (Bool × (List F)) :=
 obind (i_isSquare a0 a1 a2) fun (r1 : Bool) =>
 bsel r1 (
  obind (i_IsVector a3) fun (r2 : Bool) =>
  bsel r2 (
   obind (i_length_float32 a3) fun (r3 : Int) =>
   bsel (!decide (r3 = a0)) (
    some (false, ([] : List F))) (
    obind (i_Matrix_middle a0 a1 a2) fun (r4 : List F) =>
    obind (x_slices_ContainsFunc_float32_float32_1Fi_RootSolve_1 r4) fun (r5 : Bool) =>
    bsel r5 (
     some (false, ([] : List F))) (
     obind (x_slices_Clone_float32_float32 a3) fun (r6 : List F) =>
     obind (loopM (i_RootSolve_s1 a0 a1 a2) (r6, 0)) fun z => osum z (fun e => i_RootSolve_k1 a0 a1 a2 r6 e) (fun r => some r)))) (
   some (false, ([] : List F)))) (
  some (false, ([] : List F)))
theorem i_RootSolve_ok (a0 : Int) (a1 : Int) (a2 : List F) (a3 : List F) (q0 : Bool) (q1 : List F) (h : i_RootSolve a0 a1 a2 a3 = some (q0, q1)) : Ev Try.prog 50 [agg (mXc a0 a1 a2), (sFc a3)] [] (tup [oref 0 0 0 q1.length, b q0]) [⟨0, some (q1.map f32)⟩] := by
 refine Ev.start Try.func50 rfl rfl 2 (τ := [(0, agg (mXc a0 a1 a2)), (1, (sFc a3))]) rfl (Γ' := [⟨0, none⟩, ⟨0, none⟩]) rfl (n := 171) rfl (g := 0) rfl (fun _ => rfl) ?_
 unfold i_RootSolve at h
 refine zQ ?_
 refine ROps.d (r := ptr (mXc a0 a1 a2)) (fs := []) (Γ' := [⟨0, none⟩, ⟨0, none⟩]) rfl rfl rfl (TOp.box_s rfl rfl rfl) rfl ?_
 refine za (r := nilsl) ?_
 refine za (r := b false) ?_
 refine zN ?_
 iterate 2 (refine RunC.seq ?_)
 obtain ⟨r1, hf1, h⟩ := obind_some h
 rcases bsel_some h with ⟨hc2, h⟩ | ⟨hc2, h⟩
 ·obtain ⟨r2, hf3, h⟩ := obind_some h
  rcases bsel_some h with ⟨hc4, h⟩ | ⟨hc4, h⟩
  ·obtain ⟨r3, hf5, h⟩ := obind_some h
   rcases bsel_some h with ⟨hc6, h⟩ | ⟨hc6, h⟩
   ·refine RunC.region_draw (Γ' := [⟨0, none⟩, ⟨0, none⟩]) 20 mixed 
     (TR.l (r := agg (mXc a0 a1 a2)) rfl rfl (LOp.loadAgg agg33 siz33 rfl rfl rfl rfl) <|
     (TR.d (r := b true) (fs := []) rfl rfl (TOp.eqb (TOp.callB (CallAs.func ent91 rfl rfl) (Bors.cons (Bor.agg (Bors.cons (Bor.pure rfl) (Bors.cons (Bor.pure rfl) (Bors.cons (Bor.sl (fun _ => rfl)) Bors.nil)))) Bors.nil) rfl rfl (i_isSquare_ok a0 a1 a2 r1 hf1)) hc2) <|
     (TR.l (r := b false) rfl rfl (LOp.eqb (LOp.not rfl rfl) rfl) <|
     (TR.l (r := b false) rfl rfl (LOp.move rfl rfl) <|
     (TR.l (r := (sFc a3)) rfl rfl (LOp.move rfl rfl) <|
     (TR.d (r := b true) (fs := []) rfl rfl (TOp.eqb (TOp.callB (CallAs.func ent120 rfl rfl) (Bors.cons (Bor.sl (fun _ => rfl)) Bors.nil) rfl rfl (i_IsVector_ok a3 r2 hf3)) hc4) <|
     (TR.l (r := b false) rfl rfl (LOp.eqb (LOp.not rfl rfl) rfl) <|
     (TR.l (r := b false) rfl rfl (LOp.pick_false rfl rfl rfl) <|
     (TR.l (r := b false) rfl rfl (LOp.move rfl rfl) <|
     (TR.l (r := (sFc a3)) rfl rfl (LOp.move rfl rfl) <|
     (TR.d (r := i64 r3) (fs := []) rfl rfl (TOp.callB (CallAs.func ent62 rfl rfl) (Bors.cons (Bor.sl (fun _ => rfl)) Bors.nil) rfl rfl (i_length_float32_ok a3 r3 hf5)) <|
     (TR.l (r := ptr (mXc a0 a1 a2)) rfl rfl (LOp.fap und33 rfl siz2 rfl rfl rfl) <|
     (TR.l (r := i64 a0) rfl rfl (LOp.load1 agg2 rfl rfl) <|
     (TR.l (r := b true) rfl rfl (LOp.eqb (LOp.neq rfl rfl rfl) hc6) <|
     (TR.l (r := b true) rfl rfl (LOp.pick_false rfl rfl rfl) <|
     (TR.l (r := b true) rfl rfl (LOp.move rfl rfl) <|
     (TR.s rfl rfl <|
     (TR.s rfl rfl <|
     (TR.s rfl rfl <|
     (TR.l (r := b true) rfl rfl (LOp.pick_true rfl rfl rfl) <|
     TR.nil)))))))))))))))))))) rfl (by kernel_rfl) rfl fills_nil rfl ?_
    iterate 20 refine ROps.dropS ?_
    refine ROps.drop0 ?_
    refine zN ?_
    refine RunC.wl (τ' := [(1, (sFc a3)), (2, ptr (mXc a0 a1 a2)), (29, b true)]) (Γ' := [⟨0, none⟩, ⟨0, none⟩]) ⟨aR, aR, aR, trivial⟩ ⟨⟨rfl, .inr rfl⟩, ⟨rfl, .inr rfl⟩, trivial⟩ ?_
    refine RunC.cond_true rfl rfl ?_
    refine zQ ?_
    refine za (r := nilsl) ?_
    refine za (r := b false) ?_
    refine zN ?_
    refine RunC.nil_slot (Γ' := [⟨1, some (([] : List F).map f32)⟩, ⟨0, none⟩]) 4 0 rfl rfl rfl ?_
    refine RunC.ret ?_
    have hq := Option.some.inj h
    obtain ⟨hq0, hq⟩ := Prod.mk.inj hq
    subst q0
    subst q1
    exact bodyQ.mk (r' := tup [oref 0 1 0 (([] : List F).length), b false]) [(0, 1)] (.inr rfl) rfl (show List.Nodup [0] from by decide) rfl rfl (Res.eq (Res.two rfl (RV.tmp rfl) (RV.tmp rfl)) (by rw [(show ([] : List F).length = 0 from rfl)] <;> rfl)) (SelL.arr0 (f := f32) (fun _ => rfl) rfl trivial)
   ·obtain ⟨r4, hf7, h⟩ := obind_some h
    obtain ⟨r5, hf8, h⟩ := obind_some h
    rcases bsel_some h with ⟨hc9, h⟩ | ⟨hc9, h⟩
    ·refine RunC.region_draw (Γ' := [⟨0, none⟩, ⟨0, none⟩]) 20 mixed 
      (TR.l (r := agg (mXc a0 a1 a2)) rfl rfl (LOp.loadAgg agg33 siz33 rfl rfl rfl rfl) <|
      (TR.d (r := b true) (fs := []) rfl rfl (TOp.eqb (TOp.callB (CallAs.func ent91 rfl rfl) (Bors.cons (Bor.agg (Bors.cons (Bor.pure rfl) (Bors.cons (Bor.pure rfl) (Bors.cons (Bor.sl (fun _ => rfl)) Bors.nil)))) Bors.nil) rfl rfl (i_isSquare_ok a0 a1 a2 r1 hf1)) hc2) <|
      (TR.l (r := b false) rfl rfl (LOp.eqb (LOp.not rfl rfl) rfl) <|
      (TR.l (r := b false) rfl rfl (LOp.move rfl rfl) <|
      (TR.l (r := (sFc a3)) rfl rfl (LOp.move rfl rfl) <|
      (TR.d (r := b true) (fs := []) rfl rfl (TOp.eqb (TOp.callB (CallAs.func ent120 rfl rfl) (Bors.cons (Bor.sl (fun _ => rfl)) Bors.nil) rfl rfl (i_IsVector_ok a3 r2 hf3)) hc4) <|
      (TR.l (r := b false) rfl rfl (LOp.eqb (LOp.not rfl rfl) rfl) <|
      (TR.l (r := b false) rfl rfl (LOp.pick_false rfl rfl rfl) <|
      (TR.l (r := b false) rfl rfl (LOp.move rfl rfl) <|
      (TR.l (r := (sFc a3)) rfl rfl (LOp.move rfl rfl) <|
      (TR.d (r := i64 r3) (fs := []) rfl rfl (TOp.callB (CallAs.func ent62 rfl rfl) (Bors.cons (Bor.sl (fun _ => rfl)) Bors.nil) rfl rfl (i_length_float32_ok a3 r3 hf5)) <|
      (TR.l (r := ptr (mXc a0 a1 a2)) rfl rfl (LOp.fap und33 rfl siz2 rfl rfl rfl) <|
      (TR.l (r := i64 a0) rfl rfl (LOp.load1 agg2 rfl rfl) <|
      (TR.l (r := b false) rfl rfl (LOp.eqb (LOp.neq rfl rfl rfl) hc6) <|
      (TR.l (r := b false) rfl rfl (LOp.pick_false rfl rfl rfl) <|
      (TR.l (r := b false) rfl rfl (LOp.move rfl rfl) <|
      (TR.l (r := agg (mXc a0 a1 a2)) rfl rfl (LOp.loadAgg agg33 siz33 rfl rfl rfl rfl) <|
      (TR.d (r := (sFc r4)) (fs := []) rfl rfl (TOp.callS (CallAs.func ent122 rfl rfl) (ALes.cons aR ALes.nil) (lts_cons (lt_agg (lts_cons rfl (lts_cons rfl (lts_cons (lt_sl (fun _ => rfl)) lts_nil)))) lts_nil) (lt_sl (fun _ => rfl)) (i_Matrix_middle_ok a0 a1 a2 r4 hf7) (Bor.own (f := f32) (fun _ => rfl) rfl rfl)) <|
      (TR.d (r := b true) (fs := []) rfl rfl (TOp.eqb (TOp.callB (CallAs.func ent121 rfl rfl) (Bors.cons (Bor.sl (fun _ => rfl)) (Bors.cons (Bor.fn Bors.nil Bors.nil) Bors.nil)) rfl rfl (x_slices_ContainsFunc_float32_float32_1Fi_RootSolve_1_ok r4 r5 hf8)) hc9) <|
      (TR.l (r := b true) rfl rfl (LOp.pick_false rfl rfl rfl) <|
      TR.nil)))))))))))))))))))) rfl (by kernel_rfl) rfl fills_nil rfl ?_
     iterate 20 refine ROps.dropS ?_
     refine ROps.drop0 ?_
     refine zN ?_
     refine RunC.wl (τ' := [(1, (sFc a3)), (2, ptr (mXc a0 a1 a2)), (29, b true)]) (Γ' := [⟨0, none⟩, ⟨0, none⟩]) ⟨aR, aR, aR, trivial⟩ ⟨⟨rfl, .inr rfl⟩, ⟨rfl, .inr rfl⟩, trivial⟩ ?_
     refine RunC.cond_true rfl rfl ?_
     refine zQ ?_
     refine za (r := nilsl) ?_
     refine za (r := b false) ?_
     refine zN ?_
     refine RunC.nil_slot (Γ' := [⟨1, some (([] : List F).map f32)⟩, ⟨0, none⟩]) 4 0 rfl rfl rfl ?_
     refine RunC.ret ?_
     have hq := Option.some.inj h
     obtain ⟨hq0, hq⟩ := Prod.mk.inj hq
     subst q0
     subst q1
     exact bodyQ.mk (r' := tup [oref 0 1 0 (([] : List F).length), b false]) [(0, 1)] (.inr rfl) rfl (show List.Nodup [0] from by decide) rfl rfl (Res.eq (Res.two rfl (RV.tmp rfl) (RV.tmp rfl)) (by rw [(show ([] : List F).length = 0 from rfl)] <;> rfl)) (SelL.arr0 (f := f32) (fun _ => rfl) rfl trivial)
    ·refine RunC.region_draw (Γ' := [⟨0, none⟩, ⟨0, none⟩]) 20 mixed 
      (TR.l (r := agg (mXc a0 a1 a2)) rfl rfl (LOp.loadAgg agg33 siz33 rfl rfl rfl rfl) <|
      (TR.d (r := b true) (fs := []) rfl rfl (TOp.eqb (TOp.callB (CallAs.func ent91 rfl rfl) (Bors.cons (Bor.agg (Bors.cons (Bor.pure rfl) (Bors.cons (Bor.pure rfl) (Bors.cons (Bor.sl (fun _ => rfl)) Bors.nil)))) Bors.nil) rfl rfl (i_isSquare_ok a0 a1 a2 r1 hf1)) hc2) <|
      (TR.l (r := b false) rfl rfl (LOp.eqb (LOp.not rfl rfl) rfl) <|
      (TR.l (r := b false) rfl rfl (LOp.move rfl rfl) <|
      (TR.l (r := (sFc a3)) rfl rfl (LOp.move rfl rfl) <|
      (TR.d (r := b true) (fs := []) rfl rfl (TOp.eqb (TOp.callB (CallAs.func ent120 rfl rfl) (Bors.cons (Bor.sl (fun _ => rfl)) Bors.nil) rfl rfl (i_IsVector_ok a3 r2 hf3)) hc4) <|
      (TR.l (r := b false) rfl rfl (LOp.eqb (LOp.not rfl rfl) rfl) <|
      (TR.l (r := b false) rfl rfl (LOp.pick_false rfl rfl rfl) <|
      (TR.l (r := b false) rfl rfl (LOp.move rfl rfl) <|
      (TR.l (r := (sFc a3)) rfl rfl (LOp.move rfl rfl) <|
      (TR.d (r := i64 r3) (fs := []) rfl rfl (TOp.callB (CallAs.func ent62 rfl rfl) (Bors.cons (Bor.sl (fun _ => rfl)) Bors.nil) rfl rfl (i_length_float32_ok a3 r3 hf5)) <|
      (TR.l (r := ptr (mXc a0 a1 a2)) rfl rfl (LOp.fap und33 rfl siz2 rfl rfl rfl) <|
      (TR.l (r := i64 a0) rfl rfl (LOp.load1 agg2 rfl rfl) <|
      (TR.l (r := b false) rfl rfl (LOp.eqb (LOp.neq rfl rfl rfl) hc6) <|
      (TR.l (r := b false) rfl rfl (LOp.pick_false rfl rfl rfl) <|
      (TR.l (r := b false) rfl rfl (LOp.move rfl rfl) <|
      (TR.l (r := agg (mXc a0 a1 a2)) rfl rfl (LOp.loadAgg agg33 siz33 rfl rfl rfl rfl) <|
      (TR.d (r := (sFc r4)) (fs := []) rfl rfl (TOp.callS (CallAs.func ent122 rfl rfl) (ALes.cons aR ALes.nil) (lts_cons (lt_agg (lts_cons rfl (lts_cons rfl (lts_cons (lt_sl (fun _ => rfl)) lts_nil)))) lts_nil) (lt_sl (fun _ => rfl)) (i_Matrix_middle_ok a0 a1 a2 r4 hf7) (Bor.own (f := f32) (fun _ => rfl) rfl rfl)) <|
      (TR.d (r := b false) (fs := []) rfl rfl (TOp.eqb (TOp.callB (CallAs.func ent121 rfl rfl) (Bors.cons (Bor.sl (fun _ => rfl)) (Bors.cons (Bor.fn Bors.nil Bors.nil) Bors.nil)) rfl rfl (x_slices_ContainsFunc_float32_float32_1Fi_RootSolve_1_ok r4 r5 hf8)) hc9) <|
      (TR.l (r := b false) rfl rfl (LOp.pick_false rfl rfl rfl) <|
      TR.nil)))))))))))))))))))) rfl (by kernel_rfl) rfl fills_nil rfl ?_
     iterate 20 refine ROps.dropS ?_
     refine ROps.drop0 ?_
     refine zN ?_
     refine RunC.wl (τ' := [(1, (sFc a3)), (2, ptr (mXc a0 a1 a2)), (29, b false)]) (Γ' := [⟨0, none⟩, ⟨0, none⟩]) ⟨aR, aR, aR, trivial⟩ ⟨⟨rfl, .inr rfl⟩, ⟨rfl, .inr rfl⟩, trivial⟩ ?_
     refine RunC.cond_false rfl rfl ?_
     refine RunC.skip ?_
     refine RunC.seq ?_
     obtain ⟨r6, hf10, h⟩ := obind_some h
     refine RunC.region_draw (Γ' := [⟨1, some (r6.map f32)⟩, ⟨0, none⟩]) 6 mixed 
      (TR.l (r := ptr (mXc a0 a1 a2)) rfl rfl (LOp.fap und33 rfl siz2 rfl rfl rfl) <|
      (TR.l (r := i64 a0) rfl rfl (LOp.load1 agg2 rfl rfl) <|
      (TR.l (r := (sFc a3)) rfl rfl (LOp.move rfl rfl) <|
      (TR.d (r := oref 0 1 0 r6.length) (fs := [(0, (r6.map f32))]) rfl rfl (TOp.callBN (ls := [(r6.map f32)]) [0] (CallAs.func ent82 rfl rfl) (Bors.cons (Bor.sl (fun _ => rfl)) Bors.nil) rfl (x_slices_Clone_float32_float32_ok a3 r6 hf10) (and_all (lts0_map (f := f32) (fun _ => rfl) _) rfl) (and_all (noss_map (f := f32) (fun _ => rfl) _) rfl) rfl (by decide) (ns_of ⟨⟨_, rfl⟩, trivial⟩)) <|
      (TR.l (r := i64 a0) rfl rfl (LOp.assign rfl rfl) <|
      (TR.l (r := oref 0 1 0 r6.length) rfl rfl (LOp.assign rfl rfl) <|
      TR.nil)))))) rfl (by kernel_rfl) rfl (fills_of (by show List.Nodup [0]; decide) ⟨⟨_, rfl⟩, trivial⟩) rfl ?_
     iterate 6 refine ROps.dropS ?_
     refine ROps.drop0 ?_
     refine zN ?_
     refine RunC.seq ?_
     refine zQ ?_
     refine zm (r := i64 a0) ?_
     refine zm (r := i64 0) ?_
     refine zN ?_
     obtain ⟨z3, hz_3, h⟩ := obind_some h
     refine RunC.cutN (fun τ Γ => ∃ (L16 : List F), L16.length = r6.length ∧ WeakLe τ [(2, ptr (mXc a0 a1 a2)), (6, i64 a0), (7, oref 0 1 0 r6.length)] ∧ DeadLe Γ [⟨1, some (L16.map f32)⟩, ⟨0, none⟩] ∧ z3 = .inl L16) ?_ ?_
     ·refine RunC.block (RunC.loop (RunL.loopM (x := z3) (i_RootSolve_s1 a0 a1 a2) (fun (s : (List F) × Int) τ Γ => s.1.length = r6.length ∧ WeakLe τ [(2, ptr (mXc a0 a1 a2)), (6, i64 a0), (7, oref 0 1 0 r6.length), (34, i64 a0), (35, i64 s.2)] ∧ DeadLe Γ [⟨1, some (s.1.map f32)⟩, ⟨0, none⟩]) ?_ _ _ _ hz_3 ⟨rfl, ⟨aR, aR, aR, aR, aR, trivial⟩, ⟨⟨rfl, .inr rfl⟩, ⟨rfl, .inr rfl⟩, trivial⟩⟩))
      rintro ⟨L7, v9⟩ τ3 Γ3 y3_ ⟨hl8, hw3, hd3⟩ h3_ ho3 hr3
      refine RunC.wl (τ' := [(2, ptr (mXc a0 a1 a2)), (6, i64 a0), (7, oref 0 1 0 r6.length), (34, i64 a0), (35, i64 v9)]) (Γ' := [⟨1, some (L7.map f32)⟩, ⟨0, none⟩]) hw3 hd3 ?_
      replace hl8 : L7.length = r6.length := hl8
      replace h3_ : i_RootSolve_b1 a0 a1 a2 L7 v9 = some y3_ := h3_
      unfold i_RootSolve_b1 at h3_
      refine RunC.seq ?_
      rcases bsel_some h3_ with ⟨hc11, h3_⟩ | ⟨hc11, h3_⟩
      ·refine RunC.regionW ?_
       refine zl (r := b true) (LOp.eqb (LOp.lss rfl rfl rfl) hc11) ?_
       refine zN ?_
       refine RunC.seq ?_
       refine RunC.cond_true rfl rfl ?_
       refine RunC.skip ?_
       refine RunC.seq ?_
       refine RunC.block ?_
       refine zQ ?_
       refine zm (r := i64 v9) ?_
       refine za (r := i64 v9) ?_
       refine zN ?_
       obtain ⟨e10, he12, h3_⟩ := obind_some h3_
       obtain ⟨r11, hf13, h3_⟩ := obind_some h3_
       obtain ⟨r12, hf14, h3_⟩ := obind_some h3_
       obtain ⟨x13, hx15, h3_⟩ := olet_some h3_
       obtain ⟨L14, he16, h3_⟩ := obind_some h3_
       refine RunC.region_draw (Γ' := [⟨1, some (L7.map f32)⟩, ⟨0, none⟩]) 17 mixed 
        (TR.l (r := oref 0 1 0 r6.length) rfl rfl (LOp.move rfl rfl) <|
        (TR.l (r := i64 v9) rfl rfl (LOp.move rfl rfl) <|
        (TR.l (r := agg (mXc a0 a1 a2)) rfl rfl (LOp.loadAgg agg33 siz33 rfl rfl rfl rfl) <|
        (TR.l (r := oref 0 1 0 r6.length) rfl rfl (LOp.move rfl rfl) <|
        (TR.l (r := i64 v9) rfl rfl (LOp.move rfl rfl) <|
        (TR.d (r := optr 0 1 v9.toNat) (fs := []) rfl rfl (TOp.ixo und26 siz28 rfl rfl rfl (at_in he12 hl8) rfl) <|
        (TR.d (r := f32 e10) (fs := []) rfl rfl (TOp.load1_o rfl (at_cell he12) agg28 rfl rfl) <|
        (TR.l (r := i64 v9) rfl rfl (LOp.move rfl rfl) <|
        (TR.l (r := i64 v9) rfl rfl (LOp.move rfl rfl) <|
        (TR.l (r := oref 0 1 0 r6.length) rfl rfl (LOp.move rfl rfl) <|
        (TR.d (r := f32 r11) (fs := []) rfl rfl (TOp.callB (CallAs.func ent124 rfl rfl) (Bors.cons (Bor.agg (Bors.cons (Bor.pure rfl) (Bors.cons (Bor.pure rfl) (Bors.cons (Bor.sl (fun _ => rfl)) Bors.nil)))) (Bors.cons (Bor.pure rfl) (Bors.cons (Bor.pure rfl) (Bors.cons (Bor.pure rfl) (Bors.cons (Bor.pure rfl) (Bors.cons (Bor.own (f := f32) (fun _ => rfl) rfl hl8) Bors.nil)))))) rfl rfl (i_Matrix_lessRow_ok a0 a1 a2 e10 v9 0 v9 L7 r11 hf13)) <|
        (TR.l (r := agg (mXc a0 a1 a2)) rfl rfl (LOp.loadAgg agg33 siz33 rfl rfl rfl rfl) <|
        (TR.l (r := i64 v9) rfl rfl (LOp.move rfl rfl) <|
        (TR.l (r := i64 v9) rfl rfl (LOp.move rfl rfl) <|
        (TR.d (r := f32 r12) (fs := []) rfl rfl (TOp.callB (CallAs.func ent94 rfl rfl) (Bors.cons (Bor.agg (Bors.cons (Bor.pure rfl) (Bors.cons (Bor.pure rfl) (Bors.cons (Bor.sl (fun _ => rfl)) Bors.nil)))) (Bors.cons (Bor.pure rfl) (Bors.cons (Bor.pure rfl) Bors.nil))) rfl rfl (i_Matrix_at_ok a0 a1 a2 v9 v9 r12 hf14)) <|
        (TR.d (r := f32 x13) (fs := []) rfl rfl (TOp.eqr (TOp.fop (.inr (.inr (.inr rfl))) rfl (OpF.tmp rfl) (OpF.tmp rfl)) (congrArg (f .f32) hx15)) <|
        (TR.d (r := optr 0 1 v9.toNat) (fs := []) rfl rfl (TOp.ixo und26 siz28 rfl rfl rfl (set_in he16 hl8) rfl) <|
        TR.nil))))))))))))))))) rfl (by kernel_rfl) rfl fills_nil rfl ?_
       iterate 17 refine ROps.dropS ?_
       refine ROps.drop0 ?_
       refine ROps.st (f := f32) (i := v9) (Γ' := [⟨1, some (L14.map f32)⟩, ⟨0, none⟩]) rfl siz28 rfl rfl rfl aR rfl rfl rfl he16 rfl ?_
       refine zN ?_
       refine RunC.wl (τ' := [(2, ptr (mXc a0 a1 a2)), (6, i64 a0), (7, oref 0 1 0 r6.length), (34, i64 a0), (35, i64 v9)]) (Γ' := [⟨1, some (L14.map f32)⟩, ⟨0, none⟩]) ⟨aR, aR, aR, aR, aR, trivial⟩ ⟨⟨rfl, .inr rfl⟩, ⟨rfl, .inr rfl⟩, trivial⟩ ?_
       obtain ⟨x15, hx17, h3_⟩ := olet_some h3_
       refine RunC.regionW ?_
       refine zl (r := i64 x15) (LOp.eqr (LOp.add rfl rfl rfl) (congrArg (ik .i64) hx17)) ?_
       refine zm (r := i64 x15) ?_
       refine zN ?_
       cases Option.some.inj h3_
       exact ⟨_, rfl, ((setAt?_len he16).trans hl8), ⟨aR, aR, aR, aR, aR, trivial⟩, ⟨⟨rfl, .inr rfl⟩, ⟨rfl, .inr rfl⟩, trivial⟩⟩
      ·refine RunC.regionW ?_
       refine zl (r := b false) (LOp.eqb (LOp.lss rfl rfl rfl) hc11) ?_
       refine zN ?_
       refine RunC.seq ?_
       refine RunC.cond_false rfl rfl ?_
       refine RunC.exit ?_
       cases Option.some.inj h3_
       have hx := ho3 _ rfl
       exact ⟨L7, hl8, ⟨aR, aR, aR, trivial⟩, ⟨⟨rfl, .inr rfl⟩, ⟨rfl, .inr rfl⟩, trivial⟩, hx⟩
     ·rintro τ4 Γ4 ⟨L16, hl17, hw4, hd4, rfl⟩
      refine RunC.wl hw4 hd4 ?_
      replace h : i_RootSolve_k1 a0 a1 a2 r6 L16 = some (q0, q1) := h
      unfold i_RootSolve_k1 at h
      iterate 2 (refine RunC.seq ?_)
      obtain ⟨x18, hx18, h⟩ := olet_some h
      refine RunC.regionW ?_
      refine zm (r := i64 a0) ?_
      refine zl (r := i64 x18) (LOp.eqr (LOp.sub rfl rfl rfl) (congrArg (ik .i64) hx18)) ?_
      refine za (r := i64 x18) ?_
      refine zN ?_
      obtain ⟨z5, hz_5, h⟩ := obind_some h
      refine RunC.cutN (fun τ Γ => ∃ (L29 : List F), L29.length = r6.length ∧ WeakLe τ [(7, oref 0 1 0 r6.length)] ∧ DeadLe Γ [⟨1, some (L29.map f32)⟩, ⟨0, none⟩] ∧ z5 = .inl L29) ?_ ?_
      ·refine RunC.block (RunC.loop (RunL.loopM (x := z5) (i_RootSolve_s2 a0 a1 a2) (fun (s : (List F) × Int) τ Γ => s.1.length = r6.length ∧ WeakLe τ [(2, ptr (mXc a0 a1 a2)), (6, i64 a0), (7, oref 0 1 0 r6.length), (9, i64 s.2)] ∧ DeadLe Γ [⟨1, some (s.1.map f32)⟩, ⟨0, none⟩]) ?_ _ _ _ hz_5 ⟨hl17, ⟨aR, aR, aR, aR, trivial⟩, ⟨⟨rfl, .inr rfl⟩, ⟨rfl, .inr rfl⟩, trivial⟩⟩))
       rintro ⟨L19, v21⟩ τ5 Γ5 y5_ ⟨hl20, hw5, hd5⟩ h5_ ho5 hr5
       refine RunC.wl (τ' := [(2, ptr (mXc a0 a1 a2)), (6, i64 a0), (7, oref 0 1 0 r6.length), (9, i64 v21)]) (Γ' := [⟨1, some (L19.map f32)⟩, ⟨0, none⟩]) hw5 hd5 ?_
       replace hl20 : L19.length = r6.length := hl20
       replace h5_ : i_RootSolve_b2 a0 a1 a2 L19 v21 = some y5_ := h5_
       unfold i_RootSolve_b2 at h5_
       iterate 2 (refine RunC.seq ?_)
       rcases bsel_some h5_ with ⟨hc19, h5_⟩ | ⟨hc19, h5_⟩
       ·refine RunC.regionW ?_
        refine zm (r := i64 v21) ?_
        refine zl (r := b true) (LOp.eqb (LOp.geq rfl rfl rfl) hc19) ?_
        refine zN ?_
        refine RunC.cond_true rfl rfl ?_
        refine RunC.skip ?_
        refine RunC.seq ?_
        refine RunC.block ?_
        obtain ⟨e22, he20, h5_⟩ := obind_some h5_
        obtain ⟨x23, hx21, h5_⟩ := olet_some h5_
        obtain ⟨r24, hf22, h5_⟩ := obind_some h5_
        obtain ⟨r25, hf23, h5_⟩ := obind_some h5_
        obtain ⟨x26, hx24, h5_⟩ := olet_some h5_
        obtain ⟨L27, he25, h5_⟩ := obind_some h5_
        refine RunC.region_draw (Γ' := [⟨1, some (L19.map f32)⟩, ⟨0, none⟩]) 19 mixed 
         (TR.l (r := oref 0 1 0 r6.length) rfl rfl (LOp.move rfl rfl) <|
         (TR.l (r := i64 v21) rfl rfl (LOp.move rfl rfl) <|
         (TR.l (r := agg (mXc a0 a1 a2)) rfl rfl (LOp.loadAgg agg33 siz33 rfl rfl rfl rfl) <|
         (TR.l (r := oref 0 1 0 r6.length) rfl rfl (LOp.move rfl rfl) <|
         (TR.l (r := i64 v21) rfl rfl (LOp.move rfl rfl) <|
         (TR.d (r := optr 0 1 v21.toNat) (fs := []) rfl rfl (TOp.ixo und26 siz28 rfl rfl rfl (at_in he20 hl20) rfl) <|
         (TR.d (r := f32 e22) (fs := []) rfl rfl (TOp.load1_o rfl (at_cell he20) agg28 rfl rfl) <|
         (TR.l (r := i64 v21) rfl rfl (LOp.move rfl rfl) <|
         (TR.l (r := i64 v21) rfl rfl (LOp.move rfl rfl) <|
         (TR.l (r := i64 x23) rfl rfl (LOp.eqr (LOp.add rfl rfl rfl) (congrArg (ik .i64) hx21)) <|
         (TR.l (r := i64 a0) rfl rfl (LOp.move rfl rfl) <|
         (TR.l (r := oref 0 1 0 r6.length) rfl rfl (LOp.move rfl rfl) <|
         (TR.d (r := f32 r24) (fs := []) rfl rfl (TOp.callB (CallAs.func ent125 rfl rfl) (Bors.cons (Bor.agg (Bors.cons (Bor.pure rfl) (Bors.cons (Bor.pure rfl) (Bors.cons (Bor.sl (fun _ => rfl)) Bors.nil)))) (Bors.cons (Bor.pure rfl) (Bors.cons (Bor.pure rfl) (Bors.cons (Bor.pure rfl) (Bors.cons (Bor.pure rfl) (Bors.cons (Bor.own (f := f32) (fun _ => rfl) rfl hl20) Bors.nil)))))) rfl rfl (i_Matrix_lessColumn_ok a0 a1 a2 e22 v21 x23 a0 L19 r24 hf22)) <|
         (TR.l (r := agg (mXc a0 a1 a2)) rfl rfl (LOp.loadAgg agg33 siz33 rfl rfl rfl rfl) <|
         (TR.l (r := i64 v21) rfl rfl (LOp.move rfl rfl) <|
         (TR.l (r := i64 v21) rfl rfl (LOp.move rfl rfl) <|
         (TR.d (r := f32 r25) (fs := []) rfl rfl (TOp.callB (CallAs.func ent94 rfl rfl) (Bors.cons (Bor.agg (Bors.cons (Bor.pure rfl) (Bors.cons (Bor.pure rfl) (Bors.cons (Bor.sl (fun _ => rfl)) Bors.nil)))) (Bors.cons (Bor.pure rfl) (Bors.cons (Bor.pure rfl) Bors.nil))) rfl rfl (i_Matrix_at_ok a0 a1 a2 v21 v21 r25 hf23)) <|
         (TR.d (r := f32 x26) (fs := []) rfl rfl (TOp.eqr (TOp.fop (.inr (.inr (.inr rfl))) rfl (OpF.tmp rfl) (OpF.tmp rfl)) (congrArg (f .f32) hx24)) <|
         (TR.d (r := optr 0 1 v21.toNat) (fs := []) rfl rfl (TOp.ixo und26 siz28 rfl rfl rfl (set_in he25 hl20) rfl) <|
         TR.nil))))))))))))))))))) rfl (by kernel_rfl) rfl fills_nil rfl ?_
        iterate 19 refine ROps.dropS ?_
        refine ROps.drop0 ?_
        refine ROps.st (f := f32) (i := v21) (Γ' := [⟨1, some (L27.map f32)⟩, ⟨0, none⟩]) rfl siz28 rfl rfl rfl aR rfl rfl rfl he25 rfl ?_
        refine zN ?_
        refine RunC.wl (τ' := [(2, ptr (mXc a0 a1 a2)), (6, i64 a0), (7, oref 0 1 0 r6.length), (9, i64 v21)]) (Γ' := [⟨1, some (L27.map f32)⟩, ⟨0, none⟩]) ⟨aR, aR, aR, aR, trivial⟩ ⟨⟨rfl, .inr rfl⟩, ⟨rfl, .inr rfl⟩, trivial⟩ ?_
        obtain ⟨x28, hx26, h5_⟩ := olet_some h5_
        refine RunC.regionW ?_
        refine zm (r := i64 v21) ?_
        refine zl (r := i64 x28) (LOp.eqr (LOp.sub rfl rfl rfl) (congrArg (ik .i64) hx26)) ?_
        refine za (r := i64 x28) ?_
        refine zN ?_
        cases Option.some.inj h5_
        exact ⟨_, rfl, ((setAt?_len he25).trans hl20), ⟨aR, aR, aR, aR, trivial⟩, ⟨⟨rfl, .inr rfl⟩, ⟨rfl, .inr rfl⟩, trivial⟩⟩
       ·refine RunC.regionW ?_
        refine zm (r := i64 v21) ?_
        refine zl (r := b false) (LOp.eqb (LOp.geq rfl rfl rfl) hc19) ?_
        refine zN ?_
        refine RunC.cond_false rfl rfl ?_
        refine RunC.exit ?_
        cases Option.some.inj h5_
        have hx := ho5 _ rfl
        exact ⟨L19, hl20, ⟨aR, trivial⟩, ⟨⟨rfl, .inr rfl⟩, ⟨rfl, .inr rfl⟩, trivial⟩, hx⟩
      ·rintro τ6 Γ6 ⟨L29, hl30, hw6, hd6, rfl⟩
       refine RunC.wl hw6 hd6 ?_
       replace h : i_RootSolve_k2 r6 L29 = some (q0, q1) := h
       unfold i_RootSolve_k2 at h
       refine RunC.seq ?_
       obtain ⟨z7, hf27, h⟩ := obind_some h
       rcases z7 with z7 | z7
       ·replace h := (osum_inl _ _ _).symm.trans h
        obtain ⟨r31, r32, hz8, h⟩ := obind2_some h
        cases hz8
        obtain ⟨hn28, h⟩ := need_some h
        refine RunC.regionW ?_
        refine zm (r := oref 0 1 0 r6.length) ?_
        refine ROps.callO (A := [oref 0 1 0 r6.length]) (args := [oref 0 0 0 L29.length]) (Γc := [⟨0, some (L29.map f32)⟩]) (Γc' := [⟨0, some (r32.map f32)⟩]) (r' := tup [oref 0 1 0 r6.length, b r31]) (Γ' := [⟨1, some (r32.map f32)⟩, ⟨0, none⟩]) [(0, 1)] [] rfl (CallAs.func ent77 rfl rfl) rfl rfl (SelOk.of (show List.Nodup [0] from by decide) (SelL.arr0 (f := f32) (fun _ => rfl) rfl trivial)) (live_of ⟨⟨_, _, rfl⟩, trivial⟩) (by simp [ren, rens, sigma, rens_f32, rens_f64, rens_i64, rens_ik, rens_str, rens_cp, hl30]) rfl (i_allFinite_0o_ok0 L29 r31 r32 hf27) rfl (news_of trivial) (show List.Nodup [0] from by decide) (by simp [ren, rens, sigma, of_decide_eq_true hn28]) (by simp [backOb, sigma, ren, rens, rens_f32, rens_f64, rens_i64, rens_ik, rens_str, rens_cp]) ?_
        refine zl (r := oref 0 1 0 r6.length) (LOp.extract rfl rfl rfl) ?_
        refine zl (r := b r31) (LOp.extract rfl rfl rfl) ?_
        refine za (r := oref 0 1 0 r6.length) ?_
        refine za (r := b r31) ?_
        refine zN ?_
        refine RunC.ret ?_
        have hq := Option.some.inj h
        obtain ⟨hq0, hq⟩ := Prod.mk.inj hq
        subst q0
        subst q1
        exact bodyQ.mk (r' := tup [oref 0 1 0 r32.length, b r31]) [(0, 1)] (.inr rfl) rfl (show List.Nodup [0] from by decide) rfl rfl (Res.eq (Res.two rfl (RV.tmp rfl) (RV.tmp rfl)) (by rw [(show r32.length = r6.length from (of_decide_eq_true hn28))] <;> rfl)) (SelL.arr0 (f := f32) (fun _ => rfl) rfl trivial)
       ·replace h := (osum_inr _ _ _).symm.trans h
        obtain ⟨r33, r34, r35, hz9, h⟩ := obind3_some h
        cases hz9
        obtain ⟨hn29, h⟩ := need_some h
        refine RunC.regionW ?_
        refine zm (r := oref 0 1 0 r6.length) ?_
        refine ROps.callO (A := [oref 0 1 0 r6.length]) (args := [oref 0 0 0 L29.length]) (Γc := [⟨0, some (L29.map f32)⟩]) (Γc' := [⟨0, some (r34.map f32)⟩, ⟨0, some (r35.map f32)⟩]) (r' := tup [oref 1 1 0 r35.length, b r33]) (Γ' := [⟨1, some (r34.map f32)⟩, ⟨1, some (r35.map f32)⟩]) [(0, 1)] [(1, 1)] rfl (CallAs.func ent77 rfl rfl) rfl rfl (SelOk.of (show List.Nodup [0] from by decide) (SelL.arr0 (f := f32) (fun _ => rfl) rfl trivial)) (live_of ⟨⟨_, _, rfl⟩, trivial⟩) (by simp [ren, rens, sigma, rens_f32, rens_f64, rens_i64, rens_ik, rens_str, rens_cp, hl30]) rfl (i_allFinite_0o_ok1 L29 r33 r34 r35 hf27) rfl (news_of ⟨⟨_, rfl, rfl⟩, trivial⟩) (show List.Nodup [0, 1] from by decide) (by simp [ren, rens, sigma, of_decide_eq_true hn29]) (by simp [backOb, sigma, ren, rens, rens_f32, rens_f64, rens_i64, rens_ik, rens_str, rens_cp]) ?_
        refine zl (r := oref 1 1 0 r35.length) (LOp.extract rfl rfl rfl) ?_
        refine zl (r := b r33) (LOp.extract rfl rfl rfl) ?_
        refine za (r := oref 1 1 0 r35.length) ?_
        refine za (r := b r33) ?_
        refine zN ?_
        refine RunC.ret ?_
        have hq := Option.some.inj h
        obtain ⟨hq0, hq⟩ := Prod.mk.inj hq
        subst q0
        subst q1
        exact bodyQ.mk (r' := tup [oref 1 1 0 r35.length, b r33]) [(1, 1)] (.inr rfl) rfl (show List.Nodup [1] from by decide) rfl rfl (Res.two rfl (RV.tmp rfl) (RV.tmp rfl)) (SelL.arr0 (f := f32) (fun _ => rfl) rfl trivial)
  ·refine RunC.region_draw (Γ' := [⟨0, none⟩, ⟨0, none⟩]) 20 mixed 
    (TR.l (r := agg (mXc a0 a1 a2)) rfl rfl (LOp.loadAgg agg33 siz33 rfl rfl rfl rfl) <|
    (TR.d (r := b true) (fs := []) rfl rfl (TOp.eqb (TOp.callB (CallAs.func ent91 rfl rfl) (Bors.cons (Bor.agg (Bors.cons (Bor.pure rfl) (Bors.cons (Bor.pure rfl) (Bors.cons (Bor.sl (fun _ => rfl)) Bors.nil)))) Bors.nil) rfl rfl (i_isSquare_ok a0 a1 a2 r1 hf1)) hc2) <|
    (TR.l (r := b false) rfl rfl (LOp.eqb (LOp.not rfl rfl) rfl) <|
    (TR.l (r := b false) rfl rfl (LOp.move rfl rfl) <|
    (TR.l (r := (sFc a3)) rfl rfl (LOp.move rfl rfl) <|
    (TR.d (r := b false) (fs := []) rfl rfl (TOp.eqb (TOp.callB (CallAs.func ent120 rfl rfl) (Bors.cons (Bor.sl (fun _ => rfl)) Bors.nil) rfl rfl (i_IsVector_ok a3 r2 hf3)) hc4) <|
    (TR.l (r := b true) rfl rfl (LOp.eqb (LOp.not rfl rfl) rfl) <|
    (TR.l (r := b true) rfl rfl (LOp.pick_false rfl rfl rfl) <|
    (TR.l (r := b true) rfl rfl (LOp.move rfl rfl) <|
    (TR.s rfl rfl <|
    (TR.s rfl rfl <|
    (TR.s rfl rfl <|
    (TR.s rfl rfl <|
    (TR.s rfl rfl <|
    (TR.l (r := b true) rfl rfl (LOp.pick_true rfl rfl rfl) <|
    (TR.l (r := b true) rfl rfl (LOp.move rfl rfl) <|
    (TR.s rfl rfl <|
    (TR.s rfl rfl <|
    (TR.s rfl rfl <|
    (TR.l (r := b true) rfl rfl (LOp.pick_true rfl rfl rfl) <|
    TR.nil)))))))))))))))))))) rfl (by kernel_rfl) rfl fills_nil rfl ?_
   iterate 20 refine ROps.dropS ?_
   refine ROps.drop0 ?_
   refine zN ?_
   refine RunC.wl (τ' := [(1, (sFc a3)), (2, ptr (mXc a0 a1 a2)), (29, b true)]) (Γ' := [⟨0, none⟩, ⟨0, none⟩]) ⟨aR, aR, aR, trivial⟩ ⟨⟨rfl, .inr rfl⟩, ⟨rfl, .inr rfl⟩, trivial⟩ ?_
   refine RunC.cond_true rfl rfl ?_
   refine zQ ?_
   refine za (r := nilsl) ?_
   refine za (r := b false) ?_
   refine zN ?_
   refine RunC.nil_slot (Γ' := [⟨1, some (([] : List F).map f32)⟩, ⟨0, none⟩]) 4 0 rfl rfl rfl ?_
   refine RunC.ret ?_
   have hq := Option.some.inj h
   obtain ⟨hq0, hq⟩ := Prod.mk.inj hq
   subst q0
   subst q1
   exact bodyQ.mk (r' := tup [oref 0 1 0 (([] : List F).length), b false]) [(0, 1)] (.inr rfl) rfl (show List.Nodup [0] from by decide) rfl rfl (Res.eq (Res.two rfl (RV.tmp rfl) (RV.tmp rfl)) (by rw [(show ([] : List F).length = 0 from rfl)] <;> rfl)) (SelL.arr0 (f := f32) (fun _ => rfl) rfl trivial)
 ·refine RunC.region_draw (Γ' := [⟨0, none⟩, ⟨0, none⟩]) 20 mixed 
   (TR.l (r := agg (mXc a0 a1 a2)) rfl rfl (LOp.loadAgg agg33 siz33 rfl rfl rfl rfl) <|
   (TR.d (r := b false) (fs := []) rfl rfl (TOp.eqb (TOp.callB (CallAs.func ent91 rfl rfl) (Bors.cons (Bor.agg (Bors.cons (Bor.pure rfl) (Bors.cons (Bor.pure rfl) (Bors.cons (Bor.sl (fun _ => rfl)) Bors.nil)))) Bors.nil) rfl rfl (i_isSquare_ok a0 a1 a2 r1 hf1)) hc2) <|
   (TR.l (r := b true) rfl rfl (LOp.eqb (LOp.not rfl rfl) rfl) <|
   (TR.l (r := b true) rfl rfl (LOp.move rfl rfl) <|
   (TR.s rfl rfl <|
   (TR.s rfl rfl <|
   (TR.s rfl rfl <|
   (TR.l (r := b true) rfl rfl (LOp.pick_true rfl rfl rfl) <|
   (TR.l (r := b true) rfl rfl (LOp.move rfl rfl) <|
   (TR.s rfl rfl <|
   (TR.s rfl rfl <|
   (TR.s rfl rfl <|
   (TR.s rfl rfl <|
   (TR.s rfl rfl <|
   (TR.l (r := b true) rfl rfl (LOp.pick_true rfl rfl rfl) <|
   (TR.l (r := b true) rfl rfl (LOp.move rfl rfl) <|
   (TR.s rfl rfl <|
   (TR.s rfl rfl <|
   (TR.s rfl rfl <|
   (TR.l (r := b true) rfl rfl (LOp.pick_true rfl rfl rfl) <|
   TR.nil)))))))))))))))))))) rfl (by kernel_rfl) rfl fills_nil rfl ?_
  iterate 20 refine ROps.dropS ?_
  refine ROps.drop0 ?_
  refine zN ?_
  refine RunC.wl (τ' := [(1, (sFc a3)), (2, ptr (mXc a0 a1 a2)), (29, b true)]) (Γ' := [⟨0, none⟩, ⟨0, none⟩]) ⟨aR, aR, aR, trivial⟩ ⟨⟨rfl, .inr rfl⟩, ⟨rfl, .inr rfl⟩, trivial⟩ ?_
  refine RunC.cond_true rfl rfl ?_
  refine zQ ?_
  refine za (r := nilsl) ?_
  refine za (r := b false) ?_
  refine zN ?_
  refine RunC.nil_slot (Γ' := [⟨1, some (([] : List F).map f32)⟩, ⟨0, none⟩]) 4 0 rfl rfl rfl ?_
  refine RunC.ret ?_
  have hq := Option.some.inj h
  obtain ⟨hq0, hq⟩ := Prod.mk.inj hq
  subst q0
  subst q1
  exact bodyQ.mk (r' := tup [oref 0 1 0 (([] : List F).length), b false]) [(0, 1)] (.inr rfl) rfl (show List.Nodup [0] from by decide) rfl rfl (Res.eq (Res.two rfl (RV.tmp rfl) (RV.tmp rfl)) (by rw [(show ([] : List F).length = 0 from rfl)] <;> rfl)) (SelL.arr0 (f := f32) (fun _ => rfl) rfl trivial)
noncomputable def w_b10Gap (a0 : F) (a1 : F) : Option (F) :=
 bsel (flt .f64 a0 a1) (
  olet (fop .sub .f64 a1 a0) fun (x1 : F) =>
  some x1) (
  olet (fop .sub .f64 a0 a1) fun (x2 : F) =>
  some x2)
theorem w_b10Gap_ok (a0 : F) (a1 : F) (q0 : F) (h : w_b10Gap a0 a1 = some q0) : Ev Try.prog 53 [f64 a0, f64 a1] [] (f64 q0) [] := by
 refine Ev.start Try.func53 rfl rfl 0 (τ := [(0, f64 a0), (1, f64 a1)]) rfl (Γ' := []) rfl (n := 29) rfl (g := 0) rfl (fun _ => rfl) ?_
 unfold w_b10Gap at h
 refine zQ ?_
 refine zl (r := f64 (some 0)) (LOp.le (LOp.assign rfl rfl) (ALe.fl (by kernel_rfl) (by kernel_rfl))) ?_
 refine zN ?_
 iterate 2 (refine RunC.seq ?_)
 rcases bsel_some h with ⟨hc1, h⟩ | ⟨hc1, h⟩
 ·refine RunC.regionW ?_
  refine zm (r := f64 a0) ?_
  refine zm (r := f64 a1) ?_
  refine zl (r := b true) (LOp.eqb (LOp.flt rfl (OpF.tmp rfl) (OpF.tmp rfl)) hc1) ?_
  refine zN ?_
  refine RunC.cond_true rfl rfl ?_
  refine RunC.seq ?_
  obtain ⟨x1, hx2, h⟩ := olet_some h
  refine RunC.regionW ?_
  refine zm (r := f64 a1) ?_
  refine zm (r := f64 a0) ?_
  refine ROps.d (r := f64 x1) (fs := []) (Γ' := []) rfl rfl rfl (TOp.eqr (TOp.fop (.inr (.inl rfl)) rfl (OpF.tmp rfl) (OpF.tmp rfl)) (congrArg (f .f64) hx2)) rfl ?_
  refine za (r := f64 x1) ?_
  refine zN ?_
  refine RunC.ret ?_
  have hq := Option.some.inj h
  subst q0
  exact bodyQ.pure (.inr rfl) rfl (Res.one rfl (RV.tmp rfl))
 ·refine RunC.regionW ?_
  refine zm (r := f64 a0) ?_
  refine zm (r := f64 a1) ?_
  refine zl (r := b false) (LOp.eqb (LOp.flt rfl (OpF.tmp rfl) (OpF.tmp rfl)) hc1) ?_
  refine zN ?_
  refine RunC.cond_false rfl rfl ?_
  refine RunC.skip ?_
  refine RunC.seq ?_
  obtain ⟨x2, hx3, h⟩ := olet_some h
  refine RunC.regionW ?_
  refine zm (r := f64 a0) ?_
  refine zm (r := f64 a1) ?_
  refine ROps.d (r := f64 x2) (fs := []) (Γ' := []) rfl rfl rfl (TOp.eqr (TOp.fop (.inr (.inl rfl)) rfl (OpF.tmp rfl) (OpF.tmp rfl)) (congrArg (f .f64) hx3)) rfl ?_
  refine za (r := f64 x2) ?_
  refine zN ?_
  refine RunC.ret ?_
  have hq := Option.some.inj h
  subst q0
  exact bodyQ.pure (.inr rfl) rfl (Res.one rfl (RV.tmp rfl))
noncomputable def w_b10Far_b1 (a0 : List F) (a1 : List F) (a2 : F) (v1 : Int) : Option (LR (Int) (Unit) (Bool)) :=
 bsel (decide (v1 < (a0.length : Int))) (
  obind (at? a0 v1) fun (e2 : F) =>
  olet (fwiden e2) fun (x3 : F) =>
  obind (at? a1 v1) fun (e4 : F) =>
  olet (fwiden e4) fun (x5 : F) =>
  obind (w_b10Gap x3 x5) fun (r6 : F) =>
  bsel (fle .f64 r6 a2) (
   olet (IntKind.i64.wrap (v1 + 1)) fun (x7 : Int) =>
   some (LR.next x7)) (
   some (LR.ret true))) (
  some (LR.out ()))
noncomputable def w_b10Far_s1 (a0 : List F) (a1 : List F) (a2 : F) : (Int) → Option (LR (Int) (Unit) (Bool)) := fun s => w_b10Far_b1 a0 a1 a2 s
noncomputable def w_b10Far_k1  : Option (Bool) :=
 some false
noncomputable def w_b10Far (a0 : List F) (a1 : List F) (a2 : F) : Option (Bool) :=
 bsel (!decide ((a0.length : Int) = (a1.length : Int))) (
  some true) (
  obind (loopM (w_b10Far_s1 a0 a1 a2) 0) fun z => osum z (fun _ => w_b10Far_k1) (fun r => some r))
theorem w_b10Far_ok (a0 : List F) (a1 : List F) (a2 : F) (q0 : Bool) (h : w_b10Far a0 a1 a2 = some q0) : Ev Try.prog 16 [(sFc a0), (sFc a1), f64 a2] [] (b q0) [] := by
 refine Ev.start Try.func16 rfl rfl 0 (τ := [(0, (sFc a0)), (1, (sFc a1)), (2, f64 a2)]) rfl (Γ' := []) rfl (n := 67) rfl (g := 0) rfl (fun _ => rfl) ?_
 unfold w_b10Far at h
 refine zQ ?_
 refine za (r := b false) ?_
 refine zN ?_
 iterate 2 (refine RunC.seq ?_)
 rcases bsel_some h with ⟨hc1, h⟩ | ⟨hc1, h⟩
 ·refine RunC.regionW ?_
  refine zm (r := (sFc a0)) ?_
  refine zl (r := i64 (a0.length : Int)) (LOp.len_sl und26 rfl rfl) ?_
  refine zm (r := (sFc a1)) ?_
  refine zl (r := i64 (a1.length : Int)) (LOp.len_sl und26 rfl rfl) ?_
  refine zl (r := b true) (LOp.eqb (LOp.neq rfl rfl rfl) hc1) ?_
  refine zN ?_
  refine RunC.cond_true rfl rfl ?_
  refine zQ ?_
  refine za (r := b true) ?_
  refine zN ?_
  refine RunC.ret ?_
  have hq := Option.some.inj h
  subst q0
  exact bodyQ.pure (.inr rfl) rfl (Res.one rfl (RV.tmp rfl))
 ·refine RunC.regionW ?_
  refine zm (r := (sFc a0)) ?_
  refine zl (r := i64 (a0.length : Int)) (LOp.len_sl und26 rfl rfl) ?_
  refine zm (r := (sFc a1)) ?_
  refine zl (r := i64 (a1.length : Int)) (LOp.len_sl und26 rfl rfl) ?_
  refine zl (r := b false) (LOp.eqb (LOp.neq rfl rfl rfl) hc1) ?_
  refine zN ?_
  refine RunC.cond_false rfl rfl ?_
  refine RunC.skip ?_
  refine RunC.seq ?_
  refine zQ ?_
  refine zm (r := (sFc a0)) ?_
  refine zl (r := i64 (a0.length : Int)) (LOp.len_sl und26 rfl rfl) ?_
  refine zm (r := i64 0) ?_
  refine zN ?_
  obtain ⟨z2, hz_2, h⟩ := obind_some h
  refine RunC.cutN (fun τ Γ => WeakLe τ [] ∧ DeadLe Γ [] ∧ z2 = .inl ()) ?_ ?_
  ·refine RunC.block (RunC.loop (RunL.loopM (x := z2) (w_b10Far_s1 a0 a1 a2) (fun (s : Int) τ Γ => WeakLe τ [(0, (sFc a0)), (1, (sFc a1)), (2, f64 a2), (14, i64 (a0.length : Int)), (15, i64 s)] ∧ DeadLe Γ []) ?_ _ _ _ hz_2 ⟨⟨aR, aR, aR, aR, aR, trivial⟩, trivial⟩))
   rintro v1 τ2 Γ2 y2_ ⟨hw2, hd2⟩ h2_ ho2 hr2
   refine RunC.wl (τ' := [(0, (sFc a0)), (1, (sFc a1)), (2, f64 a2), (14, i64 (a0.length : Int)), (15, i64 v1)]) (Γ' := []) hw2 hd2 ?_
   replace h2_ : w_b10Far_b1 a0 a1 a2 v1 = some y2_ := h2_
   unfold w_b10Far_b1 at h2_
   refine RunC.seq ?_
   rcases bsel_some h2_ with ⟨hc2, h2_⟩ | ⟨hc2, h2_⟩
   ·refine RunC.regionW ?_
    refine zl (r := b true) (LOp.eqb (LOp.lss rfl rfl rfl) hc2) ?_
    refine zN ?_
    refine RunC.seq ?_
    refine RunC.cond_true rfl rfl ?_
    refine RunC.skip ?_
    refine RunC.seq ?_
    refine RunC.block ?_
    refine zQ ?_
    refine zm (r := i64 v1) ?_
    refine za (r := i64 v1) ?_
    refine zN ?_
    refine RunC.seq ?_
    obtain ⟨e2, he3, h2_⟩ := obind_some h2_
    obtain ⟨x3, hx4, h2_⟩ := olet_some h2_
    obtain ⟨e4, he5, h2_⟩ := obind_some h2_
    obtain ⟨x5, hx6, h2_⟩ := olet_some h2_
    obtain ⟨r6, hf7, h2_⟩ := obind_some h2_
    rcases bsel_some h2_ with ⟨hc8, h2_⟩ | ⟨hc8, h2_⟩
    ·refine RunC.region_draw (Γ' := []) 14 mixed 
      (TR.l (r := (sFc a0)) rfl rfl (LOp.move rfl rfl) <|
      (TR.l (r := i64 v1) rfl rfl (LOp.move rfl rfl) <|
      (TR.l (r := ptr [f32 e2]) rfl rfl (LOp.le (LOp.ix (f := f32) und26 siz28 rfl rfl rfl rfl he3) ALe.ptr) <|
      (TR.l (r := f32 e2) rfl rfl (LOp.load1 agg28 rfl rfl) <|
      (TR.d (r := f64 x3) (fs := []) rfl rfl (TOp.eqr (TOp.widen (src := 28) (dst := 40) ⟨_, pun28⟩ pun40 rfl (OpF.tmp rfl)) (congrArg (f .f64) hx4)) <|
      (TR.l (r := (sFc a1)) rfl rfl (LOp.move rfl rfl) <|
      (TR.l (r := i64 v1) rfl rfl (LOp.move rfl rfl) <|
      (TR.l (r := ptr [f32 e4]) rfl rfl (LOp.le (LOp.ix (f := f32) und26 siz28 rfl rfl rfl rfl he5) ALe.ptr) <|
      (TR.l (r := f32 e4) rfl rfl (LOp.load1 agg28 rfl rfl) <|
      (TR.d (r := f64 x5) (fs := []) rfl rfl (TOp.eqr (TOp.widen (src := 28) (dst := 40) ⟨_, pun28⟩ pun40 rfl (OpF.tmp rfl)) (congrArg (f .f64) hx6)) <|
      (TR.d (r := f64 r6) (fs := []) rfl rfl (TOp.callB (CallAs.func ent53 rfl rfl) (Bors.cons (Bor.pure rfl) (Bors.cons (Bor.pure rfl) Bors.nil)) rfl rfl (w_b10Gap_ok x3 x5 r6 hf7)) <|
      (TR.l (r := f64 a2) rfl rfl (LOp.move rfl rfl) <|
      (TR.l (r := b true) rfl rfl (LOp.eqb (LOp.fle rfl (OpF.tmp rfl) (OpF.tmp rfl)) hc8) <|
      (TR.l (r := b false) rfl rfl (LOp.eqb (LOp.not rfl rfl) rfl) <|
      TR.nil)))))))))))))) rfl (by kernel_rfl) rfl fills_nil rfl ?_
     iterate 14 refine ROps.dropS ?_
     refine ROps.drop0 ?_
     refine zN ?_
     refine RunC.wl (τ' := [(0, (sFc a0)), (1, (sFc a1)), (2, f64 a2), (14, i64 (a0.length : Int)), (15, i64 v1), (31, b false)]) (Γ' := []) ⟨aR, aR, aR, aR, aR, aR, trivial⟩ trivial ?_
     refine RunC.cond_false rfl rfl ?_
     refine RunC.skip ?_
     obtain ⟨x7, hx9, h2_⟩ := olet_some h2_
     refine RunC.regionW ?_
     refine zl (r := i64 x7) (LOp.eqr (LOp.add rfl rfl rfl) (congrArg (ik .i64) hx9)) ?_
     refine zm (r := i64 x7) ?_
     refine zN ?_
     cases Option.some.inj h2_
     exact ⟨_, rfl, ⟨aR, aR, aR, aR, aR, trivial⟩, trivial⟩
    ·refine RunC.region_draw (Γ' := []) 14 mixed 
      (TR.l (r := (sFc a0)) rfl rfl (LOp.move rfl rfl) <|
      (TR.l (r := i64 v1) rfl rfl (LOp.move rfl rfl) <|
      (TR.l (r := ptr [f32 e2]) rfl rfl (LOp.le (LOp.ix (f := f32) und26 siz28 rfl rfl rfl rfl he3) ALe.ptr) <|
      (TR.l (r := f32 e2) rfl rfl (LOp.load1 agg28 rfl rfl) <|
      (TR.d (r := f64 x3) (fs := []) rfl rfl (TOp.eqr (TOp.widen (src := 28) (dst := 40) ⟨_, pun28⟩ pun40 rfl (OpF.tmp rfl)) (congrArg (f .f64) hx4)) <|
      (TR.l (r := (sFc a1)) rfl rfl (LOp.move rfl rfl) <|
      (TR.l (r := i64 v1) rfl rfl (LOp.move rfl rfl) <|
      (TR.l (r := ptr [f32 e4]) rfl rfl (LOp.le (LOp.ix (f := f32) und26 siz28 rfl rfl rfl rfl he5) ALe.ptr) <|
      (TR.l (r := f32 e4) rfl rfl (LOp.load1 agg28 rfl rfl) <|
      (TR.d (r := f64 x5) (fs := []) rfl rfl (TOp.eqr (TOp.widen (src := 28) (dst := 40) ⟨_, pun28⟩ pun40 rfl (OpF.tmp rfl)) (congrArg (f .f64) hx6)) <|
      (TR.d (r := f64 r6) (fs := []) rfl rfl (TOp.callB (CallAs.func ent53 rfl rfl) (Bors.cons (Bor.pure rfl) (Bors.cons (Bor.pure rfl) Bors.nil)) rfl rfl (w_b10Gap_ok x3 x5 r6 hf7)) <|
      (TR.l (r := f64 a2) rfl rfl (LOp.move rfl rfl) <|
      (TR.l (r := b false) rfl rfl (LOp.eqb (LOp.fle rfl (OpF.tmp rfl) (OpF.tmp rfl)) hc8) <|
      (TR.l (r := b true) rfl rfl (LOp.eqb (LOp.not rfl rfl) rfl) <|
      TR.nil)))))))))))))) rfl (by kernel_rfl) rfl fills_nil rfl ?_
     iterate 14 refine ROps.dropS ?_
     refine ROps.drop0 ?_
     refine zN ?_
     refine RunC.wl (τ' := [(0, (sFc a0)), (1, (sFc a1)), (2, f64 a2), (14, i64 (a0.length : Int)), (15, i64 v1), (31, b true)]) (Γ' := []) ⟨aR, aR, aR, aR, aR, aR, trivial⟩ trivial ?_
     refine RunC.cond_true rfl rfl ?_
     refine zQ ?_
     refine za (r := b true) ?_
     refine zN ?_
     refine RunC.ret ?_
     cases Option.some.inj h2_
     have hx3_ := hr2 _ rfl
     subst hx3_
     have hq := Option.some.inj h
     subst q0
     exact bodyQ.pure (.inr rfl) rfl (Res.one rfl (RV.tmp rfl))
   ·refine RunC.regionW ?_
    refine zl (r := b false) (LOp.eqb (LOp.lss rfl rfl rfl) hc2) ?_
    refine zN ?_
    refine RunC.seq ?_
    refine RunC.cond_false rfl rfl ?_
    refine RunC.exit ?_
    cases Option.some.inj h2_
    have hx := ho2 _ rfl
    exact ⟨trivial, trivial, hx⟩
  ·rintro τ4 Γ4 ⟨hw4, hd4, rfl⟩
   refine RunC.wl hw4 hd4 ?_
   replace h : w_b10Far_k1 = some q0 := h
   unfold w_b10Far_k1 at h
   refine zQ ?_
   refine za (r := b false) ?_
   refine zN ?_
   refine RunC.ret ?_
   have hq := Option.some.inj h
   subst q0
   exact bodyQ.pure (.inr rfl) rfl (Res.one rfl (RV.tmp rfl))
noncomputable def w_b10FarMatrix (a0 : Int) (a1 : Int) (a2 : List F) (a3 : Int) (a4 : Int) (a5 : List F) (a6 : F) : Option (Bool) :=
 bsel (!decide (a0 = a3)) (
  some true) (
  bsel (!decide (a1 = a4)) (
   some true) (
   obind (w_b10Far a2 a5 a6) fun (r1 : Bool) =>
   some r1))
theorem w_b10FarMatrix_ok (a0 : Int) (a1 : Int) (a2 : List F) (a3 : Int) (a4 : Int) (a5 : List F) (a6 : F) (q0 : Bool) (h : w_b10FarMatrix a0 a1 a2 a3 a4 a5 a6 = some q0) : Ev Try.prog 51 [agg (mXc a0 a1 a2), agg (mXc a3 a4 a5), f64 a6] [] (b q0) [] := by
 refine Ev.start Try.func51 rfl rfl 0 (τ := [(0, agg (mXc a0 a1 a2)), (1, agg (mXc a3 a4 a5)), (2, f64 a6)]) rfl (Γ' := []) rfl (n := 55) rfl (g := 0) rfl (fun _ => rfl) ?_
 unfold w_b10FarMatrix at h
 refine zQ ?_
 refine ROps.d (r := ptr (mXc a0 a1 a2)) (fs := []) (Γ' := []) rfl rfl rfl (TOp.box_s rfl rfl rfl) rfl ?_
 refine ROps.d (r := ptr (mXc a3 a4 a5)) (fs := []) (Γ' := []) rfl rfl rfl (TOp.box_s rfl rfl rfl) rfl ?_
 refine za (r := b false) ?_
 refine zN ?_
 refine RunC.seq ?_
 rcases bsel_some h with ⟨hc1, h⟩ | ⟨hc1, h⟩
 ·refine RunC.regionW ?_
  refine zl (r := ptr (mXc a0 a1 a2)) (LOp.fap und33 rfl siz2 rfl rfl rfl) ?_
  refine zl (r := i64 a0) (LOp.load1 agg2 rfl rfl) ?_
  refine zl (r := ptr (mXc a3 a4 a5)) (LOp.fap und33 rfl siz2 rfl rfl rfl) ?_
  refine zl (r := i64 a3) (LOp.load1 agg2 rfl rfl) ?_
  refine zl (r := b true) (LOp.eqb (LOp.neq rfl rfl rfl) hc1) ?_
  refine zm (r := b true) ?_
  iterate 5 (refine ROps.s rfl rfl rfl ?_)
  refine zl (r := b true) (LOp.pick_true rfl rfl rfl) ?_
  refine zm (r := b true) ?_
  iterate 6 (refine ROps.s rfl rfl rfl ?_)
  refine zl (r := b true) (LOp.pick_true rfl rfl rfl) ?_
  refine za (r := b true) ?_
  refine zN ?_
  refine RunC.ret ?_
  have hq := Option.some.inj h
  subst q0
  exact bodyQ.pure (.inr rfl) rfl (Res.one rfl (RV.tmp rfl))
 ·rcases bsel_some h with ⟨hc2, h⟩ | ⟨hc2, h⟩
  ·refine RunC.regionW ?_
   refine zl (r := ptr (mXc a0 a1 a2)) (LOp.fap und33 rfl siz2 rfl rfl rfl) ?_
   refine zl (r := i64 a0) (LOp.load1 agg2 rfl rfl) ?_
   refine zl (r := ptr (mXc a3 a4 a5)) (LOp.fap und33 rfl siz2 rfl rfl rfl) ?_
   refine zl (r := i64 a3) (LOp.load1 agg2 rfl rfl) ?_
   refine zl (r := b false) (LOp.eqb (LOp.neq rfl rfl rfl) hc1) ?_
   refine zm (r := b false) ?_
   refine zl (r := ptr [i64 a1, (sFc a2)]) (LOp.fap und33 rfl siz2 rfl rfl rfl) ?_
   refine zl (r := i64 a1) (LOp.load1 agg2 rfl rfl) ?_
   refine zl (r := ptr [i64 a4, (sFc a5)]) (LOp.fap und33 rfl siz2 rfl rfl rfl) ?_
   refine zl (r := i64 a4) (LOp.load1 agg2 rfl rfl) ?_
   refine zl (r := b true) (LOp.eqb (LOp.neq rfl rfl rfl) hc2) ?_
   refine zl (r := b true) (LOp.pick_false rfl rfl rfl) ?_
   refine zm (r := b true) ?_
   iterate 6 (refine ROps.s rfl rfl rfl ?_)
   refine zl (r := b true) (LOp.pick_true rfl rfl rfl) ?_
   refine za (r := b true) ?_
   refine zN ?_
   refine RunC.ret ?_
   have hq := Option.some.inj h
   subst q0
   exact bodyQ.pure (.inr rfl) rfl (Res.one rfl (RV.tmp rfl))
  ·obtain ⟨r1, hf3, h⟩ := obind_some h
   refine RunC.regionW ?_
   refine zl (r := ptr (mXc a0 a1 a2)) (LOp.fap und33 rfl siz2 rfl rfl rfl) ?_
   refine zl (r := i64 a0) (LOp.load1 agg2 rfl rfl) ?_
   refine zl (r := ptr (mXc a3 a4 a5)) (LOp.fap und33 rfl siz2 rfl rfl rfl) ?_
   refine zl (r := i64 a3) (LOp.load1 agg2 rfl rfl) ?_
   refine zl (r := b false) (LOp.eqb (LOp.neq rfl rfl rfl) hc1) ?_
   refine zm (r := b false) ?_
   refine zl (r := ptr [i64 a1, (sFc a2)]) (LOp.fap und33 rfl siz2 rfl rfl rfl) ?_
   refine zl (r := i64 a1) (LOp.load1 agg2 rfl rfl) ?_
   refine zl (r := ptr [i64 a4, (sFc a5)]) (LOp.fap und33 rfl siz2 rfl rfl rfl) ?_
   refine zl (r := i64 a4) (LOp.load1 agg2 rfl rfl) ?_
   refine zl (r := b false) (LOp.eqb (LOp.neq rfl rfl rfl) hc2) ?_
   refine zl (r := b false) (LOp.pick_false rfl rfl rfl) ?_
   refine zm (r := b false) ?_
   refine zl (r := ptr [(sFc a2)]) (LOp.fap und33 rfl siz26 rfl rfl rfl) ?_
   refine zl (r := (sFc a2)) (LOp.load1 agg26 rfl rfl) ?_
   refine zl (r := ptr [(sFc a5)]) (LOp.fap und33 rfl siz26 rfl rfl rfl) ?_
   refine zl (r := (sFc a5)) (LOp.load1 agg26 rfl rfl) ?_
   refine zm (r := f64 a6) ?_
   refine ROps.d (r := b r1) (fs := []) (Γ' := []) rfl rfl rfl (TOp.callB (CallAs.func ent16 rfl rfl) (Bors.cons (Bor.sl (fun _ => rfl)) (Bors.cons (Bor.sl (fun _ => rfl)) (Bors.cons (Bor.pure rfl) Bors.nil))) rfl rfl (w_b10Far_ok a2 a5 a6 r1 hf3)) rfl ?_
   refine zl (r := b r1) (LOp.pick_false rfl rfl rfl) ?_
   refine za (r := b r1) ?_
   refine zN ?_
   refine RunC.ret ?_
   have hq := Option.some.inj h
   subst q0
   exact bodyQ.pure (.inr rfl) rfl (Res.one rfl (RV.tmp rfl))
noncomputable def s_l02Vector (a0 : List F) : Option (Bool) :=
 bsel (decide (1 ≤ (a0.length : Int))) (
  bsel (decide ((a0.length : Int) ≤ 256)) (
   obind (s_l02Finite a0) fun (r1 : Bool) =>
   some r1) (
   some false)) (
  some false)
theorem s_l02Vector_ok (a0 : List F) (q0 : Bool) (h : s_l02Vector a0 = some q0) : Ev Try.prog 67 [(sFc a0)] [] (b q0) [] := by
 refine Ev.start Try.func67 rfl rfl 0 (τ := [(0, (sFc a0))]) rfl (Γ' := []) rfl (n := 31) rfl (g := 0) rfl (fun _ => rfl) ?_
 unfold s_l02Vector at h
 refine zQ ?_
 refine za (r := b false) ?_
 refine zN ?_
 refine RunC.seq ?_
 rcases bsel_some h with ⟨hc1, h⟩ | ⟨hc1, h⟩
 ·rcases bsel_some h with ⟨hc2, h⟩ | ⟨hc2, h⟩
  ·obtain ⟨r1, hf3, h⟩ := obind_some h
   refine RunC.regionW ?_
   refine zm (r := (sFc a0)) ?_
   refine zl (r := i64 (a0.length : Int)) (LOp.len_sl und26 rfl rfl) ?_
   refine zl (r := b true) (LOp.eqb (LOp.geq rfl rfl rfl) hc1) ?_
   refine zm (r := b true) ?_
   refine zm (r := (sFc a0)) ?_
   refine zl (r := i64 (a0.length : Int)) (LOp.len_sl und26 rfl rfl) ?_
   refine zl (r := b true) (LOp.eqb (LOp.leq rfl rfl rfl) hc2) ?_
   refine zl (r := b true) (LOp.pick_true rfl rfl rfl) ?_
   refine zm (r := b true) ?_
   refine zm (r := (sFc a0)) ?_
   refine ROps.d (r := b r1) (fs := []) (Γ' := []) rfl rfl rfl (TOp.callB (CallAs.func ent135 rfl rfl) (Bors.cons (Bor.sl (fun _ => rfl)) Bors.nil) rfl rfl (s_l02Finite_ok a0 r1 hf3)) rfl ?_
   refine zl (r := b r1) (LOp.pick_true rfl rfl rfl) ?_
   refine za (r := b r1) ?_
   refine zN ?_
   refine RunC.ret ?_
   have hq := Option.some.inj h
   subst q0
   exact bodyQ.pure (.inr rfl) rfl (Res.one rfl (RV.tmp rfl))
  ·refine RunC.regionW ?_
   refine zm (r := (sFc a0)) ?_
   refine zl (r := i64 (a0.length : Int)) (LOp.len_sl und26 rfl rfl) ?_
   refine zl (r := b true) (LOp.eqb (LOp.geq rfl rfl rfl) hc1) ?_
   refine zm (r := b true) ?_
   refine zm (r := (sFc a0)) ?_
   refine zl (r := i64 (a0.length : Int)) (LOp.len_sl und26 rfl rfl) ?_
   refine zl (r := b false) (LOp.eqb (LOp.leq rfl rfl rfl) hc2) ?_
   refine zl (r := b false) (LOp.pick_true rfl rfl rfl) ?_
   refine zm (r := b false) ?_
   iterate 2 (refine ROps.s rfl rfl rfl ?_)
   refine zl (r := b false) (LOp.pick_false rfl rfl rfl) ?_
   refine za (r := b false) ?_
   refine zN ?_
   refine RunC.ret ?_
   have hq := Option.some.inj h
   subst q0
   exact bodyQ.pure (.inr rfl) rfl (Res.one rfl (RV.tmp rfl))
 ·refine RunC.regionW ?_
  refine zm (r := (sFc a0)) ?_
  refine zl (r := i64 (a0.length : Int)) (LOp.len_sl und26 rfl rfl) ?_
  refine zl (r := b false) (LOp.eqb (LOp.geq rfl rfl rfl) hc1) ?_
  refine zm (r := b false) ?_
  iterate 3 (refine ROps.s rfl rfl rfl ?_)
  refine zl (r := b false) (LOp.pick_false rfl rfl rfl) ?_
  refine zm (r := b false) ?_
  iterate 2 (refine ROps.s rfl rfl rfl ?_)
  refine zl (r := b false) (LOp.pick_false rfl rfl rfl) ?_
  refine za (r := b false) ?_
  refine zN ?_
  refine RunC.ret ?_
  have hq := Option.some.inj h
  subst q0
  exact bodyQ.pure (.inr rfl) rfl (Res.one rfl (RV.tmp rfl))
noncomputable def s_l02Dot_b1 (a0 : List F) (a1 : List F) (y1 : F) (v2 : Int) : Option (LR (F × Int) (F) (F)) :=
 bsel (decide (v2 < (a0.length : Int))) (
  obind (at? a0 v2) fun (e3 : F) =>
  obind (at? a1 v2) fun (e4 : F) =>
  olet (fop .mul .f32 e3 e4) fun (x5 : F) =>
  olet (fop .add .f32 y1 x5) fun (x6 : F) =>
  olet (IntKind.i64.wrap (v2 + 1)) fun (x7 : Int) =>
  some (LR.next (x6, x7))) (
  some (LR.out y1))
noncomputable def s_l02Dot_s1 (a0 : List F) (a1 : List F) : (F × Int) → Option (LR (F × Int) (F) (F)) := fun s => s_l02Dot_b1 a0 a1 s.1 s.2
noncomputable def s_l02Dot_k1 (y8 : F) : Option (F) :=
 some y8
noncomputable def s_l02Dot (a0 : List F) (a1 : List F) : Option (F) :=
 obind (loopM (s_l02Dot_s1 a0 a1) (some 0, 0)) fun z => osum z (fun e => s_l02Dot_k1 e) (fun r => some r)
theorem s_l02Dot_ok (a0 : List F) (a1 : List F) (q0 : F) (h : s_l02Dot a0 a1 = some q0) : Ev Try.prog 136 [(sFc a0), (sFc a1)] [] (f32 q0) [] := by
 refine Ev.start Try.func136 rfl rfl 0 (τ := [(0, (sFc a0)), (1, (sFc a1))]) rfl (Γ' := []) rfl (n := 51) rfl (g := 0) rfl (fun _ => rfl) ?_
 unfold s_l02Dot at h
 iterate 2 (refine zQ ?_; refine zl (r := f32 (some 0)) (LOp.le (LOp.assign rfl rfl) (ALe.fl (by kernel_rfl) (by kernel_rfl))) ?_; refine zN ?_)
 refine RunC.seq ?_
 refine zQ ?_
 refine za (r := i64 0) ?_
 refine zN ?_
 obtain ⟨z2, hz_2, h⟩ := obind_some h
 refine RunC.cutN (fun τ Γ => ∃ (y8 : F), WeakLe τ [(5, f32 y8)] ∧ DeadLe Γ [] ∧ z2 = .inl y8) ?_ ?_
 ·refine RunC.block (RunC.loop (RunL.loopM (x := z2) (s_l02Dot_s1 a0 a1) (fun (s : F × Int) τ Γ => WeakLe τ [(0, (sFc a0)), (1, (sFc a1)), (5, f32 s.1), (6, i64 s.2)] ∧ DeadLe Γ []) ?_ _ _ _ hz_2 ⟨⟨aR, aR, aR, aR, trivial⟩, trivial⟩))
  rintro ⟨y1, v2⟩ τ2 Γ2 y2_ ⟨hw2, hd2⟩ h2_ ho2 hr2
  refine RunC.wl (τ' := [(0, (sFc a0)), (1, (sFc a1)), (5, f32 y1), (6, i64 v2)]) (Γ' := []) hw2 hd2 ?_
  replace h2_ : s_l02Dot_b1 a0 a1 y1 v2 = some y2_ := h2_
  unfold s_l02Dot_b1 at h2_
  iterate 2 (refine RunC.seq ?_)
  rcases bsel_some h2_ with ⟨hc1, h2_⟩ | ⟨hc1, h2_⟩
  ·refine RunC.regionW ?_
   refine zm (r := i64 v2) ?_
   refine zm (r := (sFc a0)) ?_
   refine zl (r := i64 (a0.length : Int)) (LOp.len_sl und26 rfl rfl) ?_
   refine zl (r := b true) (LOp.eqb (LOp.lss rfl rfl rfl) hc1) ?_
   refine zN ?_
   refine RunC.cond_true rfl rfl ?_
   refine RunC.skip ?_
   refine RunC.seq ?_
   refine RunC.block ?_
   obtain ⟨e3, he2, h2_⟩ := obind_some h2_
   obtain ⟨e4, he3, h2_⟩ := obind_some h2_
   obtain ⟨x5, hx4, h2_⟩ := olet_some h2_
   obtain ⟨x6, hx5, h2_⟩ := olet_some h2_
   refine RunC.region_draw (Γ' := []) 12 mixed 
    (TR.l (r := f32 y1) rfl rfl (LOp.move rfl rfl) <|
    (TR.l (r := (sFc a0)) rfl rfl (LOp.move rfl rfl) <|
    (TR.l (r := i64 v2) rfl rfl (LOp.move rfl rfl) <|
    (TR.l (r := ptr [f32 e3]) rfl rfl (LOp.le (LOp.ix (f := f32) und26 siz28 rfl rfl rfl rfl he2) ALe.ptr) <|
    (TR.l (r := f32 e3) rfl rfl (LOp.load1 agg28 rfl rfl) <|
    (TR.l (r := (sFc a1)) rfl rfl (LOp.move rfl rfl) <|
    (TR.l (r := i64 v2) rfl rfl (LOp.move rfl rfl) <|
    (TR.l (r := ptr [f32 e4]) rfl rfl (LOp.le (LOp.ix (f := f32) und26 siz28 rfl rfl rfl rfl he3) ALe.ptr) <|
    (TR.l (r := f32 e4) rfl rfl (LOp.load1 agg28 rfl rfl) <|
    (TR.d (r := f32 x5) (fs := []) rfl rfl (TOp.eqr (TOp.fop (.inr (.inr (.inl rfl))) rfl (OpF.tmp rfl) (OpF.tmp rfl)) (congrArg (f .f32) hx4)) <|
    (TR.d (r := f32 x6) (fs := []) rfl rfl (TOp.eqr (TOp.fop (.inl rfl) rfl (OpF.tmp rfl) (OpF.tmp rfl)) (congrArg (f .f32) hx5)) <|
    (TR.l (r := f32 x6) rfl rfl (LOp.assign rfl rfl) <|
    TR.nil)))))))))))) rfl (by kernel_rfl) rfl fills_nil rfl ?_
   iterate 12 refine ROps.dropS ?_
   refine ROps.drop0 ?_
   refine zN ?_
   refine RunC.wl (τ' := [(0, (sFc a0)), (1, (sFc a1)), (5, f32 x6), (6, i64 v2)]) (Γ' := []) ⟨aR, aR, aR, aR, trivial⟩ trivial ?_
   obtain ⟨x7, hx6, h2_⟩ := olet_some h2_
   refine RunC.regionW ?_
   refine zm (r := i64 v2) ?_
   refine zl (r := i64 x7) (LOp.eqr (LOp.add rfl rfl rfl) (congrArg (ik .i64) hx6)) ?_
   refine za (r := i64 x7) ?_
   refine zN ?_
   cases Option.some.inj h2_
   exact ⟨_, rfl, ⟨aR, aR, aR, aR, trivial⟩, trivial⟩
  ·refine RunC.regionW ?_
   refine zm (r := i64 v2) ?_
   refine zm (r := (sFc a0)) ?_
   refine zl (r := i64 (a0.length : Int)) (LOp.len_sl und26 rfl rfl) ?_
   refine zl (r := b false) (LOp.eqb (LOp.lss rfl rfl rfl) hc1) ?_
   refine zN ?_
   refine RunC.cond_false rfl rfl ?_
   refine RunC.exit ?_
   cases Option.some.inj h2_
   have hx := ho2 _ rfl
   exact ⟨y1, ⟨aR, trivial⟩, trivial, hx⟩
 ·rintro τ3 Γ3 ⟨y8, hw3, hd3, rfl⟩
  refine RunC.wl hw3 hd3 ?_
  replace h : s_l02Dot_k1 y8 = some q0 := h
  unfold s_l02Dot_k1 at h
  refine zQ ?_
  refine zm (r := f32 y8) ?_
  refine za (r := f32 y8) ?_
  refine zN ?_
  refine RunC.ret ?_
  have hq := Option.some.inj h
  subst q0
  exact bodyQ.pure (.inr rfl) rfl (Res.one rfl (RV.tmp rfl))
noncomputable def s_l02Times_b1 (a0 : Int) (a1 : Int) (a2 : List F) (a3 : List F) (L3 : List F) (v4 : Int) : Option (LR ((List F) × Int) ((List F)) ((List F))) :=
 bsel (decide (v4 < a0)) (
  olet (IntKind.i64.wrap (v4 * a1)) fun (x5 : Int) =>
  olet (IntKind.i64.wrap (v4 + 1)) fun (x6 : Int) =>
  olet (IntKind.i64.wrap (x6 * a1)) fun (x7 : Int) =>
  obind (sub? a2 x5 x7) fun (l8 : List F) =>
  obind (s_l02Dot l8 a3) fun (r9 : F) =>
  need (apok 4 L3.length 1) <|
  olet (IntKind.i64.wrap (v4 + 1)) fun (x10 : Int) =>
  some (LR.next ((L3 ++ ([r9] : List F)), x10))) (
  some (LR.out L3))
noncomputable def s_l02Times_s1 (a0 : Int) (a1 : Int) (a2 : List F) (a3 : List F) : ((List F) × Int) → Option (LR ((List F) × Int) ((List F)) ((List F))) := fun s => s_l02Times_b1 a0 a1 a2 a3 s.1 s.2
noncomputable def s_l02Times_k1 (L13 : List F) : Option ((List F)) :=
 some L13
noncomputable def s_l02Times (a0 : Int) (a1 : Int) (a2 : List F) (a3 : List F) : Option ((List F)) :=
 obind (loopM (s_l02Times_s1 a0 a1 a2 a3) (([] : List F), 0)) fun z => osum z (fun e => s_l02Times_k1 e) (fun r => some r)
theorem s_l02Times_ok (a0 : Int) (a1 : Int) (a2 : List F) (a3 : List F) (q0 : List F) (h : s_l02Times a0 a1 a2 a3 = some q0) : Ev Try.prog 69 [ptr (mXc a0 a1 a2), (sFc a3)] [] (oref 0 0 0 q0.length) [⟨0, some (q0.map f32)⟩] := by
 refine Ev.start Try.func69 rfl rfl 2 (τ := [(0, ptr (mXc a0 a1 a2)), (1, (sFc a3))]) rfl (Γ' := [⟨0, none⟩, ⟨0, none⟩]) rfl (n := 81) rfl (g := 0) rfl (fun _ => rfl) ?_
 unfold s_l02Times at h
 refine zQ ?_
 refine za (r := nilsl) ?_
 refine zN ?_
 refine zQ ?_
 refine ROps.d (r := oref 0 1 0 0) (fs := [(0, (([] : List F).map f32))]) (Γ' := [⟨1, some (([] : List F).map f32)⟩, ⟨0, none⟩]) rfl rfl rfl (TOp.buildSlice_o (g := ⟨0, none⟩) (za := f32 (some 0)) (qs := []) 0 rfl und26 siz28 zer28 rfl zel28 rfl rfl trivial rfl) rfl ?_
 refine za (r := oref 0 1 0 0) ?_
 refine zN ?_
 refine RunC.seq ?_
 refine zQ ?_
 refine za (r := i64 0) ?_
 refine zN ?_
 obtain ⟨z2, hz_2, h⟩ := obind_some h
 refine RunC.cutN (fun τ Γ => ∃ (L13 : List F) (u11 : Nat) (u12 : Nat), WeakLe τ [(5, oref 0 u11 0 L13.length)] ∧ DeadLe Γ [⟨u11, some (L13.map f32)⟩, ⟨u12, none⟩] ∧ z2 = .inl L13) ?_ ?_
 ·refine RunC.block (RunC.loop (RunL.loopM (x := z2) (s_l02Times_s1 a0 a1 a2 a3) (fun (s : (List F) × Int) τ Γ => ∃ (u1 : Nat) (u2 : Nat), WeakLe τ [(0, ptr (mXc a0 a1 a2)), (1, (sFc a3)), (5, oref 0 u1 0 s.1.length), (6, i64 s.2)] ∧ DeadLe Γ [⟨u1, some (s.1.map f32)⟩, ⟨u2, none⟩]) ?_ _ _ _ hz_2 ⟨1, 0, ⟨aR, aR, aR, aR, trivial⟩, ⟨⟨rfl, .inr rfl⟩, ⟨rfl, .inl rfl⟩, trivial⟩⟩))
  rintro ⟨L3, v4⟩ τ2 Γ2 y2_ ⟨u1, u2, hw2, hd2⟩ h2_ ho2 hr2
  refine RunC.wl (τ' := [(0, ptr (mXc a0 a1 a2)), (1, (sFc a3)), (5, oref 0 u1 0 L3.length), (6, i64 v4)]) (Γ' := [⟨u1, some (L3.map f32)⟩, ⟨u2, none⟩]) hw2 hd2 ?_
  replace h2_ : s_l02Times_b1 a0 a1 a2 a3 L3 v4 = some y2_ := h2_
  unfold s_l02Times_b1 at h2_
  iterate 2 (refine RunC.seq ?_)
  rcases bsel_some h2_ with ⟨hc1, h2_⟩ | ⟨hc1, h2_⟩
  ·refine RunC.regionW ?_
   refine zm (r := i64 v4) ?_
   refine zm (r := ptr (mXc a0 a1 a2)) ?_
   refine zl (r := ptr (mXc a0 a1 a2)) (LOp.nilCheck_ptr rfl rfl) ?_
   refine zl (r := ptr (mXc a0 a1 a2)) (LOp.fap und33 rfl siz2 rfl rfl rfl) ?_
   refine zl (r := i64 a0) (LOp.load1 agg2 rfl rfl) ?_
   refine zl (r := b true) (LOp.eqb (LOp.lss rfl rfl rfl) hc1) ?_
   refine zN ?_
   refine RunC.cond_true rfl rfl ?_
   refine RunC.skip ?_
   refine RunC.seq ?_
   refine RunC.block ?_
   obtain ⟨x5, hx2, h2_⟩ := olet_some h2_
   obtain ⟨x6, hx3, h2_⟩ := olet_some h2_
   obtain ⟨x7, hx4, h2_⟩ := olet_some h2_
   obtain ⟨l8, hs5, h2_⟩ := obind_some h2_
   obtain ⟨r9, hf6, h2_⟩ := obind_some h2_
   obtain ⟨hm7, h2_⟩ := need_some h2_
   refine RunC.region_draw (Γ' := [⟨u1, some (L3.map f32)⟩, ⟨(u2 + 1), some (([r9] : List F).map f32)⟩]) 22 mixed 
    (TR.l (r := oref 0 u1 0 L3.length) rfl rfl (LOp.move rfl rfl) <|
    (TR.l (r := ptr (mXc a0 a1 a2)) rfl rfl (LOp.move rfl rfl) <|
    (TR.l (r := ptr (mXc a0 a1 a2)) rfl rfl (LOp.nilCheck_ptr rfl rfl) <|
    (TR.l (r := ptr [(sFc a2)]) rfl rfl (LOp.fap und33 rfl siz26 rfl rfl rfl) <|
    (TR.l (r := (sFc a2)) rfl rfl (LOp.load1 agg26 rfl rfl) <|
    (TR.l (r := i64 v4) rfl rfl (LOp.move rfl rfl) <|
    (TR.l (r := ptr (mXc a0 a1 a2)) rfl rfl (LOp.move rfl rfl) <|
    (TR.l (r := ptr (mXc a0 a1 a2)) rfl rfl (LOp.nilCheck_ptr rfl rfl) <|
    (TR.l (r := ptr [i64 a1, (sFc a2)]) rfl rfl (LOp.fap und33 rfl siz2 rfl rfl rfl) <|
    (TR.l (r := i64 a1) rfl rfl (LOp.load1 agg2 rfl rfl) <|
    (TR.l (r := i64 x5) rfl rfl (LOp.eqr (LOp.mul rfl rfl rfl) (congrArg (ik .i64) hx2)) <|
    (TR.l (r := i64 v4) rfl rfl (LOp.move rfl rfl) <|
    (TR.l (r := i64 x6) rfl rfl (LOp.eqr (LOp.add rfl rfl rfl) (congrArg (ik .i64) hx3)) <|
    (TR.l (r := ptr (mXc a0 a1 a2)) rfl rfl (LOp.move rfl rfl) <|
    (TR.l (r := ptr (mXc a0 a1 a2)) rfl rfl (LOp.nilCheck_ptr rfl rfl) <|
    (TR.l (r := ptr [i64 a1, (sFc a2)]) rfl rfl (LOp.fap und33 rfl siz2 rfl rfl rfl) <|
    (TR.l (r := i64 a1) rfl rfl (LOp.load1 agg2 rfl rfl) <|
    (TR.l (r := i64 x7) rfl rfl (LOp.eqr (LOp.mul rfl rfl rfl) (congrArg (ik .i64) hx4)) <|
    (TR.l (r := (sFc l8)) rfl rfl (LOp.slice_sl (f := f32) und26 siz28 rfl rfl rfl rfl rfl hs5) <|
    (TR.l (r := (sFc a3)) rfl rfl (LOp.move rfl rfl) <|
    (TR.d (r := f32 r9) (fs := []) rfl rfl (TOp.callB (CallAs.func ent136 rfl rfl) (Bors.cons (Bor.sl (fun _ => rfl)) (Bors.cons (Bor.sl (fun _ => rfl)) Bors.nil)) rfl rfl (s_l02Dot_ok l8 a3 r9 hf6)) <|
    (TR.d (r := oref 1 (u2 + 1) 0 1) (fs := [(1, (([r9] : List F).map f32))]) rfl rfl (TOp.buildSlice_o (g := ⟨u2, none⟩) (za := f32 (some 0)) (qs := [(0, [f32 r9])]) 1 rfl und26 siz28 zer28 rfl zel28 rfl rfl ⟨rfl, ⟨_, ALe.refl _, rfl⟩, trivial⟩ rfl) <|
    TR.nil)))))))))))))))))))))) rfl (by kernel_rfl) rfl (fills_of (by show List.Nodup [1]; decide) ⟨⟨_, rfl⟩, trivial⟩) rfl ?_
   iterate 22 refine ROps.dropS ?_
   refine ROps.drop0 ?_
   refine ROps.app (f := f32) (xs := L3) (ys := ([r9] : List F)) (Γ' := [⟨(u1 + 1), some ((L3 ++ ([r9] : List F)).map f32)⟩, ⟨(u2 + 1), some (([r9] : List F).map f32)⟩]) rfl pun26 inf28 rfl rfl rfl rfl rfl rfl rfl rfl rfl (by simp) (ReadAs.own rfl (by simp)) (ones_map (fun _ => rfl)) (ap_by hm7) (ap_mx hm7) rfl ?_
   refine za (r := oref 0 (u1 + 1) 0 (L3.length + 1)) ?_
   refine zN ?_
   refine RunC.wl (τ' := [(0, ptr (mXc a0 a1 a2)), (1, (sFc a3)), (5, oref 0 (u1 + 1) 0 (L3.length + 1)), (6, i64 v4)]) (Γ' := [⟨(u1 + 1), some ((L3 ++ ([r9] : List F)).map f32)⟩, ⟨(u2 + 1), none⟩]) ⟨aR, aR, aR, aR, trivial⟩ ⟨⟨rfl, .inr rfl⟩, ⟨rfl, .inl rfl⟩, trivial⟩ ?_
   obtain ⟨x10, hx8, h2_⟩ := olet_some h2_
   refine RunC.regionW ?_
   refine zm (r := i64 v4) ?_
   refine zl (r := i64 x10) (LOp.eqr (LOp.add rfl rfl rfl) (congrArg (ik .i64) hx8)) ?_
   refine za (r := i64 x10) ?_
   refine zN ?_
   cases Option.some.inj h2_
   exact ⟨_, rfl, (u1 + 1), (u2 + 1), ⟨aR, aR, (ALe.eq (by rw [(app_len rfl rfl)] <;> rfl)), aR, trivial⟩, ⟨⟨rfl, .inr rfl⟩, ⟨rfl, .inl rfl⟩, trivial⟩⟩
  ·refine RunC.regionW ?_
   refine zm (r := i64 v4) ?_
   refine zm (r := ptr (mXc a0 a1 a2)) ?_
   refine zl (r := ptr (mXc a0 a1 a2)) (LOp.nilCheck_ptr rfl rfl) ?_
   refine zl (r := ptr (mXc a0 a1 a2)) (LOp.fap und33 rfl siz2 rfl rfl rfl) ?_
   refine zl (r := i64 a0) (LOp.load1 agg2 rfl rfl) ?_
   refine zl (r := b false) (LOp.eqb (LOp.lss rfl rfl rfl) hc1) ?_
   refine zN ?_
   refine RunC.cond_false rfl rfl ?_
   refine RunC.exit ?_
   cases Option.some.inj h2_
   have hx := ho2 _ rfl
   exact ⟨L3, u1, u2, ⟨aR, trivial⟩, ⟨⟨rfl, .inr rfl⟩, ⟨rfl, .inl rfl⟩, trivial⟩, hx⟩
 ·rintro τ3 Γ3 ⟨L13, u11, u12, hw3, hd3, rfl⟩
  refine RunC.wl hw3 hd3 ?_
  replace h : s_l02Times_k1 L13 = some q0 := h
  unfold s_l02Times_k1 at h
  refine zQ ?_
  refine zm (r := oref 0 u11 0 L13.length) ?_
  refine za (r := oref 0 u11 0 L13.length) ?_
  refine zN ?_
  refine RunC.ret ?_
  have hq := Option.some.inj h
  subst q0
  exact bodyQ.mk (r' := oref 0 u11 0 L13.length) [(0, u11)] (.inr rfl) rfl (show List.Nodup [0] from by decide) (by simp [ren, rens, sigma]) rfl (Res.one rfl (RV.tmp rfl)) (SelL.arr0 (f := f32) (fun _ => rfl) rfl trivial)
noncomputable def s_l02List_0o (a0 : List F) : Option ((Bool × (List F)) ⊕ (Bool × (List F) × (List F))) :=
 obind (s_l02Finite a0) fun (r1 : Bool) =>
 bsel r1 (
  some (Sum.inl (true, a0))) (
  some (Sum.inr (false, a0, ([] : List F))))
theorem s_l02List_0o_ok0 (a0 : List F) (q0 : Bool) (q1 : List F) (h : s_l02List_0o a0 = some (Sum.inl (q0, q1))) : Ev Try.prog 68 [oref 0 0 0 a0.length] [⟨0, some (a0.map f32)⟩] (tup [oref 0 0 0 q1.length, b q0]) [⟨0, some (q1.map f32)⟩] := by
 refine Ev.start Try.func68 rfl rfl 1 (τ := [(0, oref 0 0 0 a0.length)]) rfl (Γ' := [⟨0, some (a0.map f32)⟩, ⟨0, none⟩]) rfl (n := 16) rfl (g := 1) rfl (by decide) ?_
 unfold s_l02List_0o at h
 refine zQ ?_
 refine za (r := nilsl) ?_
 refine za (r := b false) ?_
 refine zN ?_
 iterate 2 (refine RunC.seq ?_)
 obtain ⟨r1, hf1, h⟩ := obind_some h
 rcases bsel_some h with ⟨hc2, h⟩ | ⟨hc2, h⟩
 ·refine RunC.regionW ?_
  refine zm (r := oref 0 0 0 a0.length) ?_
  refine ROps.d (r := b true) (fs := []) (Γ' := [⟨0, some (a0.map f32)⟩, ⟨0, none⟩]) rfl rfl rfl (TOp.eqb (TOp.callB (CallAs.func ent135 rfl rfl) (Bors.cons (Bor.own (f := f32) (fun _ => rfl) rfl rfl) Bors.nil) rfl rfl (s_l02Finite_ok a0 r1 hf1)) hc2) rfl ?_
  refine zl (r := b false) (LOp.eqb (LOp.not rfl rfl) rfl) ?_
  refine zN ?_
  refine RunC.cond_false rfl rfl ?_
  refine RunC.skip ?_
  refine zQ ?_
  refine zm (r := oref 0 0 0 a0.length) ?_
  refine za (r := oref 0 0 0 a0.length) ?_
  refine za (r := b true) ?_
  refine zN ?_
  refine RunC.ret ?_
  have hq := Option.some.inj h
  have hq := Sum.inl.inj hq
  obtain ⟨hq0, hq⟩ := Prod.mk.inj hq
  subst q0
  subst q1
  exact bodyQ.mk (r' := tup [oref 0 0 0 a0.length, b true]) [(0, 0)] (.inr rfl) rfl (show List.Nodup [0] from by decide) rfl rfl (Res.two rfl (RV.tmp rfl) (RV.tmp rfl)) (SelL.arr (f := f32) (fun _ => rfl) rfl trivial)
 ·refine RunC.regionW ?_
  refine zm (r := oref 0 0 0 a0.length) ?_
  refine ROps.d (r := b false) (fs := []) (Γ' := [⟨0, some (a0.map f32)⟩, ⟨0, none⟩]) rfl rfl rfl (TOp.eqb (TOp.callB (CallAs.func ent135 rfl rfl) (Bors.cons (Bor.own (f := f32) (fun _ => rfl) rfl rfl) Bors.nil) rfl rfl (s_l02Finite_ok a0 r1 hf1)) hc2) rfl ?_
  refine zl (r := b true) (LOp.eqb (LOp.not rfl rfl) rfl) ?_
  refine zN ?_
  refine RunC.cond_true rfl rfl ?_
  refine zQ ?_
  refine za (r := nilsl) ?_
  refine za (r := b false) ?_
  refine zN ?_
  cases Option.some.inj h
theorem s_l02List_0o_ok1 (a0 : List F) (q0 : Bool) (q1 : List F) (q2 : List F) (h : s_l02List_0o a0 = some (Sum.inr (q0, q1, q2))) : Ev Try.prog 68 [oref 0 0 0 a0.length] [⟨0, some (a0.map f32)⟩] (tup [oref 1 0 0 q2.length, b q0]) [⟨0, some (q1.map f32)⟩, ⟨0, some (q2.map f32)⟩] := by
 refine Ev.start Try.func68 rfl rfl 1 (τ := [(0, oref 0 0 0 a0.length)]) rfl (Γ' := [⟨0, some (a0.map f32)⟩, ⟨0, none⟩]) rfl (n := 16) rfl (g := 1) rfl (by decide) ?_
 unfold s_l02List_0o at h
 refine zQ ?_
 refine za (r := nilsl) ?_
 refine za (r := b false) ?_
 refine zN ?_
 iterate 2 (refine RunC.seq ?_)
 obtain ⟨r1, hf1, h⟩ := obind_some h
 rcases bsel_some h with ⟨hc2, h⟩ | ⟨hc2, h⟩
 ·refine RunC.regionW ?_
  refine zm (r := oref 0 0 0 a0.length) ?_
  refine ROps.d (r := b true) (fs := []) (Γ' := [⟨0, some (a0.map f32)⟩, ⟨0, none⟩]) rfl rfl rfl (TOp.eqb (TOp.callB (CallAs.func ent135 rfl rfl) (Bors.cons (Bor.own (f := f32) (fun _ => rfl) rfl rfl) Bors.nil) rfl rfl (s_l02Finite_ok a0 r1 hf1)) hc2) rfl ?_
  refine zl (r := b false) (LOp.eqb (LOp.not rfl rfl) rfl) ?_
  refine zN ?_
  refine RunC.cond_false rfl rfl ?_
  refine RunC.skip ?_
  refine zQ ?_
  refine zm (r := oref 0 0 0 a0.length) ?_
  refine za (r := oref 0 0 0 a0.length) ?_
  refine za (r := b true) ?_
  refine zN ?_
  cases Option.some.inj h
 ·refine RunC.regionW ?_
  refine zm (r := oref 0 0 0 a0.length) ?_
  refine ROps.d (r := b false) (fs := []) (Γ' := [⟨0, some (a0.map f32)⟩, ⟨0, none⟩]) rfl rfl rfl (TOp.eqb (TOp.callB (CallAs.func ent135 rfl rfl) (Bors.cons (Bor.own (f := f32) (fun _ => rfl) rfl rfl) Bors.nil) rfl rfl (s_l02Finite_ok a0 r1 hf1)) hc2) rfl ?_
  refine zl (r := b true) (LOp.eqb (LOp.not rfl rfl) rfl) ?_
  refine zN ?_
  refine RunC.cond_true rfl rfl ?_
  refine zQ ?_
  refine za (r := nilsl) ?_
  refine za (r := b false) ?_
  refine zN ?_
  refine RunC.nil_slot (Γ' := [⟨0, some (a0.map f32)⟩, ⟨1, some (([] : List F).map f32)⟩]) 2 1 rfl rfl rfl ?_
  refine RunC.ret ?_
  have hq := Option.some.inj h
  have hq := Sum.inr.inj hq
  obtain ⟨hq0, hq⟩ := Prod.mk.inj hq
  obtain ⟨hq1, hq⟩ := Prod.mk.inj hq
  subst q0
  subst q1
  subst q2
  exact bodyQ.mk (r' := tup [oref 1 1 0 (([] : List F).length), b false]) [(0, 0), (1, 1)] (.inr rfl) rfl (show List.Nodup [0, 1] from by decide) rfl rfl (Res.eq (Res.two rfl (RV.tmp rfl) (RV.tmp rfl)) (by rw [(show ([] : List F).length = 0 from rfl)] <;> rfl)) (SelL.arr (f := f32) (fun _ => rfl) rfl (SelL.arr0 (f := f32) (fun _ => rfl) rfl trivial))
noncomputable def s_TimesVector (a0 : Int) (a1 : Int) (a2 : List F) (a3 : List F) : Option (Bool × (List F)) :=
 obind (s_l02Is a0 a1 a2) fun (r1 : Bool) =>
 bsel r1 (
  obind (s_l02Vector a3) fun (r2 : Bool) =>
  bsel r2 (
   bsel (!decide ((a3.length : Int) = a1)) (
    some (false, ([] : List F))) (
    obind (s_l02Times a0 a1 a2 a3) fun (r3 : List F) =>
    obind (s_l02List_0o r3) (fun z => osum z (fun y => obind2 (some y) fun (r4 : Bool) (r5 : List F) =>
     need (decide (r5.length = r3.length)) <|
     some (r4, r5)) (fun y => obind3 (some y) fun (r6 : Bool) (r7 : List F) (r8 : List F) =>
     need (decide (r7.length = r3.length)) <|
     some (r6, r8))))) (
   some (false, ([] : List F)))) (
  some (false, ([] : List F)))
theorem s_TimesVector_ok (a0 : Int) (a1 : Int) (a2 : List F) (a3 : List F) (q0 : Bool) (q1 : List F) (h : s_TimesVector a0 a1 a2 a3 = some (q0, q1)) : Ev Try.prog 15 [agg (mXc a0 a1 a2), (sFc a3)] [] (tup [oref 0 0 0 q1.length, b q0]) [⟨0, some (q1.map f32)⟩] := by
 refine Ev.start Try.func15 rfl rfl 2 (τ := [(0, agg (mXc a0 a1 a2)), (1, (sFc a3))]) rfl (Γ' := [⟨0, none⟩, ⟨0, none⟩]) rfl (n := 51) rfl (g := 0) rfl (fun _ => rfl) ?_
 unfold s_TimesVector at h
 refine zQ ?_
 refine ROps.d (r := ptr (mXc a0 a1 a2)) (fs := []) (Γ' := [⟨0, none⟩, ⟨0, none⟩]) rfl rfl rfl (TOp.box_s rfl rfl rfl) rfl ?_
 refine za (r := nilsl) ?_
 refine za (r := b false) ?_
 refine zN ?_
 iterate 2 (refine RunC.seq ?_)
 obtain ⟨r1, hf1, h⟩ := obind_some h
 rcases bsel_some h with ⟨hc2, h⟩ | ⟨hc2, h⟩
 ·obtain ⟨r2, hf3, h⟩ := obind_some h
  rcases bsel_some h with ⟨hc4, h⟩ | ⟨hc4, h⟩
  ·rcases bsel_some h with ⟨hc5, h⟩ | ⟨hc5, h⟩
   ·refine RunC.regionW ?_
    refine ROps.d (r := b true) (fs := []) (Γ' := [⟨0, none⟩, ⟨0, none⟩]) rfl rfl rfl (TOp.eqb (TOp.callB (CallAs.func ent66 rfl rfl) (Bors.cons (Bor.ptr (Bors.cons (Bor.pure rfl) (Bors.cons (Bor.pure rfl) (Bors.cons (Bor.sl (fun _ => rfl)) Bors.nil)))) Bors.nil) rfl rfl (s_l02Is_ok a0 a1 a2 r1 hf1)) hc2) rfl ?_
    refine zl (r := b false) (LOp.eqb (LOp.not rfl rfl) rfl) ?_
    refine zm (r := b false) ?_
    refine zm (r := (sFc a3)) ?_
    refine ROps.d (r := b true) (fs := []) (Γ' := [⟨0, none⟩, ⟨0, none⟩]) rfl rfl rfl (TOp.eqb (TOp.callB (CallAs.func ent67 rfl rfl) (Bors.cons (Bor.sl (fun _ => rfl)) Bors.nil) rfl rfl (s_l02Vector_ok a3 r2 hf3)) hc4) rfl ?_
    refine zl (r := b false) (LOp.eqb (LOp.not rfl rfl) rfl) ?_
    refine zl (r := b false) (LOp.pick_false rfl rfl rfl) ?_
    refine zm (r := b false) ?_
    refine zm (r := (sFc a3)) ?_
    refine zl (r := i64 (a3.length : Int)) (LOp.len_sl und26 rfl rfl) ?_
    refine zl (r := ptr [i64 a1, (sFc a2)]) (LOp.fap und33 rfl siz2 rfl rfl rfl) ?_
    refine zl (r := i64 a1) (LOp.load1 agg2 rfl rfl) ?_
    refine zl (r := b true) (LOp.eqb (LOp.neq rfl rfl rfl) hc5) ?_
    refine zl (r := b true) (LOp.pick_false rfl rfl rfl) ?_
    refine zN ?_
    refine RunC.wl (τ' := [(1, (sFc a3)), (2, ptr (mXc a0 a1 a2)), (19, b true)]) (Γ' := [⟨0, none⟩, ⟨0, none⟩]) ⟨aR, aR, aR, trivial⟩ ⟨⟨rfl, .inr rfl⟩, ⟨rfl, .inr rfl⟩, trivial⟩ ?_
    refine RunC.cond_true rfl rfl ?_
    refine zQ ?_
    refine za (r := nilsl) ?_
    refine za (r := b false) ?_
    refine zN ?_
    refine RunC.nil_slot (Γ' := [⟨1, some (([] : List F).map f32)⟩, ⟨0, none⟩]) 4 0 rfl rfl rfl ?_
    refine RunC.ret ?_
    have hq := Option.some.inj h
    obtain ⟨hq0, hq⟩ := Prod.mk.inj hq
    subst q0
    subst q1
    exact bodyQ.mk (r' := tup [oref 0 1 0 (([] : List F).length), b false]) [(0, 1)] (.inr rfl) rfl (show List.Nodup [0] from by decide) rfl rfl (Res.eq (Res.two rfl (RV.tmp rfl) (RV.tmp rfl)) (by rw [(show ([] : List F).length = 0 from rfl)] <;> rfl)) (SelL.arr0 (f := f32) (fun _ => rfl) rfl trivial)
   ·refine RunC.regionW ?_
    refine ROps.d (r := b true) (fs := []) (Γ' := [⟨0, none⟩, ⟨0, none⟩]) rfl rfl rfl (TOp.eqb (TOp.callB (CallAs.func ent66 rfl rfl) (Bors.cons (Bor.ptr (Bors.cons (Bor.pure rfl) (Bors.cons (Bor.pure rfl) (Bors.cons (Bor.sl (fun _ => rfl)) Bors.nil)))) Bors.nil) rfl rfl (s_l02Is_ok a0 a1 a2 r1 hf1)) hc2) rfl ?_
    refine zl (r := b false) (LOp.eqb (LOp.not rfl rfl) rfl) ?_
    refine zm (r := b false) ?_
    refine zm (r := (sFc a3)) ?_
    refine ROps.d (r := b true) (fs := []) (Γ' := [⟨0, none⟩, ⟨0, none⟩]) rfl rfl rfl (TOp.eqb (TOp.callB (CallAs.func ent67 rfl rfl) (Bors.cons (Bor.sl (fun _ => rfl)) Bors.nil) rfl rfl (s_l02Vector_ok a3 r2 hf3)) hc4) rfl ?_
    refine zl (r := b false) (LOp.eqb (LOp.not rfl rfl) rfl) ?_
    refine zl (r := b false) (LOp.pick_false rfl rfl rfl) ?_
    refine zm (r := b false) ?_
    refine zm (r := (sFc a3)) ?_
    refine zl (r := i64 (a3.length : Int)) (LOp.len_sl und26 rfl rfl) ?_
    refine zl (r := ptr [i64 a1, (sFc a2)]) (LOp.fap und33 rfl siz2 rfl rfl rfl) ?_
    refine zl (r := i64 a1) (LOp.load1 agg2 rfl rfl) ?_
    refine zl (r := b false) (LOp.eqb (LOp.neq rfl rfl rfl) hc5) ?_
    refine zl (r := b false) (LOp.pick_false rfl rfl rfl) ?_
    refine zN ?_
    refine RunC.wl (τ' := [(1, (sFc a3)), (2, ptr (mXc a0 a1 a2)), (19, b false)]) (Γ' := [⟨0, none⟩, ⟨0, none⟩]) ⟨aR, aR, aR, trivial⟩ ⟨⟨rfl, .inr rfl⟩, ⟨rfl, .inr rfl⟩, trivial⟩ ?_
    refine RunC.cond_false rfl rfl ?_
    refine RunC.skip ?_
    refine RunC.seq ?_
    obtain ⟨r3, hf6, h⟩ := obind_some h
    obtain ⟨z1, hf7, h⟩ := obind_some h
    rcases z1 with z1 | z1
    ·replace h := (osum_inl _ _ _).symm.trans h
     obtain ⟨r4, r5, hz2, h⟩ := obind2_some h
     cases hz2
     obtain ⟨hn8, h⟩ := need_some h
     refine RunC.regionW ?_
     refine zm (r := (sFc a3)) ?_
     refine ROps.d (r := oref 0 1 0 r3.length) (fs := [(0, (r3.map f32))]) (Γ' := [⟨1, some (r3.map f32)⟩, ⟨0, none⟩]) rfl rfl rfl (TOp.callBN (ls := [(r3.map f32)]) [0] (CallAs.func ent69 rfl rfl) (Bors.cons (Bor.ptr (Bors.cons (Bor.pure rfl) (Bors.cons (Bor.pure rfl) (Bors.cons (Bor.sl (fun _ => rfl)) Bors.nil)))) (Bors.cons (Bor.sl (fun _ => rfl)) Bors.nil)) rfl (s_l02Times_ok a0 a1 a2 a3 r3 hf6) (and_all (lts0_map (f := f32) (fun _ => rfl) _) rfl) (and_all (noss_map (f := f32) (fun _ => rfl) _) rfl) rfl (by decide) (ns_of ⟨⟨_, rfl⟩, trivial⟩)) rfl ?_
     refine ROps.callO (A := [oref 0 1 0 r3.length]) (args := [oref 0 0 0 r3.length]) (Γc := [⟨0, some (r3.map f32)⟩]) (Γc' := [⟨0, some (r5.map f32)⟩]) (r' := tup [oref 0 1 0 r3.length, b r4]) (Γ' := [⟨1, some (r5.map f32)⟩, ⟨0, none⟩]) [(0, 1)] [] rfl (CallAs.func ent68 rfl rfl) rfl rfl (SelOk.of (show List.Nodup [0] from by decide) (SelL.arr0 (f := f32) (fun _ => rfl) rfl trivial)) (live_of ⟨⟨_, _, rfl⟩, trivial⟩) (by simp [ren, rens, sigma, rens_f32, rens_f64, rens_i64, rens_ik, rens_str, rens_cp]) rfl (s_l02List_0o_ok0 r3 r4 r5 hf7) rfl (news_of trivial) (show List.Nodup [0] from by decide) (by simp [ren, rens, sigma, of_decide_eq_true hn8]) (by simp [backOb, sigma, ren, rens, rens_f32, rens_f64, rens_i64, rens_ik, rens_str, rens_cp]) ?_
     refine zl (r := oref 0 1 0 r3.length) (LOp.extract rfl rfl rfl) ?_
     refine zl (r := b r4) (LOp.extract rfl rfl rfl) ?_
     refine za (r := oref 0 1 0 r3.length) ?_
     refine za (r := b r4) ?_
     refine zN ?_
     refine RunC.ret ?_
     have hq := Option.some.inj h
     obtain ⟨hq0, hq⟩ := Prod.mk.inj hq
     subst q0
     subst q1
     exact bodyQ.mk (r' := tup [oref 0 1 0 r5.length, b r4]) [(0, 1)] (.inr rfl) rfl (show List.Nodup [0] from by decide) rfl rfl (Res.eq (Res.two rfl (RV.tmp rfl) (RV.tmp rfl)) (by rw [(show r5.length = r3.length from (of_decide_eq_true hn8))] <;> rfl)) (SelL.arr0 (f := f32) (fun _ => rfl) rfl trivial)
    ·replace h := (osum_inr _ _ _).symm.trans h
     obtain ⟨r6, r7, r8, hz3, h⟩ := obind3_some h
     cases hz3
     obtain ⟨hn9, h⟩ := need_some h
     refine RunC.regionW ?_
     refine zm (r := (sFc a3)) ?_
     refine ROps.d (r := oref 0 1 0 r3.length) (fs := [(0, (r3.map f32))]) (Γ' := [⟨1, some (r3.map f32)⟩, ⟨0, none⟩]) rfl rfl rfl (TOp.callBN (ls := [(r3.map f32)]) [0] (CallAs.func ent69 rfl rfl) (Bors.cons (Bor.ptr (Bors.cons (Bor.pure rfl) (Bors.cons (Bor.pure rfl) (Bors.cons (Bor.sl (fun _ => rfl)) Bors.nil)))) (Bors.cons (Bor.sl (fun _ => rfl)) Bors.nil)) rfl (s_l02Times_ok a0 a1 a2 a3 r3 hf6) (and_all (lts0_map (f := f32) (fun _ => rfl) _) rfl) (and_all (noss_map (f := f32) (fun _ => rfl) _) rfl) rfl (by decide) (ns_of ⟨⟨_, rfl⟩, trivial⟩)) rfl ?_
     refine ROps.callO (A := [oref 0 1 0 r3.length]) (args := [oref 0 0 0 r3.length]) (Γc := [⟨0, some (r3.map f32)⟩]) (Γc' := [⟨0, some (r7.map f32)⟩, ⟨0, some (r8.map f32)⟩]) (r' := tup [oref 1 1 0 r8.length, b r6]) (Γ' := [⟨1, some (r7.map f32)⟩, ⟨1, some (r8.map f32)⟩]) [(0, 1)] [(1, 1)] rfl (CallAs.func ent68 rfl rfl) rfl rfl (SelOk.of (show List.Nodup [0] from by decide) (SelL.arr0 (f := f32) (fun _ => rfl) rfl trivial)) (live_of ⟨⟨_, _, rfl⟩, trivial⟩) (by simp [ren, rens, sigma, rens_f32, rens_f64, rens_i64, rens_ik, rens_str, rens_cp]) rfl (s_l02List_0o_ok1 r3 r6 r7 r8 hf7) rfl (news_of ⟨⟨_, rfl, rfl⟩, trivial⟩) (show List.Nodup [0, 1] from by decide) (by simp [ren, rens, sigma, of_decide_eq_true hn9]) (by simp [backOb, sigma, ren, rens, rens_f32, rens_f64, rens_i64, rens_ik, rens_str, rens_cp]) ?_
     refine zl (r := oref 1 1 0 r8.length) (LOp.extract rfl rfl rfl) ?_
     refine zl (r := b r6) (LOp.extract rfl rfl rfl) ?_
     refine za (r := oref 1 1 0 r8.length) ?_
     refine za (r := b r6) ?_
     refine zN ?_
     refine RunC.ret ?_
     have hq := Option.some.inj h
     obtain ⟨hq0, hq⟩ := Prod.mk.inj hq
     subst q0
     subst q1
     exact bodyQ.mk (r' := tup [oref 1 1 0 r8.length, b r6]) [(1, 1)] (.inr rfl) rfl (show List.Nodup [1] from by decide) rfl rfl (Res.two rfl (RV.tmp rfl) (RV.tmp rfl)) (SelL.arr0 (f := f32) (fun _ => rfl) rfl trivial)
  ·refine RunC.regionW ?_
   refine ROps.d (r := b true) (fs := []) (Γ' := [⟨0, none⟩, ⟨0, none⟩]) rfl rfl rfl (TOp.eqb (TOp.callB (CallAs.func ent66 rfl rfl) (Bors.cons (Bor.ptr (Bors.cons (Bor.pure rfl) (Bors.cons (Bor.pure rfl) (Bors.cons (Bor.sl (fun _ => rfl)) Bors.nil)))) Bors.nil) rfl rfl (s_l02Is_ok a0 a1 a2 r1 hf1)) hc2) rfl ?_
   refine zl (r := b false) (LOp.eqb (LOp.not rfl rfl) rfl) ?_
   refine zm (r := b false) ?_
   refine zm (r := (sFc a3)) ?_
   refine ROps.d (r := b false) (fs := []) (Γ' := [⟨0, none⟩, ⟨0, none⟩]) rfl rfl rfl (TOp.eqb (TOp.callB (CallAs.func ent67 rfl rfl) (Bors.cons (Bor.sl (fun _ => rfl)) Bors.nil) rfl rfl (s_l02Vector_ok a3 r2 hf3)) hc4) rfl ?_
   refine zl (r := b true) (LOp.eqb (LOp.not rfl rfl) rfl) ?_
   refine zl (r := b true) (LOp.pick_false rfl rfl rfl) ?_
   refine zm (r := b true) ?_
   iterate 5 (refine ROps.s rfl rfl rfl ?_)
   refine zl (r := b true) (LOp.pick_true rfl rfl rfl) ?_
   refine zN ?_
   refine RunC.wl (τ' := [(1, (sFc a3)), (2, ptr (mXc a0 a1 a2)), (19, b true)]) (Γ' := [⟨0, none⟩, ⟨0, none⟩]) ⟨aR, aR, aR, trivial⟩ ⟨⟨rfl, .inr rfl⟩, ⟨rfl, .inr rfl⟩, trivial⟩ ?_
   refine RunC.cond_true rfl rfl ?_
   refine zQ ?_
   refine za (r := nilsl) ?_
   refine za (r := b false) ?_
   refine zN ?_
   refine RunC.nil_slot (Γ' := [⟨1, some (([] : List F).map f32)⟩, ⟨0, none⟩]) 4 0 rfl rfl rfl ?_
   refine RunC.ret ?_
   have hq := Option.some.inj h
   obtain ⟨hq0, hq⟩ := Prod.mk.inj hq
   subst q0
   subst q1
   exact bodyQ.mk (r' := tup [oref 0 1 0 (([] : List F).length), b false]) [(0, 1)] (.inr rfl) rfl (show List.Nodup [0] from by decide) rfl rfl (Res.eq (Res.two rfl (RV.tmp rfl) (RV.tmp rfl)) (by rw [(show ([] : List F).length = 0 from rfl)] <;> rfl)) (SelL.arr0 (f := f32) (fun _ => rfl) rfl trivial)
 ·refine RunC.regionW ?_
  refine ROps.d (r := b false) (fs := []) (Γ' := [⟨0, none⟩, ⟨0, none⟩]) rfl rfl rfl (TOp.eqb (TOp.callB (CallAs.func ent66 rfl rfl) (Bors.cons (Bor.ptr (Bors.cons (Bor.pure rfl) (Bors.cons (Bor.pure rfl) (Bors.cons (Bor.sl (fun _ => rfl)) Bors.nil)))) Bors.nil) rfl rfl (s_l02Is_ok a0 a1 a2 r1 hf1)) hc2) rfl ?_
  refine zl (r := b true) (LOp.eqb (LOp.not rfl rfl) rfl) ?_
  refine zm (r := b true) ?_
  iterate 3 (refine ROps.s rfl rfl rfl ?_)
  refine zl (r := b true) (LOp.pick_true rfl rfl rfl) ?_
  refine zm (r := b true) ?_
  iterate 5 (refine ROps.s rfl rfl rfl ?_)
  refine zl (r := b true) (LOp.pick_true rfl rfl rfl) ?_
  refine zN ?_
  refine RunC.wl (τ' := [(1, (sFc a3)), (2, ptr (mXc a0 a1 a2)), (19, b true)]) (Γ' := [⟨0, none⟩, ⟨0, none⟩]) ⟨aR, aR, aR, trivial⟩ ⟨⟨rfl, .inr rfl⟩, ⟨rfl, .inr rfl⟩, trivial⟩ ?_
  refine RunC.cond_true rfl rfl ?_
  refine zQ ?_
  refine za (r := nilsl) ?_
  refine za (r := b false) ?_
  refine zN ?_
  refine RunC.nil_slot (Γ' := [⟨1, some (([] : List F).map f32)⟩, ⟨0, none⟩]) 4 0 rfl rfl rfl ?_
  refine RunC.ret ?_
  have hq := Option.some.inj h
  obtain ⟨hq0, hq⟩ := Prod.mk.inj hq
  subst q0
  subst q1
  exact bodyQ.mk (r' := tup [oref 0 1 0 (([] : List F).length), b false]) [(0, 1)] (.inr rfl) rfl (show List.Nodup [0] from by decide) rfl rfl (Res.eq (Res.two rfl (RV.tmp rfl) (RV.tmp rfl)) (by rw [(show ([] : List F).length = 0 from rfl)] <;> rfl)) (SelL.arr0 (f := f32) (fun _ => rfl) rfl trivial)
noncomputable def i_unit_1 (a0 : Int) (a1 : Int) : Option (F) :=
 bsel (decide (a0 = a1)) (
  some (some 1065353216)) (
  some (some 0))
theorem i_unit_1_ok (a0 : Int) (a1 : Int) (q0 : F) (h : i_unit_1 a0 a1 = some q0) : Ev Try.prog 154 [i64 a0, i64 a1] [] (f32 q0) [] := by
 refine Ev.start Try.func154 rfl rfl 0 (τ := [(0, i64 a0), (1, i64 a1)]) rfl (Γ' := []) rfl (n := 17) rfl (g := 0) rfl (fun _ => rfl) ?_
 unfold i_unit_1 at h
 refine zQ ?_
 refine zl (r := f32 (some 0)) (LOp.le (LOp.assign rfl rfl) (ALe.fl (by kernel_rfl) (by kernel_rfl))) ?_
 refine zN ?_
 iterate 2 (refine RunC.seq ?_)
 rcases bsel_some h with ⟨hc1, h⟩ | ⟨hc1, h⟩
 ·refine RunC.regionW ?_
  refine zm (r := i64 a0) ?_
  refine zm (r := i64 a1) ?_
  refine zl (r := b true) (LOp.eqb (LOp.eql rfl rfl rfl) hc1) ?_
  refine zN ?_
  refine RunC.cond_true rfl rfl ?_
  refine zQ ?_
  refine zl (r := f32 (some 1065353216)) (LOp.le (LOp.assign rfl rfl) (ALe.fl (by kernel_rfl) (by kernel_rfl))) ?_
  refine zN ?_
  refine RunC.ret ?_
  have hq := Option.some.inj h
  subst q0
  exact bodyQ.pure (.inr rfl) rfl (Res.one rfl (RV.tmp rfl))
 ·refine RunC.regionW ?_
  refine zm (r := i64 a0) ?_
  refine zm (r := i64 a1) ?_
  refine zl (r := b false) (LOp.eqb (LOp.eql rfl rfl rfl) hc1) ?_
  refine zN ?_
  refine RunC.cond_false rfl rfl ?_
  refine RunC.skip ?_
  refine zQ ?_
  refine zl (r := f32 (some 0)) (LOp.le (LOp.assign rfl rfl) (ALe.fl (by kernel_rfl) (by kernel_rfl))) ?_
  refine zN ?_
  refine RunC.ret ?_
  have hq := Option.some.inj h
  subst q0
  exact bodyQ.pure (.inr rfl) rfl (Res.one rfl (RV.tmp rfl))
noncomputable def i_made_2Fi_unit_1_b2 (a1 : Int) (r1 : Int) (r2 : Int) (r3 : List F) (v6 : Int) (L7 : List F) (v9 : Int) : Option (LR ((List F) × Int) ((List F)) (Int × Int × (List F))) :=
 bsel (decide (v9 < a1)) (
  obind (i_unit_1 v6 v9) fun (r11 : F) =>
  obind (i_Matrix_set_02o r1 r2 v6 v9 r11 L7) fun (r12 : List F) =>
  need (decide (r12.length = r3.length)) <|
  olet (IntKind.i64.wrap (v9 + 1)) fun (x13 : Int) =>
  some (LR.next (r12, x13))) (
  some (LR.out L7))
noncomputable def i_made_2Fi_unit_1_s2 (a1 : Int) (r1 : Int) (r2 : Int) (r3 : List F) (v6 : Int) : ((List F) × Int) → Option (LR ((List F) × Int) ((List F)) (Int × Int × (List F))) := fun s => i_made_2Fi_unit_1_b2 a1 r1 r2 r3 v6 s.1 s.2
noncomputable def i_made_2Fi_unit_1_k2 (v6 : Int) (L14 : List F) : Option (LR ((List F) × Int) ((List F)) (Int × Int × (List F))) :=
 olet (IntKind.i64.wrap (v6 + 1)) fun (x16 : Int) =>
 some (LR.next (L14, x16))
noncomputable def i_made_2Fi_unit_1_b3 (a0 : Int) (a1 : Int) (r1 : Int) (r2 : Int) (r3 : List F) (L4 : List F) (v6 : Int) : Option (LR ((List F) × Int) ((List F)) (Int × Int × (List F))) :=
 bsel (decide (v6 < a0)) (
  obind (loopM (i_made_2Fi_unit_1_s2 a1 r1 r2 r3 v6) (L4, 0)) fun z => osum z (fun e => i_made_2Fi_unit_1_k2 v6 e) (fun r => some (LR.ret r))) (
  some (LR.out L4))
noncomputable def i_made_2Fi_unit_1_s3 (a0 : Int) (a1 : Int) (r1 : Int) (r2 : Int) (r3 : List F) : ((List F) × Int) → Option (LR ((List F) × Int) ((List F)) (Int × Int × (List F))) := fun s => i_made_2Fi_unit_1_b3 a0 a1 r1 r2 r3 s.1 s.2
noncomputable def i_made_2Fi_unit_1_k3 (r1 : Int) (r2 : Int) (L17 : List F) : Option (Int × Int × (List F)) :=
 some (r1, r2, L17)
noncomputable def i_made_2Fi_unit_1 (a0 : Int) (a1 : Int) : Option (Int × Int × (List F)) :=
 obind3 (i_newMatrix a0 a1) fun (r1 : Int) (r2 : Int) (r3 : List F) =>
 obind (loopM (i_made_2Fi_unit_1_s3 a0 a1 r1 r2 r3) (r3, 0)) fun z => osum z (fun e => i_made_2Fi_unit_1_k3 r1 r2 e) (fun r => some r)
theorem i_made_2Fi_unit_1_ok (a0 : Int) (a1 : Int) (q0 : Int) (q1 : Int) (q2 : List F) (h : i_made_2Fi_unit_1 a0 a1 = some (q0, q1, q2)) : Ev Try.prog 64 [i64 a0, i64 a1, fn (.func 154) [] []] [] (agg (oXc q0 q1 0 0 q2.length)) [⟨0, some (q2.map f32)⟩] := by
 refine Ev.start Try.func64 rfl rfl 3 (τ := [(0, i64 a0), (1, i64 a1), (2, fn (.func 154) [] [])]) rfl (Γ' := [⟨0, none⟩, ⟨0, none⟩, ⟨0, none⟩]) rfl (n := 65) rfl (g := 0) rfl (fun _ => rfl) ?_
 unfold i_made_2Fi_unit_1 at h
 refine zQ ?_
 refine ROps.d (r := optr 0 1 0) (fs := [(0, zMx)]) (Γ' := [⟨1, some zMx⟩, ⟨0, none⟩, ⟨0, none⟩]) rfl rfl rfl (TOp.alloc_o (g := ⟨0, none⟩) 0 rfl zer33 zok33 rfl) rfl ?_
 refine zN ?_
 refine RunC.seq ?_
 obtain ⟨r1, r2, r3, hf1, h⟩ := obind3_some h
 refine RunC.regionW ?_
 refine zm (r := i64 a0) ?_
 refine zm (r := i64 a1) ?_
 refine ROps.d (r := agg (oXc r1 r2 1 1 r3.length)) (fs := [(1, (r3.map f32))]) (Γ' := [⟨1, some zMx⟩, ⟨1, some (r3.map f32)⟩, ⟨0, none⟩]) rfl rfl rfl (TOp.callBN (ls := [(r3.map f32)]) [1] (CallAs.func ent113 rfl rfl) (Bors.cons (Bor.pure rfl) (Bors.cons (Bor.pure rfl) Bors.nil)) rfl (i_newMatrix_ok a0 a1 r1 r2 r3 hf1) (and_all (lts0_map (f := f32) (fun _ => rfl) _) rfl) (and_all (noss_map (f := f32) (fun _ => rfl) _) rfl) rfl (by decide) (ns_of ⟨⟨_, rfl⟩, trivial⟩)) rfl ?_
 refine ROps.d (r := optr 2 1 0) (fs := [(2, zMx)]) (Γ' := [⟨1, some zMx⟩, ⟨1, some (r3.map f32)⟩, ⟨1, some zMx⟩]) rfl rfl rfl (TOp.alloc_o (g := ⟨0, none⟩) 2 rfl zer33 zok33 rfl) rfl ?_
 refine ROps.store_le (r := agg (oXc r1 r2 1 1 r3.length)) (l' := (oXc r1 r2 1 1 r3.length)) (Γ' := [⟨1, some zMx⟩, ⟨1, some (r3.map f32)⟩, ⟨1, some (oXc r1 r2 1 1 r3.length)⟩]) rfl siz33 rfl rfl rfl aR rfl rfl rfl rfl (Nat.le_of_ble_eq_true rfl) rfl rfl ?_
 refine zN ?_
 refine RunC.seq ?_
 refine zQ ?_
 refine zm (r := i64 a0) ?_
 refine zm (r := i64 0) ?_
 refine zN ?_
 obtain ⟨z4, hz_4, h⟩ := obind_some h
 refine RunC.cutN (fun τ Γ => ∃ (L17 : List F), L17.length = r3.length ∧ WeakLe τ [(6, optr 0 1 0), (7, optr 2 1 0)] ∧ DeadLe Γ [⟨1, some zMx⟩, ⟨1, some (L17.map f32)⟩, ⟨1, some (oXc r1 r2 1 1 r3.length)⟩] ∧ z4 = .inl L17) ?_ ?_
 ·refine RunC.block (RunC.loop (RunL.loopM (x := z4) (i_made_2Fi_unit_1_s3 a0 a1 r1 r2 r3) (fun (s : (List F) × Int) τ Γ => s.1.length = r3.length ∧ WeakLe τ [(1, i64 a1), (2, fn (.func 154) [] []), (6, optr 0 1 0), (7, optr 2 1 0), (13, i64 a0), (14, i64 s.2)] ∧ DeadLe Γ [⟨1, some zMx⟩, ⟨1, some (s.1.map f32)⟩, ⟨1, some (oXc r1 r2 1 1 r3.length)⟩]) ?_ _ _ _ hz_4 ⟨rfl, ⟨aR, aR, aR, aR, aR, aR, trivial⟩, ⟨⟨rfl, .inr rfl⟩, ⟨rfl, .inr rfl⟩, ⟨rfl, .inr rfl⟩, trivial⟩⟩))
  rintro ⟨L4, v6⟩ τ4 Γ4 y4_ ⟨hl5, hw4, hd4⟩ h4_ ho4 hr4
  refine RunC.wl (τ' := [(1, i64 a1), (2, fn (.func 154) [] []), (6, optr 0 1 0), (7, optr 2 1 0), (13, i64 a0), (14, i64 v6)]) (Γ' := [⟨1, some zMx⟩, ⟨1, some (L4.map f32)⟩, ⟨1, some (oXc r1 r2 1 1 r3.length)⟩]) hw4 hd4 ?_
  replace hl5 : L4.length = r3.length := hl5
  replace h4_ : i_made_2Fi_unit_1_b3 a0 a1 r1 r2 r3 L4 v6 = some y4_ := h4_
  unfold i_made_2Fi_unit_1_b3 at h4_
  refine RunC.seq ?_
  rcases bsel_some h4_ with ⟨hc2, h4_⟩ | ⟨hc2, h4_⟩
  ·refine RunC.regionW ?_
   refine zl (r := b true) (LOp.eqb (LOp.lss rfl rfl rfl) hc2) ?_
   refine zN ?_
   refine RunC.seq ?_
   refine RunC.cond_true rfl rfl ?_
   refine RunC.skip ?_
   refine RunC.seq ?_
   refine RunC.block ?_
   refine zQ ?_
   refine zm (r := i64 v6) ?_
   refine za (r := i64 v6) ?_
   refine zN ?_
   refine zQ ?_
   refine zm (r := i64 a1) ?_
   refine zm (r := i64 0) ?_
   refine zN ?_
   obtain ⟨z5, hz_5, h4_⟩ := obind_some h4_
   refine RunC.cutN (fun τ Γ => ∃ (L14 : List F), L14.length = r3.length ∧ WeakLe τ [(1, i64 a1), (2, fn (.func 154) [] []), (6, optr 0 1 0), (7, optr 2 1 0), (13, i64 a0), (14, i64 v6)] ∧ DeadLe Γ [⟨1, some zMx⟩, ⟨1, some (L14.map f32)⟩, ⟨1, some (oXc r1 r2 1 1 r3.length)⟩] ∧ z5 = .inl L14) ?_ ?_
   ·refine RunC.block (RunC.loop (RunL.loopM (x := z5) (i_made_2Fi_unit_1_s2 a1 r1 r2 r3 v6) (fun (s : (List F) × Int) τ Γ => s.1.length = r3.length ∧ WeakLe τ [(1, i64 a1), (2, fn (.func 154) [] []), (6, optr 0 1 0), (7, optr 2 1 0), (8, i64 v6), (13, i64 a0), (14, i64 v6), (17, i64 a1), (18, i64 s.2)] ∧ DeadLe Γ [⟨1, some zMx⟩, ⟨1, some (s.1.map f32)⟩, ⟨1, some (oXc r1 r2 1 1 r3.length)⟩]) ?_ _ _ _ hz_5 ⟨hl5, ⟨aR, aR, aR, aR, aR, aR, aR, aR, aR, trivial⟩, ⟨⟨rfl, .inr rfl⟩, ⟨rfl, .inr rfl⟩, ⟨rfl, .inr rfl⟩, trivial⟩⟩))
    rintro ⟨L7, v9⟩ τ5 Γ5 y5_ ⟨hl8, hw5, hd5⟩ h5_ ho5 hr5
    refine RunC.wl (τ' := [(1, i64 a1), (2, fn (.func 154) [] []), (6, optr 0 1 0), (7, optr 2 1 0), (8, i64 v6), (13, i64 a0), (14, i64 v6), (17, i64 a1), (18, i64 v9)]) (Γ' := [⟨1, some zMx⟩, ⟨1, some (L7.map f32)⟩, ⟨1, some (oXc r1 r2 1 1 r3.length)⟩]) hw5 hd5 ?_
    replace hl8 : L7.length = r3.length := hl8
    replace h5_ : i_made_2Fi_unit_1_b2 a1 r1 r2 r3 v6 L7 v9 = some y5_ := h5_
    unfold i_made_2Fi_unit_1_b2 at h5_
    refine RunC.seq ?_
    rcases bsel_some h5_ with ⟨hc3, h5_⟩ | ⟨hc3, h5_⟩
    ·refine RunC.regionW ?_
     refine zl (r := b true) (LOp.eqb (LOp.lss rfl rfl rfl) hc3) ?_
     refine zN ?_
     refine RunC.seq ?_
     refine RunC.cond_true rfl rfl ?_
     refine RunC.skip ?_
     refine RunC.seq ?_
     refine RunC.block ?_
     refine zQ ?_
     refine zm (r := i64 v9) ?_
     refine za (r := i64 v9) ?_
     refine zN ?_
     obtain ⟨r11, hf5, h5_⟩ := obind_some h5_
     obtain ⟨r12, hf6, h5_⟩ := obind_some h5_
     obtain ⟨hn7, h5_⟩ := need_some h5_
     refine RunC.region_draw (Γ' := [⟨1, some zMx⟩, ⟨1, some (L7.map f32)⟩, ⟨1, some (oXc r1 r2 1 1 r3.length)⟩]) 7 mixed 
      (TR.d (r := agg (oXc r1 r2 1 1 r3.length)) (fs := []) rfl rfl (TOp.loadAgg_o rfl agg33 siz33 rfl rfl rfl rfl) <|
      (TR.l (r := i64 v6) rfl rfl (LOp.move rfl rfl) <|
      (TR.l (r := i64 v9) rfl rfl (LOp.move rfl rfl) <|
      (TR.l (r := fn (.func 154) [] []) rfl rfl (LOp.move rfl rfl) <|
      (TR.l (r := i64 v6) rfl rfl (LOp.move rfl rfl) <|
      (TR.l (r := i64 v9) rfl rfl (LOp.move rfl rfl) <|
      (TR.d (r := f32 r11) (fs := []) rfl rfl (TOp.callB (CallAs.fn ent154 rfl rfl rfl rfl) (Bors.cons (Bor.pure rfl) (Bors.cons (Bor.pure rfl) Bors.nil)) rfl rfl (i_unit_1_ok v6 v9 r11 hf5)) <|
      TR.nil))))))) rfl (by kernel_rfl) rfl fills_nil rfl ?_
     iterate 7 refine ROps.dropS ?_
     refine ROps.drop0 ?_
     refine ROps.callO (A := [agg (oXc r1 r2 1 1 r3.length), i64 v6, i64 v9, f32 r11]) (args := [agg (oXc r1 r2 0 0 L7.length), i64 v6, i64 v9, f32 r11]) (Γc := [⟨0, some (L7.map f32)⟩]) (Γc' := [⟨0, some (r12.map f32)⟩]) (r' := tup []) (Γ' := [⟨1, some zMx⟩, ⟨1, some (r12.map f32)⟩, ⟨1, some (oXc r1 r2 1 1 r3.length)⟩]) [(1, 1)] [] rfl (CallAs.func ent93 rfl rfl) rfl rfl (SelOk.of (show List.Nodup [1] from by decide) (SelL.arr0 (f := f32) (fun _ => rfl) rfl trivial)) (live_of ⟨⟨_, _, rfl⟩, trivial⟩) (by simp [ren, rens, sigma, rens_f32, rens_f64, rens_i64, rens_ik, rens_str, rens_cp, hl8]) rfl (i_Matrix_set_02o_ok r1 r2 v6 v9 r11 L7 r12 hf6) rfl (news_of trivial) (show List.Nodup [1] from by decide) (by simp [ren, rens, sigma, of_decide_eq_true hn7]) (by simp [backOb, sigma, ren, rens, rens_f32, rens_f64, rens_i64, rens_ik, rens_str, rens_cp]) ?_
     refine zN ?_
     obtain ⟨x13, hx8, h5_⟩ := olet_some h5_
     refine RunC.regionW ?_
     refine zl (r := i64 x13) (LOp.eqr (LOp.add rfl rfl rfl) (congrArg (ik .i64) hx8)) ?_
     refine zm (r := i64 x13) ?_
     refine zN ?_
     cases Option.some.inj h5_
     exact ⟨_, rfl, (of_decide_eq_true hn7), ⟨aR, aR, aR, aR, aR, aR, aR, aR, aR, trivial⟩, ⟨⟨rfl, .inr rfl⟩, ⟨rfl, .inr rfl⟩, ⟨rfl, .inr rfl⟩, trivial⟩⟩
    ·refine RunC.regionW ?_
     refine zl (r := b false) (LOp.eqb (LOp.lss rfl rfl rfl) hc3) ?_
     refine zN ?_
     refine RunC.seq ?_
     refine RunC.cond_false rfl rfl ?_
     refine RunC.exit ?_
     cases Option.some.inj h5_
     have hx := ho5 _ rfl
     exact ⟨L7, hl8, ⟨aR, aR, aR, aR, aR, aR, trivial⟩, ⟨⟨rfl, .inr rfl⟩, ⟨rfl, .inr rfl⟩, ⟨rfl, .inr rfl⟩, trivial⟩, hx⟩
   ·rintro τ6 Γ6 ⟨L14, hl15, hw6, hd6, rfl⟩
    refine RunC.wl hw6 hd6 ?_
    replace h4_ : i_made_2Fi_unit_1_k2 v6 L14 = some y4_ := h4_
    unfold i_made_2Fi_unit_1_k2 at h4_
    obtain ⟨x16, hx9, h4_⟩ := olet_some h4_
    refine RunC.regionW ?_
    refine zl (r := i64 x16) (LOp.eqr (LOp.add rfl rfl rfl) (congrArg (ik .i64) hx9)) ?_
    refine zm (r := i64 x16) ?_
    refine zN ?_
    cases Option.some.inj h4_
    exact ⟨_, rfl, hl15, ⟨aR, aR, aR, aR, aR, aR, trivial⟩, ⟨⟨rfl, .inr rfl⟩, ⟨rfl, .inr rfl⟩, ⟨rfl, .inr rfl⟩, trivial⟩⟩
  ·refine RunC.regionW ?_
   refine zl (r := b false) (LOp.eqb (LOp.lss rfl rfl rfl) hc2) ?_
   refine zN ?_
   refine RunC.seq ?_
   refine RunC.cond_false rfl rfl ?_
   refine RunC.exit ?_
   cases Option.some.inj h4_
   have hx := ho4 _ rfl
   exact ⟨L4, hl5, ⟨aR, aR, trivial⟩, ⟨⟨rfl, .inr rfl⟩, ⟨rfl, .inr rfl⟩, ⟨rfl, .inr rfl⟩, trivial⟩, hx⟩
 ·rintro τ7 Γ7 ⟨L17, hl18, hw7, hd7, rfl⟩
  refine RunC.wl hw7 hd7 ?_
  replace h : i_made_2Fi_unit_1_k3 r1 r2 L17 = some (q0, q1, q2) := h
  unfold i_made_2Fi_unit_1_k3 at h
  refine zQ ?_
  refine ROps.d (r := agg (oXc r1 r2 1 1 r3.length)) (fs := []) (Γ' := [⟨1, some zMx⟩, ⟨1, some (L17.map f32)⟩, ⟨1, some (oXc r1 r2 1 1 r3.length)⟩]) rfl rfl rfl (TOp.loadAgg_o rfl agg33 siz33 rfl rfl rfl rfl) rfl ?_
  refine ROps.store_le (r := agg (oXc r1 r2 1 1 r3.length)) (l' := (oXc r1 r2 1 1 r3.length)) (Γ' := [⟨1, some (oXc r1 r2 1 1 r3.length)⟩, ⟨1, some (L17.map f32)⟩, ⟨1, some (oXc r1 r2 1 1 r3.length)⟩]) rfl siz33 rfl rfl rfl aR rfl rfl rfl rfl (Nat.le_of_ble_eq_true rfl) rfl rfl ?_
  refine zN ?_
  refine RunC.ret ?_
  have hq := Option.some.inj h
  obtain ⟨hq0, hq⟩ := Prod.mk.inj hq
  obtain ⟨hq1, hq⟩ := Prod.mk.inj hq
  subst q0
  subst q1
  subst q2
  exact bodyQ.mk (r' := agg (oXc r1 r2 1 1 L17.length)) [(1, 1)] (.inr rfl) rfl (show List.Nodup [1] from by decide) rfl rfl (Res.eq (Res.one rfl (RV.cell agg33 siz33 rfl rfl rfl rfl)) (by rw [(show L17.length = r3.length from hl18)] <;> rfl)) (SelL.arr0 (f := f32) (fun _ => rfl) rfl trivial)
noncomputable def i_unit (a0 : Int) : Option (Int × Int × (List F)) :=
 obind3 (i_made_2Fi_unit_1 a0 a0) fun (r1 : Int) (r2 : Int) (r3 : List F) =>
 some (r1, r2, r3)
theorem i_unit_ok (a0 : Int) (q0 : Int) (q1 : Int) (q2 : List F) (h : i_unit a0 = some (q0, q1, q2)) : Ev Try.prog 99 [i64 a0] [] (agg (oXc q0 q1 0 0 q2.length)) [⟨0, some (q2.map f32)⟩] := by
 refine Ev.start Try.func99 rfl rfl 2 (τ := [(0, i64 a0)]) rfl (Γ' := [⟨0, none⟩, ⟨0, none⟩]) rfl (n := 13) rfl (g := 0) rfl (fun _ => rfl) ?_
 unfold i_unit at h
 refine zQ ?_
 refine ROps.d (r := optr 0 1 0) (fs := [(0, zMx)]) (Γ' := [⟨1, some zMx⟩, ⟨0, none⟩]) rfl rfl rfl (TOp.alloc_o (g := ⟨0, none⟩) 0 rfl zer33 zok33 rfl) rfl ?_
 refine zN ?_
 refine RunC.seq ?_
 obtain ⟨r1, r2, r3, hf1, h⟩ := obind3_some h
 refine RunC.regionW ?_
 iterate 2 (refine zm (r := i64 a0) ?_)
 refine ROps.d (r := agg (oXc r1 r2 1 1 r3.length)) (fs := [(1, (r3.map f32))]) (Γ' := [⟨1, some zMx⟩, ⟨1, some (r3.map f32)⟩]) rfl rfl rfl (TOp.callBN (ls := [(r3.map f32)]) [1] (CallAs.func ent64 rfl rfl) (Bors.cons (Bor.pure rfl) (Bors.cons (Bor.pure rfl) (Bors.cons (Bor.fn Bors.nil Bors.nil) Bors.nil))) rfl (i_made_2Fi_unit_1_ok a0 a0 r1 r2 r3 hf1) (and_all (lts0_map (f := f32) (fun _ => rfl) _) rfl) (and_all (noss_map (f := f32) (fun _ => rfl) _) rfl) rfl (by decide) (ns_of ⟨⟨_, rfl⟩, trivial⟩)) rfl ?_
 refine ROps.store_le (r := agg (oXc r1 r2 1 1 r3.length)) (l' := (oXc r1 r2 1 1 r3.length)) (Γ' := [⟨1, some (oXc r1 r2 1 1 r3.length)⟩, ⟨1, some (r3.map f32)⟩]) rfl siz33 rfl rfl rfl aR rfl rfl rfl rfl (Nat.le_of_ble_eq_true rfl) rfl rfl ?_
 refine zN ?_
 refine RunC.ret ?_
 have hq := Option.some.inj h
 obtain ⟨hq0, hq⟩ := Prod.mk.inj hq
 obtain ⟨hq1, hq⟩ := Prod.mk.inj hq
 subst q0
 subst q1
 subst q2
 exact bodyQ.mk (r' := agg (oXc r1 r2 1 1 r3.length)) [(1, 1)] (.inr rfl) rfl (show List.Nodup [1] from by decide) rfl rfl (Res.one rfl (RV.cell agg33 siz33 rfl rfl rfl rfl)) (SelL.arr0 (f := f32) (fun _ => rfl) rfl trivial)
noncomputable def i_MiddleFactor_k9 (v16 : Int) (L36 : List F) (L38 : List F) : Option (LR ((List F) × (List F) × Int) ((List F) × (List F)) (Int × Int × Bool × (List F) × (List F))) :=
 olet (IntKind.i64.wrap (v16 + 1)) fun (x39 : Int) =>
 some (LR.next (L36, L38, x39))
noncomputable def i_MiddleFactor_b8 (r2 : Int) (r3 : Int) (v10 : Int) (L13 : List F) (L15 : List F) (v16 : Int) (y18 : F) (v19 : Int) : Option (LR (F × Int) (F) (Int × Int × Bool × (List F) × (List F))) :=
 bsel (decide (v19 < v10)) (
  obind (at? L15 v19) fun (e20 : F) =>
  obind (i_Matrix_at r2 r3 L13 v16 v19) fun (r21 : F) =>
  obind (i_mul e20 r21) fun (r22 : F) =>
  obind (i_Matrix_at r2 r3 L13 v10 v19) fun (r23 : F) =>
  obind (i_mul r22 r23) fun (r24 : F) =>
  olet (fop .sub .f32 y18 r24) fun (x25 : F) =>
  olet (IntKind.i64.wrap (v19 + 1)) fun (x26 : Int) =>
  some (LR.next (x25, x26))) (
  some (LR.out y18))
noncomputable def i_MiddleFactor_s8 (r2 : Int) (r3 : Int) (v10 : Int) (L13 : List F) (L15 : List F) (v16 : Int) : (F × Int) → Option (LR (F × Int) (F) (Int × Int × Bool × (List F) × (List F))) := fun s => i_MiddleFactor_b8 r2 r3 v10 L13 L15 v16 s.1 s.2
noncomputable def i_MiddleFactor_k8 (r2 : Int) (r3 : Int) (r4 : List F) (v10 : Int) (L13 : List F) (L15 : List F) (v16 : Int) (y28 : F) : Option (LR ((List F) × (List F) × Int) ((List F) × (List F)) (Int × Int × Bool × (List F) × (List F))) :=
 bsel (decide (v10 < v16)) (
  obind (at? L15 v10) fun (e31 : F) =>
  olet (fop .quo .f32 y28 e31) fun (x32 : F) =>
  obind (i_Matrix_set_02o r2 r3 v16 v10 x32 L13) fun (r33 : List F) =>
  need (decide (r33.length = r4.length)) <|
  i_MiddleFactor_k9 v16 r33 L15) (
  bsel (feq .f32 y28 (some 0)) (
   some (LR.ret (0, 0, false, ([] : List F), ([] : List F)))) (
   need (apok 4 L15.length 1) <|
   i_MiddleFactor_k9 v16 L13 (L15 ++ ([y28] : List F))))
noncomputable def i_MiddleFactor_b10 (a0 : Int) (a1 : Int) (a2 : List F) (r2 : Int) (r3 : Int) (r4 : List F) (v10 : Int) (L13 : List F) (L15 : List F) (v16 : Int) : Option (LR ((List F) × (List F) × Int) ((List F) × (List F)) (Int × Int × Bool × (List F) × (List F))) :=
 bsel (decide (v16 < a0)) (
  obind (i_Matrix_at a0 a1 a2 v16 v10) fun (r17 : F) =>
  obind (loopM (i_MiddleFactor_s8 r2 r3 v10 L13 L15 v16) (r17, 0)) fun z => osum z (fun e => i_MiddleFactor_k8 r2 r3 r4 v10 L13 L15 v16 e) (fun r => some (LR.ret r))) (
  some (LR.out (L13, L15)))
noncomputable def i_MiddleFactor_s10 (a0 : Int) (a1 : Int) (a2 : List F) (r2 : Int) (r3 : Int) (r4 : List F) (v10 : Int) : ((List F) × (List F) × Int) → Option (LR ((List F) × (List F) × Int) ((List F) × (List F)) (Int × Int × Bool × (List F) × (List F))) := fun s => i_MiddleFactor_b10 a0 a1 a2 r2 r3 r4 v10 s.1 s.2.1 s.2.2
noncomputable def i_MiddleFactor_k10 (v10 : Int) (L42 : List F) (L44 : List F) : Option (LR ((List F) × (List F) × Int) ((List F) × (List F)) (Int × Int × Bool × (List F) × (List F))) :=
 olet (IntKind.i64.wrap (v10 + 1)) fun (x45 : Int) =>
 some (LR.next (L42, L44, x45))
noncomputable def i_MiddleFactor_b11 (a0 : Int) (a1 : Int) (a2 : List F) (r2 : Int) (r3 : Int) (r4 : List F) (L7 : List F) (L9 : List F) (v10 : Int) : Option (LR ((List F) × (List F) × Int) ((List F) × (List F)) (Int × Int × Bool × (List F) × (List F))) :=
 bsel (decide (v10 < a0)) (
  obind (loopM (i_MiddleFactor_s10 a0 a1 a2 r2 r3 r4 v10) (L7, L9, v10)) fun z => osum z (fun e => i_MiddleFactor_k10 v10 e.1 e.2) (fun r => some (LR.ret r))) (
  some (LR.out (L7, L9)))
noncomputable def i_MiddleFactor_s11 (a0 : Int) (a1 : Int) (a2 : List F) (r2 : Int) (r3 : Int) (r4 : List F) : ((List F) × (List F) × Int) → Option (LR ((List F) × (List F) × Int) ((List F) × (List F)) (Int × Int × Bool × (List F) × (List F))) := fun s => i_MiddleFactor_b11 a0 a1 a2 r2 r3 r4 s.1 s.2.1 s.2.2
noncomputable def i_MiddleFactor_k11 (r2 : Int) (r3 : Int) (L48 : List F) (L50 : List F) : Option (Int × Int × Bool × (List F) × (List F)) :=
 obind (i_ValidMatrix r2 r3 L48) fun (r51 : Bool) =>
 bsel r51 (
  obind (i_areFinite L50) fun (r52 : Bool) =>
  bsel r52 (
   some (r2, r3, true, L48, L50)) (
   some (0, 0, false, ([] : List F), ([] : List F)))) (
  some (0, 0, false, ([] : List F), ([] : List F)))
noncomputable def i_MiddleFactor (a0 : Int) (a1 : Int) (a2 : List F) : Option (Int × Int × Bool × (List F) × (List F)) :=
 obind (i_isSquare a0 a1 a2) fun (r1 : Bool) =>
 bsel r1 (
  obind3 (i_unit a0) fun (r2 : Int) (r3 : Int) (r4 : List F) =>
  obind (loopM (i_MiddleFactor_s11 a0 a1 a2 r2 r3 r4) (r4, ([] : List F), 0)) fun z => osum z (fun e => i_MiddleFactor_k11 r2 r3 e.1 e.2) (fun r => some r)) (
  some (0, 0, false, ([] : List F), ([] : List F)))
theorem i_MiddleFactor_ok (a0 : Int) (a1 : Int) (a2 : List F) (q0 : Int) (q1 : Int) (q2 : Bool) (q3 : List F) (q4 : List F) (h : i_MiddleFactor a0 a1 a2 = some (q0, q1, q2, q3, q4)) : Ev Try.prog 52 [agg (mXc a0 a1 a2)] [] (tup [agg (oXc q0 q1 0 0 q3.length), oref 1 0 0 q4.length, b q2]) [⟨0, some (q3.map f32)⟩, ⟨0, some (q4.map f32)⟩] := by
 refine Ev.start Try.func52 rfl rfl 6 (τ := [(0, agg (mXc a0 a1 a2))]) rfl (Γ' := [⟨0, none⟩, ⟨0, none⟩, ⟨0, none⟩, ⟨0, none⟩, ⟨0, none⟩, ⟨0, none⟩]) rfl (n := 177) rfl (g := 0) rfl (fun _ => rfl) ?_
 unfold i_MiddleFactor at h
 refine zQ ?_
 refine ROps.d (r := ptr (mXc a0 a1 a2)) (fs := []) (Γ' := [⟨0, none⟩, ⟨0, none⟩, ⟨0, none⟩, ⟨0, none⟩, ⟨0, none⟩, ⟨0, none⟩]) rfl rfl rfl (TOp.box_s rfl rfl rfl) rfl ?_
 refine ROps.d (r := optr 0 1 0) (fs := [(0, zMx)]) (Γ' := [⟨1, some zMx⟩, ⟨0, none⟩, ⟨0, none⟩, ⟨0, none⟩, ⟨0, none⟩, ⟨0, none⟩]) rfl rfl rfl (TOp.alloc_o (g := ⟨0, none⟩) 0 rfl zer33 zok33 rfl) rfl ?_
 refine za (r := nilsl) ?_
 refine za (r := b false) ?_
 refine zN ?_
 iterate 2 (refine RunC.seq ?_)
 obtain ⟨r1, hf1, h⟩ := obind_some h
 rcases bsel_some h with ⟨hc2, h⟩ | ⟨hc2, h⟩
 ·refine RunC.regionW ?_
  refine zl (r := agg (mXc a0 a1 a2)) (LOp.loadAgg agg33 siz33 rfl rfl rfl rfl) ?_
  refine ROps.d (r := b true) (fs := []) (Γ' := [⟨1, some zMx⟩, ⟨0, none⟩, ⟨0, none⟩, ⟨0, none⟩, ⟨0, none⟩, ⟨0, none⟩]) rfl rfl rfl (TOp.eqb (TOp.callB (CallAs.func ent91 rfl rfl) (Bors.cons (Bor.agg (Bors.cons (Bor.pure rfl) (Bors.cons (Bor.pure rfl) (Bors.cons (Bor.sl (fun _ => rfl)) Bors.nil)))) Bors.nil) rfl rfl (i_isSquare_ok a0 a1 a2 r1 hf1)) hc2) rfl ?_
  refine zl (r := b false) (LOp.eqb (LOp.not rfl rfl) rfl) ?_
  refine zN ?_
  refine RunC.cond_false rfl rfl ?_
  refine RunC.skip ?_
  refine RunC.seq ?_
  obtain ⟨r2, r3, r4, hf3, h⟩ := obind3_some h
  refine RunC.regionW ?_
  refine zl (r := ptr (mXc a0 a1 a2)) (LOp.fap und33 rfl siz2 rfl rfl rfl) ?_
  refine zl (r := i64 a0) (LOp.load1 agg2 rfl rfl) ?_
  refine ROps.d (r := agg (oXc r2 r3 1 1 r4.length)) (fs := [(1, (r4.map f32))]) (Γ' := [⟨1, some zMx⟩, ⟨1, some (r4.map f32)⟩, ⟨0, none⟩, ⟨0, none⟩, ⟨0, none⟩, ⟨0, none⟩]) rfl rfl rfl (TOp.callBN (ls := [(r4.map f32)]) [1] (CallAs.func ent99 rfl rfl) (Bors.cons (Bor.pure rfl) Bors.nil) rfl (i_unit_ok a0 r2 r3 r4 hf3) (and_all (lts0_map (f := f32) (fun _ => rfl) _) rfl) (and_all (noss_map (f := f32) (fun _ => rfl) _) rfl) rfl (by decide) (ns_of ⟨⟨_, rfl⟩, trivial⟩)) rfl ?_
  refine ROps.d (r := oref 2 1 0 0) (fs := [(2, (([] : List F).map f32))]) (Γ' := [⟨1, some zMx⟩, ⟨1, some (r4.map f32)⟩, ⟨1, some (([] : List F).map f32)⟩, ⟨0, none⟩, ⟨0, none⟩, ⟨0, none⟩]) rfl rfl rfl (TOp.buildSlice_o (g := ⟨0, none⟩) (za := f32 (some 0)) (qs := []) 2 rfl und26 siz28 zer28 rfl zel28 rfl rfl trivial rfl) rfl ?_
  refine ROps.d (r := optr 3 1 0) (fs := [(3, zMx)]) (Γ' := [⟨1, some zMx⟩, ⟨1, some (r4.map f32)⟩, ⟨1, some (([] : List F).map f32)⟩, ⟨1, some zMx⟩, ⟨0, none⟩, ⟨0, none⟩]) rfl rfl rfl (TOp.alloc_o (g := ⟨0, none⟩) 3 rfl zer33 zok33 rfl) rfl ?_
  refine ROps.store_le (r := agg (oXc r2 r3 1 1 r4.length)) (l' := (oXc r2 r3 1 1 r4.length)) (Γ' := [⟨1, some zMx⟩, ⟨1, some (r4.map f32)⟩, ⟨1, some (([] : List F).map f32)⟩, ⟨1, some (oXc r2 r3 1 1 r4.length)⟩, ⟨0, none⟩, ⟨0, none⟩]) rfl siz33 rfl rfl rfl aR rfl rfl rfl rfl (Nat.le_of_ble_eq_true rfl) rfl rfl ?_
  refine za (r := oref 2 1 0 0) ?_
  refine zN ?_
  refine RunC.seq ?_
  refine zQ ?_
  refine zl (r := ptr (mXc a0 a1 a2)) (LOp.fap und33 rfl siz2 rfl rfl rfl) ?_
  refine zl (r := i64 a0) (LOp.load1 agg2 rfl rfl) ?_
  refine zm (r := i64 0) ?_
  refine zN ?_
  obtain ⟨z12, hz_12, h⟩ := obind_some h
  refine RunC.cutN (fun τ Γ => ∃ (L48 : List F) (L50 : List F) (u46 : Nat) (u47 : Nat), L48.length = r4.length ∧ WeakLe τ [(2, optr 0 1 0), (5, optr 3 1 0), (6, oref 2 u46 0 L50.length)] ∧ DeadLe Γ [⟨1, some zMx⟩, ⟨1, some (L48.map f32)⟩, ⟨u46, some (L50.map f32)⟩, ⟨1, some (oXc r2 r3 1 1 r4.length)⟩, ⟨u47, none⟩, ⟨0, none⟩] ∧ z12 = .inl (L48, L50)) ?_ ?_
  ·refine RunC.block (RunC.loop (RunL.loopM (x := z12) (i_MiddleFactor_s11 a0 a1 a2 r2 r3 r4) (fun (s : (List F) × (List F) × Int) τ Γ => ∃ (u5 : Nat) (u6 : Nat), s.1.length = r4.length ∧ WeakLe τ [(1, ptr (mXc a0 a1 a2)), (2, optr 0 1 0), (5, optr 3 1 0), (6, oref 2 u5 0 s.2.1.length), (20, i64 a0), (21, i64 s.2.2)] ∧ DeadLe Γ [⟨1, some zMx⟩, ⟨1, some (s.1.map f32)⟩, ⟨u5, some (s.2.1.map f32)⟩, ⟨1, some (oXc r2 r3 1 1 r4.length)⟩, ⟨u6, none⟩, ⟨0, none⟩]) ?_ _ _ _ hz_12 ⟨1, 0, rfl, ⟨aR, aR, aR, aR, aR, aR, trivial⟩, ⟨⟨rfl, .inr rfl⟩, ⟨rfl, .inr rfl⟩, ⟨rfl, .inr rfl⟩, ⟨rfl, .inr rfl⟩, ⟨rfl, .inl rfl⟩, ⟨rfl, .inr rfl⟩, trivial⟩⟩))
   rintro ⟨L7, L9, v10⟩ τ12 Γ12 y12_ ⟨u5, u6, hl8, hw12, hd12⟩ h12_ ho12 hr12
   refine RunC.wl (τ' := [(1, ptr (mXc a0 a1 a2)), (2, optr 0 1 0), (5, optr 3 1 0), (6, oref 2 u5 0 L9.length), (20, i64 a0), (21, i64 v10)]) (Γ' := [⟨1, some zMx⟩, ⟨1, some (L7.map f32)⟩, ⟨u5, some (L9.map f32)⟩, ⟨1, some (oXc r2 r3 1 1 r4.length)⟩, ⟨u6, none⟩, ⟨0, none⟩]) hw12 hd12 ?_
   replace hl8 : L7.length = r4.length := hl8
   replace h12_ : i_MiddleFactor_b11 a0 a1 a2 r2 r3 r4 L7 L9 v10 = some y12_ := h12_
   unfold i_MiddleFactor_b11 at h12_
   refine RunC.seq ?_
   rcases bsel_some h12_ with ⟨hc4, h12_⟩ | ⟨hc4, h12_⟩
   ·refine RunC.regionW ?_
    refine zl (r := b true) (LOp.eqb (LOp.lss rfl rfl rfl) hc4) ?_
    refine zN ?_
    refine RunC.seq ?_
    refine RunC.cond_true rfl rfl ?_
    refine RunC.skip ?_
    refine RunC.seq ?_
    refine RunC.block ?_
    iterate 2 (refine zQ ?_; refine zm (r := i64 v10) ?_; refine za (r := i64 v10) ?_; refine zN ?_)
    obtain ⟨z13, hz_13, h12_⟩ := obind_some h12_
    refine RunC.cutN (fun τ Γ => ∃ (L42 : List F) (L44 : List F) (u40 : Nat) (u41 : Nat), L42.length = r4.length ∧ WeakLe τ [(1, ptr (mXc a0 a1 a2)), (2, optr 0 1 0), (5, optr 3 1 0), (6, oref 2 u40 0 L44.length), (20, i64 a0), (21, i64 v10)] ∧ DeadLe Γ [⟨1, some zMx⟩, ⟨1, some (L42.map f32)⟩, ⟨u40, some (L44.map f32)⟩, ⟨1, some (oXc r2 r3 1 1 r4.length)⟩, ⟨u41, none⟩, ⟨0, none⟩] ∧ z13 = .inl (L42, L44)) ?_ ?_
    ·refine RunC.block (RunC.loop (RunL.loopM (x := z13) (i_MiddleFactor_s10 a0 a1 a2 r2 r3 r4 v10) (fun (s : (List F) × (List F) × Int) τ Γ => ∃ (u11 : Nat) (u12 : Nat), s.1.length = r4.length ∧ WeakLe τ [(1, ptr (mXc a0 a1 a2)), (2, optr 0 1 0), (5, optr 3 1 0), (6, oref 2 u11 0 s.2.1.length), (7, i64 v10), (8, i64 s.2.2), (20, i64 a0), (21, i64 v10)] ∧ DeadLe Γ [⟨1, some zMx⟩, ⟨1, some (s.1.map f32)⟩, ⟨u11, some (s.2.1.map f32)⟩, ⟨1, some (oXc r2 r3 1 1 r4.length)⟩, ⟨u12, none⟩, ⟨0, none⟩]) ?_ _ _ _ hz_13 ⟨u5, u6, hl8, ⟨aR, aR, aR, aR, aR, aR, aR, aR, trivial⟩, ⟨⟨rfl, .inr rfl⟩, ⟨rfl, .inr rfl⟩, ⟨rfl, .inr rfl⟩, ⟨rfl, .inr rfl⟩, ⟨rfl, .inl rfl⟩, ⟨rfl, .inr rfl⟩, trivial⟩⟩))
     rintro ⟨L13, L15, v16⟩ τ13 Γ13 y13_ ⟨u11, u12, hl14, hw13, hd13⟩ h13_ ho13 hr13
     refine RunC.wl (τ' := [(1, ptr (mXc a0 a1 a2)), (2, optr 0 1 0), (5, optr 3 1 0), (6, oref 2 u11 0 L15.length), (7, i64 v10), (8, i64 v16), (20, i64 a0), (21, i64 v10)]) (Γ' := [⟨1, some zMx⟩, ⟨1, some (L13.map f32)⟩, ⟨u11, some (L15.map f32)⟩, ⟨1, some (oXc r2 r3 1 1 r4.length)⟩, ⟨u12, none⟩, ⟨0, none⟩]) hw13 hd13 ?_
     replace hl14 : L13.length = r4.length := hl14
     replace h13_ : i_MiddleFactor_b10 a0 a1 a2 r2 r3 r4 v10 L13 L15 v16 = some y13_ := h13_
     unfold i_MiddleFactor_b10 at h13_
     iterate 2 (refine RunC.seq ?_)
     rcases bsel_some h13_ with ⟨hc5, h13_⟩ | ⟨hc5, h13_⟩
     ·refine RunC.regionW ?_
      refine zm (r := i64 v16) ?_
      refine zl (r := ptr (mXc a0 a1 a2)) (LOp.fap und33 rfl siz2 rfl rfl rfl) ?_
      refine zl (r := i64 a0) (LOp.load1 agg2 rfl rfl) ?_
      refine zl (r := b true) (LOp.eqb (LOp.lss rfl rfl rfl) hc5) ?_
      refine zN ?_
      refine RunC.cond_true rfl rfl ?_
      refine RunC.skip ?_
      refine RunC.seq ?_
      refine RunC.cutN (fun τ Γ => ∃ (L36 : List F) (L38 : List F) (u34 : Nat) (u35 : Nat), L36.length = r4.length ∧ WeakLe τ [(1, ptr (mXc a0 a1 a2)), (2, optr 0 1 0), (5, optr 3 1 0), (6, oref 2 u34 0 L38.length), (7, i64 v10), (8, i64 v16), (20, i64 a0), (21, i64 v10)] ∧ DeadLe Γ [⟨1, some zMx⟩, ⟨1, some (L36.map f32)⟩, ⟨u34, some (L38.map f32)⟩, ⟨1, some (oXc r2 r3 1 1 r4.length)⟩, ⟨u35, none⟩, ⟨0, none⟩] ∧ i_MiddleFactor_k9 v16 L36 L38 = some y13_) ?_ ?_
      ·refine RunC.block ?_
       refine RunC.seq ?_
       obtain ⟨r17, hf6, h13_⟩ := obind_some h13_
       refine RunC.regionW ?_
       refine zl (r := agg (mXc a0 a1 a2)) (LOp.loadAgg agg33 siz33 rfl rfl rfl rfl) ?_
       refine zm (r := i64 v16) ?_
       refine zm (r := i64 v10) ?_
       refine ROps.d (r := f32 r17) (fs := []) (Γ' := [⟨1, some zMx⟩, ⟨1, some (L13.map f32)⟩, ⟨u11, some (L15.map f32)⟩, ⟨1, some (oXc r2 r3 1 1 r4.length)⟩, ⟨u12, none⟩, ⟨0, none⟩]) rfl rfl rfl (TOp.callB (CallAs.func ent94 rfl rfl) (Bors.cons (Bor.agg (Bors.cons (Bor.pure rfl) (Bors.cons (Bor.pure rfl) (Bors.cons (Bor.sl (fun _ => rfl)) Bors.nil)))) (Bors.cons (Bor.pure rfl) (Bors.cons (Bor.pure rfl) Bors.nil))) rfl rfl (i_Matrix_at_ok a0 a1 a2 v16 v10 r17 hf6)) rfl ?_
       refine za (r := f32 r17) ?_
       refine zN ?_
       refine RunC.seq ?_
       refine zQ ?_
       refine zm (r := i64 v10) ?_
       refine zm (r := i64 0) ?_
       refine zN ?_
       obtain ⟨z14, hz_14, h13_⟩ := obind_some h13_
       refine RunC.cutN (fun τ Γ => ∃ (y28 : F), L13.length = r4.length ∧ WeakLe τ [(1, ptr (mXc a0 a1 a2)), (2, optr 0 1 0), (5, optr 3 1 0), (6, oref 2 u11 0 L15.length), (7, i64 v10), (8, i64 v16), (9, f32 y28), (20, i64 a0), (21, i64 v10)] ∧ DeadLe Γ [⟨1, some zMx⟩, ⟨1, some (L13.map f32)⟩, ⟨u11, some (L15.map f32)⟩, ⟨1, some (oXc r2 r3 1 1 r4.length)⟩, ⟨u12, none⟩, ⟨0, none⟩] ∧ z14 = .inl y28) ?_ ?_
       ·refine RunC.block (RunC.loop (RunL.loopM (x := z14) (i_MiddleFactor_s8 r2 r3 v10 L13 L15 v16) (fun (s : F × Int) τ Γ => WeakLe τ [(1, ptr (mXc a0 a1 a2)), (2, optr 0 1 0), (5, optr 3 1 0), (6, oref 2 u11 0 L15.length), (7, i64 v10), (8, i64 v16), (9, f32 s.1), (20, i64 a0), (21, i64 v10), (35, i64 v10), (36, i64 s.2)] ∧ DeadLe Γ [⟨1, some zMx⟩, ⟨1, some (L13.map f32)⟩, ⟨u11, some (L15.map f32)⟩, ⟨1, some (oXc r2 r3 1 1 r4.length)⟩, ⟨u12, none⟩, ⟨0, none⟩]) ?_ _ _ _ hz_14 ⟨⟨aR, aR, aR, aR, aR, aR, aR, aR, aR, aR, aR, trivial⟩, ⟨⟨rfl, .inr rfl⟩, ⟨rfl, .inr rfl⟩, ⟨rfl, .inr rfl⟩, ⟨rfl, .inr rfl⟩, ⟨rfl, .inl rfl⟩, ⟨rfl, .inr rfl⟩, trivial⟩⟩))
        rintro ⟨y18, v19⟩ τ14 Γ14 y14_ ⟨hw14, hd14⟩ h14_ ho14 hr14
        refine RunC.wl (τ' := [(1, ptr (mXc a0 a1 a2)), (2, optr 0 1 0), (5, optr 3 1 0), (6, oref 2 u11 0 L15.length), (7, i64 v10), (8, i64 v16), (9, f32 y18), (20, i64 a0), (21, i64 v10), (35, i64 v10), (36, i64 v19)]) (Γ' := [⟨1, some zMx⟩, ⟨1, some (L13.map f32)⟩, ⟨u11, some (L15.map f32)⟩, ⟨1, some (oXc r2 r3 1 1 r4.length)⟩, ⟨u12, none⟩, ⟨0, none⟩]) hw14 hd14 ?_
        replace h14_ : i_MiddleFactor_b8 r2 r3 v10 L13 L15 v16 y18 v19 = some y14_ := h14_
        unfold i_MiddleFactor_b8 at h14_
        refine RunC.seq ?_
        rcases bsel_some h14_ with ⟨hc7, h14_⟩ | ⟨hc7, h14_⟩
        ·refine RunC.regionW ?_
         refine zl (r := b true) (LOp.eqb (LOp.lss rfl rfl rfl) hc7) ?_
         refine zN ?_
         refine RunC.seq ?_
         refine RunC.cond_true rfl rfl ?_
         refine RunC.skip ?_
         refine RunC.seq ?_
         refine RunC.block ?_
         refine zQ ?_
         refine zm (r := i64 v19) ?_
         refine za (r := i64 v19) ?_
         refine zN ?_
         obtain ⟨e20, he8, h14_⟩ := obind_some h14_
         obtain ⟨r21, hf9, h14_⟩ := obind_some h14_
         obtain ⟨r22, hf10, h14_⟩ := obind_some h14_
         obtain ⟨r23, hf11, h14_⟩ := obind_some h14_
         obtain ⟨r24, hf12, h14_⟩ := obind_some h14_
         obtain ⟨x25, hx13, h14_⟩ := olet_some h14_
         refine RunC.region_draw (Γ' := [⟨1, some zMx⟩, ⟨1, some (L13.map f32)⟩, ⟨u11, some (L15.map f32)⟩, ⟨1, some (oXc r2 r3 1 1 r4.length)⟩, ⟨u12, none⟩, ⟨0, none⟩]) 17 mixed 
          (TR.l (r := f32 y18) rfl rfl (LOp.move rfl rfl) <|
          (TR.l (r := oref 2 u11 0 L15.length) rfl rfl (LOp.move rfl rfl) <|
          (TR.l (r := i64 v19) rfl rfl (LOp.move rfl rfl) <|
          (TR.d (r := optr 2 u11 v19.toNat) (fs := []) rfl rfl (TOp.ixo und26 siz28 rfl rfl rfl (at_in he8 rfl) rfl) <|
          (TR.d (r := f32 e20) (fs := []) rfl rfl (TOp.load1_o rfl (at_cell he8) agg28 rfl rfl) <|
          (TR.d (r := agg (oXc r2 r3 1 1 r4.length)) (fs := []) rfl rfl (TOp.loadAgg_o rfl agg33 siz33 rfl rfl rfl rfl) <|
          (TR.l (r := i64 v16) rfl rfl (LOp.move rfl rfl) <|
          (TR.l (r := i64 v19) rfl rfl (LOp.move rfl rfl) <|
          (TR.d (r := f32 r21) (fs := []) rfl rfl (TOp.callB (CallAs.func ent94 rfl rfl) (Bors.cons (Bor.agg (Bors.cons (Bor.pure rfl) (Bors.cons (Bor.pure rfl) (Bors.cons (Bor.own (f := f32) (fun _ => rfl) rfl hl14) Bors.nil)))) (Bors.cons (Bor.pure rfl) (Bors.cons (Bor.pure rfl) Bors.nil))) rfl rfl (i_Matrix_at_ok r2 r3 L13 v16 v19 r21 hf9)) <|
          (TR.d (r := f32 r22) (fs := []) rfl rfl (TOp.callB (CallAs.func ent76 rfl rfl) (Bors.cons (Bor.pure rfl) (Bors.cons (Bor.pure rfl) Bors.nil)) rfl rfl (i_mul_ok e20 r21 r22 hf10)) <|
          (TR.d (r := agg (oXc r2 r3 1 1 r4.length)) (fs := []) rfl rfl (TOp.loadAgg_o rfl agg33 siz33 rfl rfl rfl rfl) <|
          (TR.l (r := i64 v10) rfl rfl (LOp.move rfl rfl) <|
          (TR.l (r := i64 v19) rfl rfl (LOp.move rfl rfl) <|
          (TR.d (r := f32 r23) (fs := []) rfl rfl (TOp.callB (CallAs.func ent94 rfl rfl) (Bors.cons (Bor.agg (Bors.cons (Bor.pure rfl) (Bors.cons (Bor.pure rfl) (Bors.cons (Bor.own (f := f32) (fun _ => rfl) rfl hl14) Bors.nil)))) (Bors.cons (Bor.pure rfl) (Bors.cons (Bor.pure rfl) Bors.nil))) rfl rfl (i_Matrix_at_ok r2 r3 L13 v10 v19 r23 hf11)) <|
          (TR.d (r := f32 r24) (fs := []) rfl rfl (TOp.callB (CallAs.func ent76 rfl rfl) (Bors.cons (Bor.pure rfl) (Bors.cons (Bor.pure rfl) Bors.nil)) rfl rfl (i_mul_ok r22 r23 r24 hf12)) <|
          (TR.d (r := f32 x25) (fs := []) rfl rfl (TOp.eqr (TOp.fop (.inr (.inl rfl)) rfl (OpF.tmp rfl) (OpF.tmp rfl)) (congrArg (f .f32) hx13)) <|
          (TR.l (r := f32 x25) rfl rfl (LOp.assign rfl rfl) <|
          TR.nil))))))))))))))))) rfl (by kernel_rfl) rfl fills_nil rfl ?_
         iterate 17 refine ROps.dropS ?_
         refine ROps.drop0 ?_
         refine zN ?_
         refine RunC.wl (τ' := [(1, ptr (mXc a0 a1 a2)), (2, optr 0 1 0), (5, optr 3 1 0), (6, oref 2 u11 0 L15.length), (7, i64 v10), (8, i64 v16), (9, f32 x25), (20, i64 a0), (21, i64 v10), (35, i64 v10), (36, i64 v19)]) (Γ' := [⟨1, some zMx⟩, ⟨1, some (L13.map f32)⟩, ⟨u11, some (L15.map f32)⟩, ⟨1, some (oXc r2 r3 1 1 r4.length)⟩, ⟨u12, none⟩, ⟨0, none⟩]) ⟨aR, aR, aR, aR, aR, aR, aR, aR, aR, aR, aR, trivial⟩ ⟨⟨rfl, .inr rfl⟩, ⟨rfl, .inr rfl⟩, ⟨rfl, .inr rfl⟩, ⟨rfl, .inr rfl⟩, ⟨rfl, .inl rfl⟩, ⟨rfl, .inr rfl⟩, trivial⟩ ?_
         obtain ⟨x26, hx14, h14_⟩ := olet_some h14_
         refine RunC.regionW ?_
         refine zl (r := i64 x26) (LOp.eqr (LOp.add rfl rfl rfl) (congrArg (ik .i64) hx14)) ?_
         refine zm (r := i64 x26) ?_
         refine zN ?_
         cases Option.some.inj h14_
         exact ⟨_, rfl, ⟨aR, aR, aR, aR, aR, aR, aR, aR, aR, aR, aR, trivial⟩, ⟨⟨rfl, .inr rfl⟩, ⟨rfl, .inr rfl⟩, ⟨rfl, .inr rfl⟩, ⟨rfl, .inr rfl⟩, ⟨rfl, .inl rfl⟩, ⟨rfl, .inr rfl⟩, trivial⟩⟩
        ·refine RunC.regionW ?_
         refine zl (r := b false) (LOp.eqb (LOp.lss rfl rfl rfl) hc7) ?_
         refine zN ?_
         refine RunC.seq ?_
         refine RunC.cond_false rfl rfl ?_
         refine RunC.exit ?_
         cases Option.some.inj h14_
         have hx := ho14 _ rfl
         exact ⟨y18, hl14, ⟨aR, aR, aR, aR, aR, aR, aR, aR, aR, trivial⟩, ⟨⟨rfl, .inr rfl⟩, ⟨rfl, .inr rfl⟩, ⟨rfl, .inr rfl⟩, ⟨rfl, .inr rfl⟩, ⟨rfl, .inl rfl⟩, ⟨rfl, .inr rfl⟩, trivial⟩, hx⟩
       ·rintro τ15 Γ15 ⟨y28, hl27, hw15, hd15, rfl⟩
        refine RunC.wl hw15 hd15 ?_
        replace h13_ : i_MiddleFactor_k8 r2 r3 r4 v10 L13 L15 v16 y28 = some y13_ := h13_
        unfold i_MiddleFactor_k8 at h13_
        iterate 2 (refine RunC.seq ?_)
        rcases bsel_some h13_ with ⟨hc15, h13_⟩ | ⟨hc15, h13_⟩
        ·refine RunC.regionW ?_
         refine zm (r := i64 v16) ?_
         refine zm (r := i64 v10) ?_
         refine zl (r := b true) (LOp.eqb (LOp.gtr rfl rfl rfl) hc15) ?_
         refine zN ?_
         refine RunC.cond_true rfl rfl ?_
         refine RunC.seq ?_
         obtain ⟨e31, he18, h13_⟩ := obind_some h13_
         obtain ⟨x32, hx19, h13_⟩ := olet_some h13_
         obtain ⟨r33, hf20, h13_⟩ := obind_some h13_
         obtain ⟨hn21, h13_⟩ := need_some h13_
         refine RunC.region_draw (Γ' := [⟨1, some zMx⟩, ⟨1, some (L13.map f32)⟩, ⟨u11, some (L15.map f32)⟩, ⟨1, some (oXc r2 r3 1 1 r4.length)⟩, ⟨u12, none⟩, ⟨0, none⟩]) 9 mixed 
          (TR.d (r := agg (oXc r2 r3 1 1 r4.length)) (fs := []) rfl rfl (TOp.loadAgg_o rfl agg33 siz33 rfl rfl rfl rfl) <|
          (TR.l (r := i64 v16) rfl rfl (LOp.move rfl rfl) <|
          (TR.l (r := i64 v10) rfl rfl (LOp.move rfl rfl) <|
          (TR.l (r := f32 y28) rfl rfl (LOp.move rfl rfl) <|
          (TR.l (r := oref 2 u11 0 L15.length) rfl rfl (LOp.move rfl rfl) <|
          (TR.l (r := i64 v10) rfl rfl (LOp.move rfl rfl) <|
          (TR.d (r := optr 2 u11 v10.toNat) (fs := []) rfl rfl (TOp.ixo und26 siz28 rfl rfl rfl (at_in he18 rfl) rfl) <|
          (TR.d (r := f32 e31) (fs := []) rfl rfl (TOp.load1_o rfl (at_cell he18) agg28 rfl rfl) <|
          (TR.d (r := f32 x32) (fs := []) rfl rfl (TOp.eqr (TOp.fop (.inr (.inr (.inr rfl))) rfl (OpF.tmp rfl) (OpF.tmp rfl)) (congrArg (f .f32) hx19)) <|
          TR.nil))))))))) rfl (by kernel_rfl) rfl fills_nil rfl ?_
         iterate 9 refine ROps.dropS ?_
         refine ROps.drop0 ?_
         refine ROps.callO (A := [agg (oXc r2 r3 1 1 r4.length), i64 v16, i64 v10, f32 x32]) (args := [agg (oXc r2 r3 0 0 L13.length), i64 v16, i64 v10, f32 x32]) (Γc := [⟨0, some (L13.map f32)⟩]) (Γc' := [⟨0, some (r33.map f32)⟩]) (r' := tup []) (Γ' := [⟨1, some zMx⟩, ⟨1, some (r33.map f32)⟩, ⟨u11, some (L15.map f32)⟩, ⟨1, some (oXc r2 r3 1 1 r4.length)⟩, ⟨u12, none⟩, ⟨0, none⟩]) [(1, 1)] [] rfl (CallAs.func ent93 rfl rfl) rfl rfl (SelOk.of (show List.Nodup [1] from by decide) (SelL.arr0 (f := f32) (fun _ => rfl) rfl trivial)) (live_of ⟨⟨_, _, rfl⟩, trivial⟩) (by simp [ren, rens, sigma, rens_f32, rens_f64, rens_i64, rens_ik, rens_str, rens_cp, hl27]) rfl (i_Matrix_set_02o_ok r2 r3 v16 v10 x32 L13 r33 hf20) rfl (news_of trivial) (show List.Nodup [1] from by decide) (by simp [ren, rens, sigma, of_decide_eq_true hn21]) (by simp [backOb, sigma, ren, rens, rens_f32, rens_f64, rens_i64, rens_ik, rens_str, rens_cp]) ?_
         refine zN ?_
         refine RunC.exit ?_
         exact ⟨r33, L15, u11, u12, (of_decide_eq_true hn21), ⟨aR, aR, aR, aR, aR, aR, aR, aR, trivial⟩, ⟨⟨rfl, .inr rfl⟩, ⟨rfl, .inr rfl⟩, ⟨rfl, .inr rfl⟩, ⟨rfl, .inr rfl⟩, ⟨rfl, .inl rfl⟩, ⟨rfl, .inr rfl⟩, trivial⟩, h13_⟩
        ·refine RunC.regionW ?_
         refine zm (r := i64 v16) ?_
         refine zm (r := i64 v10) ?_
         refine zl (r := b false) (LOp.eqb (LOp.gtr rfl rfl rfl) hc15) ?_
         refine zN ?_
         refine RunC.cond_false rfl rfl ?_
         refine RunC.skip ?_
         iterate 2 (refine RunC.seq ?_)
         rcases bsel_some h13_ with ⟨hc22, h13_⟩ | ⟨hc22, h13_⟩
         ·refine RunC.regionW ?_
          refine zm (r := f32 y28) ?_
          refine zl (r := b true) (LOp.eqb (LOp.feq rfl (OpF.tmp rfl) (OpF.const rfl (by kernel_rfl) (by kernel_rfl))) hc22) ?_
          refine zN ?_
          refine RunC.cond_true rfl rfl ?_
          refine zQ ?_
          refine zl (r := agg zMx) (LOp.build (qs := []) zer33 zok33 und33 plc33 rfl trivial rfl) ?_
          refine ROps.store_le (r := agg zMx) (l' := zMx) (Γ' := [⟨1, some zMx⟩, ⟨1, some (L13.map f32)⟩, ⟨u11, some (L15.map f32)⟩, ⟨1, some (oXc r2 r3 1 1 r4.length)⟩, ⟨u12, none⟩, ⟨0, none⟩]) rfl siz33 rfl rfl rfl aR rfl rfl rfl rfl (Nat.le_of_ble_eq_true rfl) rfl rfl ?_
          refine za (r := nilsl) ?_
          refine za (r := b false) ?_
          refine zN ?_
          refine RunC.nil_cell (l' := [i64 0, i64 0, oref 4 (u12 + 1) 0 0]) (Γ' := [⟨1, some [i64 0, i64 0, oref 4 (u12 + 1) 0 0]⟩, ⟨1, some (L13.map f32)⟩, ⟨u11, some (L15.map f32)⟩, ⟨1, some (oXc r2 r3 1 1 r4.length)⟩, ⟨(u12 + 1), some (([] : List F).map f32)⟩, ⟨0, none⟩]) 0 2 4 rfl rfl rfl rfl rfl ?_
          refine RunC.nil_slot (Γ' := [⟨1, some [i64 0, i64 0, oref 4 (u12 + 1) 0 0]⟩, ⟨1, some (L13.map f32)⟩, ⟨u11, some (L15.map f32)⟩, ⟨1, some (oXc r2 r3 1 1 r4.length)⟩, ⟨(u12 + 1), some (([] : List F).map f32)⟩, ⟨1, some (([] : List F).map f32)⟩]) 3 5 rfl rfl rfl ?_
          refine RunC.ret ?_
          cases Option.some.inj h13_
          have hx16_ := hr13 _ rfl
          subst hx16_
          cases Option.some.inj h12_
          have hx17_ := hr12 _ rfl
          subst hx17_
          have hq := Option.some.inj h
          obtain ⟨hq0, hq⟩ := Prod.mk.inj hq
          obtain ⟨hq1, hq⟩ := Prod.mk.inj hq
          obtain ⟨hq2, hq⟩ := Prod.mk.inj hq
          obtain ⟨hq3, hq⟩ := Prod.mk.inj hq
          subst q0
          subst q1
          subst q2
          subst q3
          subst q4
          exact bodyQ.mk (r' := tup [agg [i64 0, i64 0, oref 4 (u12 + 1) 0 (([] : List F).length)], oref 5 1 0 (([] : List F).length), b false]) [(4, (u12 + 1)), (5, 1)] (.inr rfl) rfl (show List.Nodup [4, 5] from by decide) (by simp [ren, rens, sigma]) rfl (Res.eq (Res.three rfl (RV.cell agg33 siz33 rfl rfl rfl rfl) (RV.tmp rfl) (RV.tmp rfl)) (by rw [(show ([] : List F).length = 0 from rfl)] <;> rfl)) (SelL.arr0 (f := f32) (fun _ => rfl) rfl (SelL.arr0 (f := f32) (fun _ => rfl) rfl trivial))
         ·refine RunC.regionW ?_
          refine zm (r := f32 y28) ?_
          refine zl (r := b false) (LOp.eqb (LOp.feq rfl (OpF.tmp rfl) (OpF.const rfl (by kernel_rfl) (by kernel_rfl))) hc22) ?_
          refine zN ?_
          refine RunC.cond_false rfl rfl ?_
          refine RunC.skip ?_
          obtain ⟨hm23, h13_⟩ := need_some h13_
          refine RunC.regionW ?_
          refine zm (r := oref 2 u11 0 L15.length) ?_
          refine zm (r := f32 y28) ?_
          refine ROps.d (r := oref 4 (u12 + 1) 0 1) (fs := [(4, (([y28] : List F).map f32))]) (Γ' := [⟨1, some zMx⟩, ⟨1, some (L13.map f32)⟩, ⟨u11, some (L15.map f32)⟩, ⟨1, some (oXc r2 r3 1 1 r4.length)⟩, ⟨(u12 + 1), some (([y28] : List F).map f32)⟩, ⟨0, none⟩]) rfl rfl rfl (TOp.buildSlice_o (g := ⟨u12, none⟩) (za := f32 (some 0)) (qs := [(0, [f32 y28])]) 4 rfl und26 siz28 zer28 rfl zel28 rfl rfl ⟨rfl, ⟨_, ALe.refl _, rfl⟩, trivial⟩ rfl) rfl ?_
          refine ROps.app (f := f32) (xs := L15) (ys := ([y28] : List F)) (Γ' := [⟨1, some zMx⟩, ⟨1, some (L13.map f32)⟩, ⟨(u11 + 1), some ((L15 ++ ([y28] : List F)).map f32)⟩, ⟨1, some (oXc r2 r3 1 1 r4.length)⟩, ⟨(u12 + 1), some (([y28] : List F).map f32)⟩, ⟨0, none⟩]) rfl pun26 inf28 rfl rfl rfl rfl rfl rfl rfl rfl rfl (by simp) (ReadAs.own rfl (by simp)) (ones_map (fun _ => rfl)) (ap_by hm23) (ap_mx hm23) rfl ?_
          refine za (r := oref 2 (u11 + 1) 0 (L15.length + 1)) ?_
          refine zN ?_
          exact ⟨L13, (L15 ++ ([y28] : List F)), (u11 + 1), (u12 + 1), hl27, ⟨aR, aR, aR, (ALe.eq (by rw [(app_len rfl rfl)] <;> rfl)), aR, aR, aR, aR, trivial⟩, ⟨⟨rfl, .inr rfl⟩, ⟨rfl, .inr rfl⟩, ⟨rfl, .inr rfl⟩, ⟨rfl, .inr rfl⟩, ⟨rfl, .inl rfl⟩, ⟨rfl, .inr rfl⟩, trivial⟩, h13_⟩
      ·rintro τ18 Γ18 ⟨L36, L38, u34, u35, hl37, hw18, hd18, h13_⟩
       refine RunC.wl hw18 hd18 ?_
       unfold i_MiddleFactor_k9 at h13_
       obtain ⟨x39, hx24, h13_⟩ := olet_some h13_
       refine RunC.regionW ?_
       refine zm (r := i64 v16) ?_
       refine zl (r := i64 x39) (LOp.eqr (LOp.add rfl rfl rfl) (congrArg (ik .i64) hx24)) ?_
       refine za (r := i64 x39) ?_
       refine zN ?_
       cases Option.some.inj h13_
       exact ⟨_, rfl, u34, u35, hl37, ⟨aR, aR, aR, aR, aR, aR, aR, aR, trivial⟩, ⟨⟨rfl, .inr rfl⟩, ⟨rfl, .inr rfl⟩, ⟨rfl, .inr rfl⟩, ⟨rfl, .inr rfl⟩, ⟨rfl, .inl rfl⟩, ⟨rfl, .inr rfl⟩, trivial⟩⟩
     ·refine RunC.regionW ?_
      refine zm (r := i64 v16) ?_
      refine zl (r := ptr (mXc a0 a1 a2)) (LOp.fap und33 rfl siz2 rfl rfl rfl) ?_
      refine zl (r := i64 a0) (LOp.load1 agg2 rfl rfl) ?_
      refine zl (r := b false) (LOp.eqb (LOp.lss rfl rfl rfl) hc5) ?_
      refine zN ?_
      refine RunC.cond_false rfl rfl ?_
      refine RunC.exit ?_
      cases Option.some.inj h13_
      have hx := ho13 _ rfl
      exact ⟨L13, L15, u11, u12, hl14, ⟨aR, aR, aR, aR, aR, aR, trivial⟩, ⟨⟨rfl, .inr rfl⟩, ⟨rfl, .inr rfl⟩, ⟨rfl, .inr rfl⟩, ⟨rfl, .inr rfl⟩, ⟨rfl, .inl rfl⟩, ⟨rfl, .inr rfl⟩, trivial⟩, hx⟩
    ·rintro τ19 Γ19 ⟨L42, L44, u40, u41, hl43, hw19, hd19, rfl⟩
     refine RunC.wl hw19 hd19 ?_
     replace h12_ : i_MiddleFactor_k10 v10 L42 L44 = some y12_ := h12_
     unfold i_MiddleFactor_k10 at h12_
     obtain ⟨x45, hx25, h12_⟩ := olet_some h12_
     refine RunC.regionW ?_
     refine zl (r := i64 x45) (LOp.eqr (LOp.add rfl rfl rfl) (congrArg (ik .i64) hx25)) ?_
     refine zm (r := i64 x45) ?_
     refine zN ?_
     cases Option.some.inj h12_
     exact ⟨_, rfl, u40, u41, hl43, ⟨aR, aR, aR, aR, aR, aR, trivial⟩, ⟨⟨rfl, .inr rfl⟩, ⟨rfl, .inr rfl⟩, ⟨rfl, .inr rfl⟩, ⟨rfl, .inr rfl⟩, ⟨rfl, .inl rfl⟩, ⟨rfl, .inr rfl⟩, trivial⟩⟩
   ·refine RunC.regionW ?_
    refine zl (r := b false) (LOp.eqb (LOp.lss rfl rfl rfl) hc4) ?_
    refine zN ?_
    refine RunC.seq ?_
    refine RunC.cond_false rfl rfl ?_
    refine RunC.exit ?_
    cases Option.some.inj h12_
    have hx := ho12 _ rfl
    exact ⟨L7, L9, u5, u6, hl8, ⟨aR, aR, aR, trivial⟩, ⟨⟨rfl, .inr rfl⟩, ⟨rfl, .inr rfl⟩, ⟨rfl, .inr rfl⟩, ⟨rfl, .inr rfl⟩, ⟨rfl, .inl rfl⟩, ⟨rfl, .inr rfl⟩, trivial⟩, hx⟩
  ·rintro τ20 Γ20 ⟨L48, L50, u46, u47, hl49, hw20, hd20, rfl⟩
   refine RunC.wl hw20 hd20 ?_
   replace h : i_MiddleFactor_k11 r2 r3 L48 L50 = some (q0, q1, q2, q3, q4) := h
   unfold i_MiddleFactor_k11 at h
   iterate 2 (refine RunC.seq ?_)
   obtain ⟨r51, hf26, h⟩ := obind_some h
   rcases bsel_some h with ⟨hc27, h⟩ | ⟨hc27, h⟩
   ·obtain ⟨r52, hf28, h⟩ := obind_some h
    rcases bsel_some h with ⟨hc29, h⟩ | ⟨hc29, h⟩
    ·refine RunC.regionW ?_
     refine ROps.d (r := agg (oXc r2 r3 1 1 r4.length)) (fs := []) (Γ' := [⟨1, some zMx⟩, ⟨1, some (L48.map f32)⟩, ⟨u46, some (L50.map f32)⟩, ⟨1, some (oXc r2 r3 1 1 r4.length)⟩, ⟨u47, none⟩, ⟨0, none⟩]) rfl rfl rfl (TOp.loadAgg_o rfl agg33 siz33 rfl rfl rfl rfl) rfl ?_
     refine ROps.d (r := b true) (fs := []) (Γ' := [⟨1, some zMx⟩, ⟨1, some (L48.map f32)⟩, ⟨u46, some (L50.map f32)⟩, ⟨1, some (oXc r2 r3 1 1 r4.length)⟩, ⟨u47, none⟩, ⟨0, none⟩]) rfl rfl rfl (TOp.eqb (TOp.callB (CallAs.func ent102 rfl rfl) (Bors.cons (Bor.agg (Bors.cons (Bor.pure rfl) (Bors.cons (Bor.pure rfl) (Bors.cons (Bor.own (f := f32) (fun _ => rfl) rfl hl49) Bors.nil)))) Bors.nil) rfl rfl (i_ValidMatrix_ok r2 r3 L48 r51 hf26)) hc27) rfl ?_
     refine zl (r := b false) (LOp.eqb (LOp.not rfl rfl) rfl) ?_
     refine zm (r := b false) ?_
     refine zm (r := oref 2 u46 0 L50.length) ?_
     refine ROps.d (r := b true) (fs := []) (Γ' := [⟨1, some zMx⟩, ⟨1, some (L48.map f32)⟩, ⟨u46, some (L50.map f32)⟩, ⟨1, some (oXc r2 r3 1 1 r4.length)⟩, ⟨u47, none⟩, ⟨0, none⟩]) rfl rfl rfl (TOp.eqb (TOp.callB (CallAs.func ent74 rfl rfl) (Bors.cons (Bor.own (f := f32) (fun _ => rfl) rfl rfl) Bors.nil) rfl rfl (i_areFinite_ok L50 r52 hf28)) hc29) rfl ?_
     refine zl (r := b false) (LOp.eqb (LOp.not rfl rfl) rfl) ?_
     refine zl (r := b false) (LOp.pick_false rfl rfl rfl) ?_
     refine zN ?_
     refine RunC.cond_false rfl rfl ?_
     refine RunC.skip ?_
     refine zQ ?_
     refine ROps.d (r := agg (oXc r2 r3 1 1 r4.length)) (fs := []) (Γ' := [⟨1, some zMx⟩, ⟨1, some (L48.map f32)⟩, ⟨u46, some (L50.map f32)⟩, ⟨1, some (oXc r2 r3 1 1 r4.length)⟩, ⟨u47, none⟩, ⟨0, none⟩]) rfl rfl rfl (TOp.loadAgg_o rfl agg33 siz33 rfl rfl rfl rfl) rfl ?_
     refine zm (r := oref 2 u46 0 L50.length) ?_
     refine ROps.store_le (r := agg (oXc r2 r3 1 1 r4.length)) (l' := (oXc r2 r3 1 1 r4.length)) (Γ' := [⟨1, some (oXc r2 r3 1 1 r4.length)⟩, ⟨1, some (L48.map f32)⟩, ⟨u46, some (L50.map f32)⟩, ⟨1, some (oXc r2 r3 1 1 r4.length)⟩, ⟨u47, none⟩, ⟨0, none⟩]) rfl siz33 rfl rfl rfl aR rfl rfl rfl rfl (Nat.le_of_ble_eq_true rfl) rfl rfl ?_
     refine za (r := oref 2 u46 0 L50.length) ?_
     refine za (r := b true) ?_
     refine zN ?_
     refine RunC.ret ?_
     have hq := Option.some.inj h
     obtain ⟨hq0, hq⟩ := Prod.mk.inj hq
     obtain ⟨hq1, hq⟩ := Prod.mk.inj hq
     obtain ⟨hq2, hq⟩ := Prod.mk.inj hq
     obtain ⟨hq3, hq⟩ := Prod.mk.inj hq
     subst q0
     subst q1
     subst q2
     subst q3
     subst q4
     exact bodyQ.mk (r' := tup [agg (oXc r2 r3 1 1 L48.length), oref 2 u46 0 L50.length, b true]) [(1, 1), (2, u46)] (.inr rfl) rfl (show List.Nodup [1, 2] from by decide) (by simp [ren, rens, sigma]) rfl (Res.eq (Res.three rfl (RV.cell agg33 siz33 rfl rfl rfl rfl) (RV.tmp rfl) (RV.tmp rfl)) (by rw [(show L48.length = r4.length from hl49)] <;> rfl)) (SelL.arr0 (f := f32) (fun _ => rfl) rfl (SelL.arr0 (f := f32) (fun _ => rfl) rfl trivial))
    ·refine RunC.regionW ?_
     refine ROps.d (r := agg (oXc r2 r3 1 1 r4.length)) (fs := []) (Γ' := [⟨1, some zMx⟩, ⟨1, some (L48.map f32)⟩, ⟨u46, some (L50.map f32)⟩, ⟨1, some (oXc r2 r3 1 1 r4.length)⟩, ⟨u47, none⟩, ⟨0, none⟩]) rfl rfl rfl (TOp.loadAgg_o rfl agg33 siz33 rfl rfl rfl rfl) rfl ?_
     refine ROps.d (r := b true) (fs := []) (Γ' := [⟨1, some zMx⟩, ⟨1, some (L48.map f32)⟩, ⟨u46, some (L50.map f32)⟩, ⟨1, some (oXc r2 r3 1 1 r4.length)⟩, ⟨u47, none⟩, ⟨0, none⟩]) rfl rfl rfl (TOp.eqb (TOp.callB (CallAs.func ent102 rfl rfl) (Bors.cons (Bor.agg (Bors.cons (Bor.pure rfl) (Bors.cons (Bor.pure rfl) (Bors.cons (Bor.own (f := f32) (fun _ => rfl) rfl hl49) Bors.nil)))) Bors.nil) rfl rfl (i_ValidMatrix_ok r2 r3 L48 r51 hf26)) hc27) rfl ?_
     refine zl (r := b false) (LOp.eqb (LOp.not rfl rfl) rfl) ?_
     refine zm (r := b false) ?_
     refine zm (r := oref 2 u46 0 L50.length) ?_
     refine ROps.d (r := b false) (fs := []) (Γ' := [⟨1, some zMx⟩, ⟨1, some (L48.map f32)⟩, ⟨u46, some (L50.map f32)⟩, ⟨1, some (oXc r2 r3 1 1 r4.length)⟩, ⟨u47, none⟩, ⟨0, none⟩]) rfl rfl rfl (TOp.eqb (TOp.callB (CallAs.func ent74 rfl rfl) (Bors.cons (Bor.own (f := f32) (fun _ => rfl) rfl rfl) Bors.nil) rfl rfl (i_areFinite_ok L50 r52 hf28)) hc29) rfl ?_
     refine zl (r := b true) (LOp.eqb (LOp.not rfl rfl) rfl) ?_
     refine zl (r := b true) (LOp.pick_false rfl rfl rfl) ?_
     refine zN ?_
     refine RunC.cond_true rfl rfl ?_
     refine zQ ?_
     refine zl (r := agg zMx) (LOp.build (qs := []) zer33 zok33 und33 plc33 rfl trivial rfl) ?_
     refine ROps.store_le (r := agg zMx) (l' := zMx) (Γ' := [⟨1, some zMx⟩, ⟨1, some (L48.map f32)⟩, ⟨u46, some (L50.map f32)⟩, ⟨1, some (oXc r2 r3 1 1 r4.length)⟩, ⟨u47, none⟩, ⟨0, none⟩]) rfl siz33 rfl rfl rfl aR rfl rfl rfl rfl (Nat.le_of_ble_eq_true rfl) rfl rfl ?_
     refine za (r := nilsl) ?_
     refine za (r := b false) ?_
     refine zN ?_
     refine RunC.nil_cell (l' := [i64 0, i64 0, oref 4 (u47 + 1) 0 0]) (Γ' := [⟨1, some [i64 0, i64 0, oref 4 (u47 + 1) 0 0]⟩, ⟨1, some (L48.map f32)⟩, ⟨u46, some (L50.map f32)⟩, ⟨1, some (oXc r2 r3 1 1 r4.length)⟩, ⟨(u47 + 1), some (([] : List F).map f32)⟩, ⟨0, none⟩]) 0 2 4 rfl rfl rfl rfl rfl ?_
     refine RunC.nil_slot (Γ' := [⟨1, some [i64 0, i64 0, oref 4 (u47 + 1) 0 0]⟩, ⟨1, some (L48.map f32)⟩, ⟨u46, some (L50.map f32)⟩, ⟨1, some (oXc r2 r3 1 1 r4.length)⟩, ⟨(u47 + 1), some (([] : List F).map f32)⟩, ⟨1, some (([] : List F).map f32)⟩]) 3 5 rfl rfl rfl ?_
     refine RunC.ret ?_
     have hq := Option.some.inj h
     obtain ⟨hq0, hq⟩ := Prod.mk.inj hq
     obtain ⟨hq1, hq⟩ := Prod.mk.inj hq
     obtain ⟨hq2, hq⟩ := Prod.mk.inj hq
     obtain ⟨hq3, hq⟩ := Prod.mk.inj hq
     subst q0
     subst q1
     subst q2
     subst q3
     subst q4
     exact bodyQ.mk (r' := tup [agg [i64 0, i64 0, oref 4 (u47 + 1) 0 (([] : List F).length)], oref 5 1 0 (([] : List F).length), b false]) [(4, (u47 + 1)), (5, 1)] (.inr rfl) rfl (show List.Nodup [4, 5] from by decide) (by simp [ren, rens, sigma]) rfl (Res.eq (Res.three rfl (RV.cell agg33 siz33 rfl rfl rfl rfl) (RV.tmp rfl) (RV.tmp rfl)) (by rw [(show ([] : List F).length = 0 from rfl)] <;> rfl)) (SelL.arr0 (f := f32) (fun _ => rfl) rfl (SelL.arr0 (f := f32) (fun _ => rfl) rfl trivial))
   ·refine RunC.regionW ?_
    refine ROps.d (r := agg (oXc r2 r3 1 1 r4.length)) (fs := []) (Γ' := [⟨1, some zMx⟩, ⟨1, some (L48.map f32)⟩, ⟨u46, some (L50.map f32)⟩, ⟨1, some (oXc r2 r3 1 1 r4.length)⟩, ⟨u47, none⟩, ⟨0, none⟩]) rfl rfl rfl (TOp.loadAgg_o rfl agg33 siz33 rfl rfl rfl rfl) rfl ?_
    refine ROps.d (r := b false) (fs := []) (Γ' := [⟨1, some zMx⟩, ⟨1, some (L48.map f32)⟩, ⟨u46, some (L50.map f32)⟩, ⟨1, some (oXc r2 r3 1 1 r4.length)⟩, ⟨u47, none⟩, ⟨0, none⟩]) rfl rfl rfl (TOp.eqb (TOp.callB (CallAs.func ent102 rfl rfl) (Bors.cons (Bor.agg (Bors.cons (Bor.pure rfl) (Bors.cons (Bor.pure rfl) (Bors.cons (Bor.own (f := f32) (fun _ => rfl) rfl hl49) Bors.nil)))) Bors.nil) rfl rfl (i_ValidMatrix_ok r2 r3 L48 r51 hf26)) hc27) rfl ?_
    refine zl (r := b true) (LOp.eqb (LOp.not rfl rfl) rfl) ?_
    refine zm (r := b true) ?_
    iterate 3 (refine ROps.s rfl rfl rfl ?_)
    refine zl (r := b true) (LOp.pick_true rfl rfl rfl) ?_
    refine zN ?_
    refine RunC.cond_true rfl rfl ?_
    refine zQ ?_
    refine zl (r := agg zMx) (LOp.build (qs := []) zer33 zok33 und33 plc33 rfl trivial rfl) ?_
    refine ROps.store_le (r := agg zMx) (l' := zMx) (Γ' := [⟨1, some zMx⟩, ⟨1, some (L48.map f32)⟩, ⟨u46, some (L50.map f32)⟩, ⟨1, some (oXc r2 r3 1 1 r4.length)⟩, ⟨u47, none⟩, ⟨0, none⟩]) rfl siz33 rfl rfl rfl aR rfl rfl rfl rfl (Nat.le_of_ble_eq_true rfl) rfl rfl ?_
    refine za (r := nilsl) ?_
    refine za (r := b false) ?_
    refine zN ?_
    refine RunC.nil_cell (l' := [i64 0, i64 0, oref 4 (u47 + 1) 0 0]) (Γ' := [⟨1, some [i64 0, i64 0, oref 4 (u47 + 1) 0 0]⟩, ⟨1, some (L48.map f32)⟩, ⟨u46, some (L50.map f32)⟩, ⟨1, some (oXc r2 r3 1 1 r4.length)⟩, ⟨(u47 + 1), some (([] : List F).map f32)⟩, ⟨0, none⟩]) 0 2 4 rfl rfl rfl rfl rfl ?_
    refine RunC.nil_slot (Γ' := [⟨1, some [i64 0, i64 0, oref 4 (u47 + 1) 0 0]⟩, ⟨1, some (L48.map f32)⟩, ⟨u46, some (L50.map f32)⟩, ⟨1, some (oXc r2 r3 1 1 r4.length)⟩, ⟨(u47 + 1), some (([] : List F).map f32)⟩, ⟨1, some (([] : List F).map f32)⟩]) 3 5 rfl rfl rfl ?_
    refine RunC.ret ?_
    have hq := Option.some.inj h
    obtain ⟨hq0, hq⟩ := Prod.mk.inj hq
    obtain ⟨hq1, hq⟩ := Prod.mk.inj hq
    obtain ⟨hq2, hq⟩ := Prod.mk.inj hq
    obtain ⟨hq3, hq⟩ := Prod.mk.inj hq
    subst q0
    subst q1
    subst q2
    subst q3
    subst q4
    exact bodyQ.mk (r' := tup [agg [i64 0, i64 0, oref 4 (u47 + 1) 0 (([] : List F).length)], oref 5 1 0 (([] : List F).length), b false]) [(4, (u47 + 1)), (5, 1)] (.inr rfl) rfl (show List.Nodup [4, 5] from by decide) (by simp [ren, rens, sigma]) rfl (Res.eq (Res.three rfl (RV.cell agg33 siz33 rfl rfl rfl rfl) (RV.tmp rfl) (RV.tmp rfl)) (by rw [(show ([] : List F).length = 0 from rfl)] <;> rfl)) (SelL.arr0 (f := f32) (fun _ => rfl) rfl (SelL.arr0 (f := f32) (fun _ => rfl) rfl trivial))
 ·refine RunC.regionW ?_
  refine zl (r := agg (mXc a0 a1 a2)) (LOp.loadAgg agg33 siz33 rfl rfl rfl rfl) ?_
  refine ROps.d (r := b false) (fs := []) (Γ' := [⟨1, some zMx⟩, ⟨0, none⟩, ⟨0, none⟩, ⟨0, none⟩, ⟨0, none⟩, ⟨0, none⟩]) rfl rfl rfl (TOp.eqb (TOp.callB (CallAs.func ent91 rfl rfl) (Bors.cons (Bor.agg (Bors.cons (Bor.pure rfl) (Bors.cons (Bor.pure rfl) (Bors.cons (Bor.sl (fun _ => rfl)) Bors.nil)))) Bors.nil) rfl rfl (i_isSquare_ok a0 a1 a2 r1 hf1)) hc2) rfl ?_
  refine zl (r := b true) (LOp.eqb (LOp.not rfl rfl) rfl) ?_
  refine zN ?_
  refine RunC.cond_true rfl rfl ?_
  refine zQ ?_
  refine zl (r := agg zMx) (LOp.build (qs := []) zer33 zok33 und33 plc33 rfl trivial rfl) ?_
  refine ROps.store_le (r := agg zMx) (l' := zMx) (Γ' := [⟨1, some zMx⟩, ⟨0, none⟩, ⟨0, none⟩, ⟨0, none⟩, ⟨0, none⟩, ⟨0, none⟩]) rfl siz33 rfl rfl rfl aR rfl rfl rfl rfl (Nat.le_of_ble_eq_true rfl) rfl rfl ?_
  refine za (r := nilsl) ?_
  refine za (r := b false) ?_
  refine zN ?_
  refine RunC.nil_cell (l' := [i64 0, i64 0, oref 1 1 0 0]) (Γ' := [⟨1, some [i64 0, i64 0, oref 1 1 0 0]⟩, ⟨1, some (([] : List F).map f32)⟩, ⟨0, none⟩, ⟨0, none⟩, ⟨0, none⟩, ⟨0, none⟩]) 0 2 1 rfl rfl rfl rfl rfl ?_
  refine RunC.nil_slot (Γ' := [⟨1, some [i64 0, i64 0, oref 1 1 0 0]⟩, ⟨1, some (([] : List F).map f32)⟩, ⟨1, some (([] : List F).map f32)⟩, ⟨0, none⟩, ⟨0, none⟩, ⟨0, none⟩]) 3 2 rfl rfl rfl ?_
  refine RunC.ret ?_
  have hq := Option.some.inj h
  obtain ⟨hq0, hq⟩ := Prod.mk.inj hq
  obtain ⟨hq1, hq⟩ := Prod.mk.inj hq
  obtain ⟨hq2, hq⟩ := Prod.mk.inj hq
  obtain ⟨hq3, hq⟩ := Prod.mk.inj hq
  subst q0
  subst q1
  subst q2
  subst q3
  subst q4
  exact bodyQ.mk (r' := tup [agg [i64 0, i64 0, oref 1 1 0 (([] : List F).length)], oref 2 1 0 (([] : List F).length), b false]) [(1, 1), (2, 1)] (.inr rfl) rfl (show List.Nodup [1, 2] from by decide) rfl rfl (Res.eq (Res.three rfl (RV.cell agg33 siz33 rfl rfl rfl rfl) (RV.tmp rfl) (RV.tmp rfl)) (by rw [(show ([] : List F).length = 0 from rfl)] <;> rfl)) (SelL.arr0 (f := f32) (fun _ => rfl) rfl (SelL.arr0 (f := f32) (fun _ => rfl) rfl trivial))
end Go.Proofs.Ytkdociaoknmgbaa
