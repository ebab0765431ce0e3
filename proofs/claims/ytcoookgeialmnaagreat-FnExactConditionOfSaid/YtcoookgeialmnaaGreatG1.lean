/- Generated. -/
import Derived.Test.YtcoookgeialmnaaGreatG0
namespace Go.Proofs.YtcoookgeialmnaaGreat
open Go Go.AM Go.AM.AV
set_option maxRecDepth 20000
set_option maxHeartbeats 4000000
set_option linter.unusedVariables false
set_option linter.unusedSimpArgs false
noncomputable def s_l02Flip_b1 (a0 : Int) (a1 : Int) (a2 : List F) (L6 : List F) (v7 : Int) : Option (LR ((List F) × Int) ((List F)) (Int × Int × (List F))) :=
 olet (IntKind.i64.wrap (a0 * a1)) fun (x8 : Int) =>
 bsel (decide (v7 < x8)) (
  need (!decide (a0 = 0)) <|
  olet (v7.tmod a0) fun (x9 : Int) =>
  need (!decide (a0 = 0)) <|
  olet (IntKind.i64.wrap (v7.tdiv a0)) fun (x10 : Int) =>
  obind (s_l02At a0 a1 a2 x9 x10) fun (r11 : F) =>
  need (apok 4 L6.length 1) <|
  olet (IntKind.i64.wrap (v7 + 1)) fun (x12 : Int) =>
  some (LR.next ((L6 ++ ([r11] : List F)), x12))) (
  some (LR.out L6))
noncomputable def s_l02Flip_s1 (a0 : Int) (a1 : Int) (a2 : List F) : ((List F) × Int) → Option (LR ((List F) × Int) ((List F)) (Int × Int × (List F))) := fun s => s_l02Flip_b1 a0 a1 a2 s.1 s.2
noncomputable def s_l02Flip_k1 (r1 : Int) (r2 : Int) (L15 : List F) : Option (Int × Int × (List F)) :=
 some (r1, r2, L15)
noncomputable def s_l02Flip (a0 : Int) (a1 : Int) (a2 : List F) : Option (Int × Int × (List F)) :=
 obind3 (s_l02Blank a1 a0) fun (r1 : Int) (r2 : Int) (r3 : List F) =>
 obind (loopM (s_l02Flip_s1 a0 a1 a2) (r3, 0)) fun z => osum z (fun e => s_l02Flip_k1 r1 r2 e) (fun r => some r)
theorem s_l02Flip_ok (a0 : Int) (a1 : Int) (a2 : List F) (q0 : Int) (q1 : Int) (q2 : List F) (h : s_l02Flip a0 a1 a2 = some (q0, q1, q2)) : Ev Tryz.prog 80 [ptr [i64 a0, i64 a1, sl a2.length (a2.map f32)]] [] (agg [i64 q0, i64 q1, oref 0 0 0 q2.length]) [⟨0, some (q2.map f32)⟩] := by
 refine Ev.start Tryz.func80 rfl rfl 4 (τ := [(0, ptr [i64 a0, i64 a1, sl a2.length (a2.map f32)])]) rfl (Γ' := [⟨0, none⟩, ⟨0, none⟩, ⟨0, none⟩, ⟨0, none⟩]) rfl (n := 95) rfl (g := 0) rfl (fun _ => rfl) ?_
 unfold s_l02Flip at h
 refine zQ ?_
 refine ROps.d (r := optr 0 1 0) (fs := [(0, [i64 0, i64 0, nilsl])]) (Γ' := [⟨1, some [i64 0, i64 0, nilsl]⟩, ⟨0, none⟩, ⟨0, none⟩, ⟨0, none⟩]) rfl rfl rfl (TOp.alloc_o (g := ⟨0, none⟩) 0 rfl zer26 zok26 rfl) rfl ?_
 refine zN ?_
 refine RunC.seq ?_
 obtain ⟨r1, r2, r3, hf1, h⟩ := obind3_some h
 refine RunC.region_draw (Γ' := [⟨1, some [i64 0, i64 0, nilsl]⟩, ⟨1, some (r3.map f32)⟩, ⟨1, some [i64 0, i64 0, nilsl]⟩, ⟨0, none⟩]) 10 mixed 
  (TR.l (r := ptr [i64 a0, i64 a1, sl a2.length (a2.map f32)]) rfl rfl (LOp.move rfl rfl) <|
  (TR.l (r := ptr [i64 a0, i64 a1, sl a2.length (a2.map f32)]) rfl rfl (LOp.nilCheck_ptr rfl rfl) <|
  (TR.l (r := ptr [i64 a1, sl a2.length (a2.map f32)]) rfl rfl (LOp.fap und26 rfl siz2 rfl rfl rfl) <|
  (TR.l (r := i64 a1) rfl rfl (LOp.load1 agg2 rfl rfl) <|
  (TR.l (r := ptr [i64 a0, i64 a1, sl a2.length (a2.map f32)]) rfl rfl (LOp.move rfl rfl) <|
  (TR.l (r := ptr [i64 a0, i64 a1, sl a2.length (a2.map f32)]) rfl rfl (LOp.nilCheck_ptr rfl rfl) <|
  (TR.l (r := ptr [i64 a0, i64 a1, sl a2.length (a2.map f32)]) rfl rfl (LOp.fap und26 rfl siz2 rfl rfl rfl) <|
  (TR.l (r := i64 a0) rfl rfl (LOp.load1 agg2 rfl rfl) <|
  (TR.d (r := agg [i64 r1, i64 r2, oref 1 1 0 r3.length]) (fs := [(1, (r3.map f32))]) rfl rfl (TOp.callBN (ls := [(r3.map f32)]) [1] (CallAs.func ent119 rfl rfl) (Bors.cons (Bor.pure rfl) (Bors.cons (Bor.pure rfl) Bors.nil)) rfl (s_l02Blank_ok a1 a0 r1 r2 r3 hf1) (and_all (lts0_map (f := f32) (fun _ => rfl) _) rfl) (and_all (noss_map (f := f32) (fun _ => rfl) _) rfl) rfl (by decide) (ns_of ⟨⟨_, rfl⟩, trivial⟩)) <|
  (TR.d (r := optr 2 1 0) (fs := [(2, [i64 0, i64 0, nilsl])]) rfl rfl (TOp.alloc_o (g := ⟨0, none⟩) 2 rfl zer26 zok26 rfl) <|
  TR.nil)))))))))) rfl (by kernel_rfl) rfl (fills_of (by show List.Nodup [1, 2]; decide) ⟨⟨_, rfl⟩, ⟨_, rfl⟩, trivial⟩) rfl ?_
 iterate 10 refine ROps.dropS ?_
 refine ROps.drop0 ?_
 refine ROps.store_le (r := agg [i64 r1, i64 r2, oref 1 1 0 r3.length]) (l' := [i64 r1, i64 r2, oref 1 1 0 r3.length]) (Γ' := [⟨1, some [i64 0, i64 0, nilsl]⟩, ⟨1, some (r3.map f32)⟩, ⟨1, some [i64 r1, i64 r2, oref 1 1 0 r3.length]⟩, ⟨0, none⟩]) rfl siz26 rfl rfl rfl aR rfl rfl rfl rfl (Nat.le_of_ble_eq_true rfl) rfl rfl ?_
 refine zN ?_
 refine RunC.seq ?_
 refine zQ ?_
 refine zA (r := i64 0) rfl rfl rfl rfl rfl ?_
 refine zN ?_
 obtain ⟨z2, hz_2, h⟩ := obind_some h
 refine RunC.cutN (fun τ Γ => ∃ (L15 : List F) (u13 : Nat) (u14 : Nat), WeakLe τ [(2, optr 0 1 0), (3, optr 2 1 0)] ∧ DeadLe Γ [⟨1, some [i64 0, i64 0, nilsl]⟩, ⟨u13, some (L15.map f32)⟩, ⟨1, some [i64 r1, i64 r2, oref 1 u13 0 L15.length]⟩, ⟨u14, none⟩] ∧ z2 = .inl L15) ?_ ?_
 ·refine RunC.block (RunC.loop (RunL.loopM (x := z2) (s_l02Flip_s1 a0 a1 a2) (fun (s : (List F) × Int) τ Γ => ∃ (u4 : Nat) (u5 : Nat), WeakLe τ [(0, ptr [i64 a0, i64 a1, sl a2.length (a2.map f32)]), (2, optr 0 1 0), (3, optr 2 1 0), (4, i64 s.2)] ∧ DeadLe Γ [⟨1, some [i64 0, i64 0, nilsl]⟩, ⟨u4, some (s.1.map f32)⟩, ⟨1, some [i64 r1, i64 r2, oref 1 u4 0 s.1.length]⟩, ⟨u5, none⟩]) ?_ _ _ _ hz_2 ⟨1, 0, ⟨aR, aR, aR, aR, trivial⟩, ⟨⟨rfl, .inr rfl⟩, ⟨rfl, .inr rfl⟩, ⟨rfl, .inr (by first | rfl | simp)⟩, ⟨rfl, .inl rfl⟩, trivial⟩⟩))
  rintro ⟨L6, v7⟩ τ2 Γ2 y2_ ⟨u4, u5, hw2, hd2⟩ h2_ ho2 hr2
  refine RunC.wl (τ' := [(0, ptr [i64 a0, i64 a1, sl a2.length (a2.map f32)]), (2, optr 0 1 0), (3, optr 2 1 0), (4, i64 v7)]) (Γ' := [⟨1, some [i64 0, i64 0, nilsl]⟩, ⟨u4, some (L6.map f32)⟩, ⟨1, some [i64 r1, i64 r2, oref 1 u4 0 L6.length]⟩, ⟨u5, none⟩]) hw2 hd2 ?_
  replace h2_ : s_l02Flip_b1 a0 a1 a2 L6 v7 = some y2_ := h2_
  unfold s_l02Flip_b1 at h2_
  refine RunC.seq ?_
  refine RunC.seq ?_
  obtain ⟨x8, hx2, h2_⟩ := olet_some h2_
  rcases bsel_some h2_ with ⟨hc3, h2_⟩ | ⟨hc3, h2_⟩
  ·refine RunC.region_draw (Γ' := [⟨1, some [i64 0, i64 0, nilsl]⟩, ⟨u4, some (L6.map f32)⟩, ⟨1, some [i64 r1, i64 r2, oref 1 u4 0 L6.length]⟩, ⟨u5, none⟩]) 11 mixed 
    (TR.l (r := i64 v7) rfl rfl (LOp.move rfl rfl) <|
    (TR.l (r := ptr [i64 a0, i64 a1, sl a2.length (a2.map f32)]) rfl rfl (LOp.move rfl rfl) <|
    (TR.l (r := ptr [i64 a0, i64 a1, sl a2.length (a2.map f32)]) rfl rfl (LOp.nilCheck_ptr rfl rfl) <|
    (TR.l (r := ptr [i64 a0, i64 a1, sl a2.length (a2.map f32)]) rfl rfl (LOp.fap und26 rfl siz2 rfl rfl rfl) <|
    (TR.l (r := i64 a0) rfl rfl (LOp.load1 agg2 rfl rfl) <|
    (TR.l (r := ptr [i64 a0, i64 a1, sl a2.length (a2.map f32)]) rfl rfl (LOp.move rfl rfl) <|
    (TR.l (r := ptr [i64 a0, i64 a1, sl a2.length (a2.map f32)]) rfl rfl (LOp.nilCheck_ptr rfl rfl) <|
    (TR.l (r := ptr [i64 a1, sl a2.length (a2.map f32)]) rfl rfl (LOp.fap und26 rfl siz2 rfl rfl rfl) <|
    (TR.l (r := i64 a1) rfl rfl (LOp.load1 agg2 rfl rfl) <|
    (TR.l (r := i64 x8) rfl rfl (LOp.eqr (LOp.mul rfl rfl rfl) (congrArg (ik .i64) hx2)) <|
    (TR.l (r := b true) rfl rfl (LOp.eqb (LOp.lss rfl rfl rfl) hc3) <|
    TR.nil))))))))))) rfl (by kernel_rfl) rfl fills_nil rfl ?_
   iterate 11 refine ROps.dropS ?_
   refine ROps.drop0 ?_
   refine zN ?_
   refine RunC.cond_true rfl rfl ?_
   refine RunC.skip ?_
   refine RunC.seq ?_
   refine RunC.block ?_
   obtain ⟨hz4, h2_⟩ := need_some h2_
   obtain ⟨x9, hx5, h2_⟩ := olet_some h2_
   obtain ⟨hz6, h2_⟩ := need_some h2_
   obtain ⟨x10, hx7, h2_⟩ := olet_some h2_
   obtain ⟨r11, hf8, h2_⟩ := obind_some h2_
   obtain ⟨hm9, h2_⟩ := need_some h2_
   refine RunC.region_draw (Γ' := [⟨1, some [i64 0, i64 0, nilsl]⟩, ⟨u4, some (L6.map f32)⟩, ⟨1, some [i64 r1, i64 r2, oref 1 u4 0 L6.length]⟩, ⟨(u5 + 1), some (([r11] : List F).map f32)⟩]) 17 mixed 
    (TR.l (r := optr 2 1 2) rfl rfl (LOp.fao und26 rfl siz22 rfl rfl rfl) <|
    (TR.d (r := oref 1 u4 0 L6.length) (fs := []) rfl rfl (TOp.load1_o rfl rfl agg22 rfl rfl) <|
    (TR.l (r := ptr [i64 a0, i64 a1, sl a2.length (a2.map f32)]) rfl rfl (LOp.move rfl rfl) <|
    (TR.l (r := i64 v7) rfl rfl (LOp.move rfl rfl) <|
    (TR.l (r := ptr [i64 a0, i64 a1, sl a2.length (a2.map f32)]) rfl rfl (LOp.move rfl rfl) <|
    (TR.l (r := ptr [i64 a0, i64 a1, sl a2.length (a2.map f32)]) rfl rfl (LOp.nilCheck_ptr rfl rfl) <|
    (TR.l (r := ptr [i64 a0, i64 a1, sl a2.length (a2.map f32)]) rfl rfl (LOp.fap und26 rfl siz2 rfl rfl rfl) <|
    (TR.l (r := i64 a0) rfl rfl (LOp.load1 agg2 rfl rfl) <|
    (TR.l (r := i64 x9) rfl rfl (LOp.eqr (LOp.rem rfl rfl rfl (nz hz4)) (congrArg (ik .i64) hx5)) <|
    (TR.l (r := i64 v7) rfl rfl (LOp.move rfl rfl) <|
    (TR.l (r := ptr [i64 a0, i64 a1, sl a2.length (a2.map f32)]) rfl rfl (LOp.move rfl rfl) <|
    (TR.l (r := ptr [i64 a0, i64 a1, sl a2.length (a2.map f32)]) rfl rfl (LOp.nilCheck_ptr rfl rfl) <|
    (TR.l (r := ptr [i64 a0, i64 a1, sl a2.length (a2.map f32)]) rfl rfl (LOp.fap und26 rfl siz2 rfl rfl rfl) <|
    (TR.l (r := i64 a0) rfl rfl (LOp.load1 agg2 rfl rfl) <|
    (TR.l (r := i64 x10) rfl rfl (LOp.eqr (LOp.quo rfl rfl rfl (nz hz6)) (congrArg (ik .i64) hx7)) <|
    (TR.d (r := f32 r11) (fs := []) rfl rfl (TOp.callB (CallAs.func ent21 rfl rfl) (Bors.cons (Bor.ptr (Bors.cons (Bor.pure rfl) (Bors.cons (Bor.pure rfl) (Bors.cons (Bor.sl (fun _ => rfl)) Bors.nil)))) (Bors.cons (Bor.pure rfl) (Bors.cons (Bor.pure rfl) Bors.nil))) rfl rfl (s_l02At_ok a0 a1 a2 x9 x10 r11 hf8)) <|
    (TR.d (r := oref 3 (u5 + 1) 0 1) (fs := [(3, (([r11] : List F).map f32))]) rfl rfl (TOp.buildSlice_o (g := ⟨u5, none⟩) (za := f32 (some 0)) (qs := [(0, [f32 r11])]) 3 rfl und22 siz33 zer33 rfl zel33 rfl rfl ⟨rfl, ⟨_, ALe.refl _, rfl⟩, trivial⟩ rfl) <|
    TR.nil))))))))))))))))) rfl (by kernel_rfl) rfl (fills_of (by show List.Nodup [3]; decide) ⟨⟨_, rfl⟩, trivial⟩) rfl ?_
   iterate 17 refine ROps.dropS ?_
   refine ROps.drop0 ?_
   refine ROps.app (f := f32) (xs := L6) (ys := ([r11] : List F)) (Γ' := [⟨1, some [i64 0, i64 0, nilsl]⟩, ⟨(u4 + 1), some ((L6 ++ ([r11] : List F)).map f32)⟩, ⟨1, some [i64 r1, i64 r2, oref 1 u4 0 L6.length]⟩, ⟨(u5 + 1), some (([r11] : List F).map f32)⟩]) rfl pun22 inf33 rfl rfl rfl rfl rfl rfl rfl rfl rfl (by simp) (ReadAs.own rfl (by simp)) (ones_map (fun _ => rfl)) (ap_by hm9) (ap_mx hm9) rfl ?_
   refine zL (r := optr 2 1 2) rfl rfl rfl (LOp.fao und26 rfl siz22 rfl rfl rfl) ?_
   refine ROps.store_le (r := oref 1 (u4 + 1) 0 (L6.length + 1)) (l' := [i64 r1, i64 r2, oref 1 (u4 + 1) 0 (L6.length + 1)]) (Γ' := [⟨1, some [i64 0, i64 0, nilsl]⟩, ⟨(u4 + 1), some ((L6 ++ ([r11] : List F)).map f32)⟩, ⟨1, some [i64 r1, i64 r2, oref 1 (u4 + 1) 0 (L6.length + 1)]⟩, ⟨(u5 + 1), some (([r11] : List F).map f32)⟩]) rfl siz22 rfl rfl rfl aR rfl rfl rfl rfl (Nat.le_of_ble_eq_true rfl) rfl rfl ?_
   refine zN ?_
   refine RunC.wl (τ' := [(0, ptr [i64 a0, i64 a1, sl a2.length (a2.map f32)]), (2, optr 0 1 0), (3, optr 2 1 0), (4, i64 v7)]) (Γ' := [⟨1, some [i64 0, i64 0, nilsl]⟩, ⟨(u4 + 1), some ((L6 ++ ([r11] : List F)).map f32)⟩, ⟨1, some [i64 r1, i64 r2, oref 1 (u4 + 1) 0 (L6.length + 1)]⟩, ⟨(u5 + 1), none⟩]) ⟨aR, aR, aR, aR, trivial⟩ ⟨⟨rfl, .inr rfl⟩, ⟨rfl, .inr rfl⟩, ⟨rfl, .inr rfl⟩, ⟨rfl, .inl rfl⟩, trivial⟩ ?_
   obtain ⟨x12, hx10, h2_⟩ := olet_some h2_
   refine RunC.regionW ?_
   refine zM (r := i64 v7) rfl rfl rfl rfl rfl ?_
   refine zL (r := i64 x12) rfl rfl rfl (LOp.eqr (LOp.add rfl rfl rfl) (congrArg (ik .i64) hx10)) ?_
   refine zA (r := i64 x12) rfl rfl rfl rfl rfl ?_
   refine zN ?_
   cases Option.some.inj h2_
   exact ⟨_, rfl, (u4 + 1), (u5 + 1), ⟨aR, aR, aR, aR, trivial⟩, ⟨⟨rfl, .inr rfl⟩, ⟨rfl, .inr rfl⟩, ⟨rfl, .inr (by first | rfl | simp)⟩, ⟨rfl, .inl rfl⟩, trivial⟩⟩
  ·refine RunC.region_draw (Γ' := [⟨1, some [i64 0, i64 0, nilsl]⟩, ⟨u4, some (L6.map f32)⟩, ⟨1, some [i64 r1, i64 r2, oref 1 u4 0 L6.length]⟩, ⟨u5, none⟩]) 11 mixed 
    (TR.l (r := i64 v7) rfl rfl (LOp.move rfl rfl) <|
    (TR.l (r := ptr [i64 a0, i64 a1, sl a2.length (a2.map f32)]) rfl rfl (LOp.move rfl rfl) <|
    (TR.l (r := ptr [i64 a0, i64 a1, sl a2.length (a2.map f32)]) rfl rfl (LOp.nilCheck_ptr rfl rfl) <|
    (TR.l (r := ptr [i64 a0, i64 a1, sl a2.length (a2.map f32)]) rfl rfl (LOp.fap und26 rfl siz2 rfl rfl rfl) <|
    (TR.l (r := i64 a0) rfl rfl (LOp.load1 agg2 rfl rfl) <|
    (TR.l (r := ptr [i64 a0, i64 a1, sl a2.length (a2.map f32)]) rfl rfl (LOp.move rfl rfl) <|
    (TR.l (r := ptr [i64 a0, i64 a1, sl a2.length (a2.map f32)]) rfl rfl (LOp.nilCheck_ptr rfl rfl) <|
    (TR.l (r := ptr [i64 a1, sl a2.length (a2.map f32)]) rfl rfl (LOp.fap und26 rfl siz2 rfl rfl rfl) <|
    (TR.l (r := i64 a1) rfl rfl (LOp.load1 agg2 rfl rfl) <|
    (TR.l (r := i64 x8) rfl rfl (LOp.eqr (LOp.mul rfl rfl rfl) (congrArg (ik .i64) hx2)) <|
    (TR.l (r := b false) rfl rfl (LOp.eqb (LOp.lss rfl rfl rfl) hc3) <|
    TR.nil))))))))))) rfl (by kernel_rfl) rfl fills_nil rfl ?_
   iterate 11 refine ROps.dropS ?_
   refine ROps.drop0 ?_
   refine zN ?_
   refine RunC.cond_false rfl rfl ?_
   refine RunC.exit ?_
   cases Option.some.inj h2_
   have hx := ho2 _ rfl
   exact ⟨L6, u4, u5, ⟨aR, aR, trivial⟩, ⟨⟨rfl, .inr rfl⟩, ⟨rfl, .inr rfl⟩, ⟨rfl, .inr (by first | rfl | simp)⟩, ⟨rfl, .inl rfl⟩, trivial⟩, hx⟩
 ·rintro τ3 Γ3 ⟨L15, u13, u14, hw3, hd3, rfl⟩
  refine RunC.wl hw3 hd3 ?_
  replace h : s_l02Flip_k1 r1 r2 L15 = some (q0, q1, q2) := h
  unfold s_l02Flip_k1 at h
  refine zQ ?_
  refine ROps.d (r := agg [i64 r1, i64 r2, oref 1 u13 0 L15.length]) (fs := []) (Γ' := [⟨1, some [i64 0, i64 0, nilsl]⟩, ⟨u13, some (L15.map f32)⟩, ⟨1, some [i64 r1, i64 r2, oref 1 u13 0 L15.length]⟩, ⟨u14, none⟩]) rfl rfl rfl (TOp.loadAgg_o rfl agg26 siz26 rfl rfl rfl rfl) rfl ?_
  refine ROps.store_le (r := agg [i64 r1, i64 r2, oref 1 u13 0 L15.length]) (l' := [i64 r1, i64 r2, oref 1 u13 0 L15.length]) (Γ' := [⟨1, some [i64 r1, i64 r2, oref 1 u13 0 L15.length]⟩, ⟨u13, some (L15.map f32)⟩, ⟨1, some [i64 r1, i64 r2, oref 1 u13 0 L15.length]⟩, ⟨u14, none⟩]) rfl siz26 rfl rfl rfl aR rfl rfl rfl rfl (Nat.le_of_ble_eq_true rfl) rfl rfl ?_
  refine zN ?_
  refine RunC.ret ?_
  have hq := Option.some.inj h
  obtain ⟨hq0, hq⟩ := Prod.mk.inj hq
  obtain ⟨hq1, hq⟩ := Prod.mk.inj hq
  subst q0
  subst q1
  subst q2
  exact bodyQ.mk (r' := agg [i64 r1, i64 r2, oref 1 u13 0 L15.length]) [(1, u13)] (.inr rfl) rfl (show List.Nodup [1] from by decide) (by simp [ren, rens, sigma]) rfl (Res.one rfl (RV.cell agg26 siz26 rfl rfl rfl rfl)) (SelL.arr0 (f := f32) (fun _ => rfl) rfl trivial)
noncomputable def s_l02RowNorm_k4 (v2 : Int) (y10 : F) : Option (LR (F × Int) (F) (F)) :=
 olet (IntKind.i64.wrap (v2 + 1)) fun (x11 : Int) =>
 some (LR.next (y10, x11))
noncomputable def s_l02RowNorm_b3 (a0 : Int) (a1 : Int) (a2 : List F) (v2 : Int) (y3 : F) (v4 : Int) : Option (LR (F × Int) (F) (F)) :=
 bsel (decide (v4 < a1)) (
  obind (s_l02At a0 a1 a2 v2 v4) fun (r5 : F) =>
  obind (s_l02Size r5) fun (r6 : F) =>
  olet (fop .add .f32 y3 r6) fun (x7 : F) =>
  olet (IntKind.i64.wrap (v4 + 1)) fun (x8 : Int) =>
  some (LR.next (x7, x8))) (
  some (LR.out y3))
noncomputable def s_l02RowNorm_s3 (a0 : Int) (a1 : Int) (a2 : List F) (v2 : Int) : (F × Int) → Option (LR (F × Int) (F) (F)) := fun s => s_l02RowNorm_b3 a0 a1 a2 v2 s.1 s.2
noncomputable def s_l02RowNorm_k3 (y1 : F) (v2 : Int) (y9 : F) : Option (LR (F × Int) (F) (F)) :=
 bsel (flt .f32 y1 y9) (
  s_l02RowNorm_k4 v2 y9) (
  s_l02RowNorm_k4 v2 y1)
noncomputable def s_l02RowNorm_b5 (a0 : Int) (a1 : Int) (a2 : List F) (y1 : F) (v2 : Int) : Option (LR (F × Int) (F) (F)) :=
 bsel (decide (v2 < a0)) (
  obind (loopM (s_l02RowNorm_s3 a0 a1 a2 v2) (some 0, 0)) fun z => osum z (fun e => s_l02RowNorm_k3 y1 v2 e) (fun r => some (LR.ret r))) (
  some (LR.out y1))
noncomputable def s_l02RowNorm_s5 (a0 : Int) (a1 : Int) (a2 : List F) : (F × Int) → Option (LR (F × Int) (F) (F)) := fun s => s_l02RowNorm_b5 a0 a1 a2 s.1 s.2
noncomputable def s_l02RowNorm_k5 (y12 : F) : Option (F) :=
 some y12
noncomputable def s_l02RowNorm (a0 : Int) (a1 : Int) (a2 : List F) : Option (F) :=
 obind (loopM (s_l02RowNorm_s5 a0 a1 a2) (some 0, 0)) fun z => osum z (fun e => s_l02RowNorm_k5 e) (fun r => some r)
theorem s_l02RowNorm_ok (a0 : Int) (a1 : Int) (a2 : List F) (q0 : F) (h : s_l02RowNorm a0 a1 a2 = some q0) : Ev Tryz.prog 81 [ptr [i64 a0, i64 a1, sl a2.length (a2.map f32)]] [] (f32 q0) [] := by
 refine Ev.start Tryz.func81 rfl rfl 0 (τ := [(0, ptr [i64 a0, i64 a1, sl a2.length (a2.map f32)])]) rfl (Γ' := []) rfl (n := 71) rfl (g := 0) rfl (fun _ => rfl) ?_
 unfold s_l02RowNorm at h
 refine zQ ?_
 refine zL (r := f32 (some 0)) rfl rfl rfl (LOp.le (LOp.assign rfl rfl) (ALe.fl (by kernel_rfl) (by kernel_rfl))) ?_
 refine zN ?_
 refine zQ ?_
 refine zL (r := f32 (some 0)) rfl rfl rfl (LOp.le (LOp.assign rfl rfl) (ALe.fl (by kernel_rfl) (by kernel_rfl))) ?_
 refine zN ?_
 refine RunC.seq ?_
 refine zQ ?_
 refine zA (r := i64 0) rfl rfl rfl rfl rfl ?_
 refine zN ?_
 obtain ⟨z6, hz_6, h⟩ := obind_some h
 refine RunC.cutN (fun τ Γ => ∃ (y12 : F), WeakLe τ [(3, f32 y12)] ∧ DeadLe Γ [] ∧ z6 = .inl y12) ?_ ?_
 ·refine RunC.block (RunC.loop (RunL.loopM (x := z6) (s_l02RowNorm_s5 a0 a1 a2) (fun (s : F × Int) τ Γ => WeakLe τ [(0, ptr [i64 a0, i64 a1, sl a2.length (a2.map f32)]), (3, f32 s.1), (4, i64 s.2)] ∧ DeadLe Γ []) ?_ _ _ _ hz_6 ⟨⟨aR, aR, aR, trivial⟩, trivial⟩))
  rintro ⟨y1, v2⟩ τ6 Γ6 y6_ ⟨hw6, hd6⟩ h6_ ho6 hr6
  refine RunC.wl (τ' := [(0, ptr [i64 a0, i64 a1, sl a2.length (a2.map f32)]), (3, f32 y1), (4, i64 v2)]) (Γ' := []) hw6 hd6 ?_
  replace h6_ : s_l02RowNorm_b5 a0 a1 a2 y1 v2 = some y6_ := h6_
  unfold s_l02RowNorm_b5 at h6_
  refine RunC.seq ?_
  refine RunC.seq ?_
  rcases bsel_some h6_ with ⟨hc1, h6_⟩ | ⟨hc1, h6_⟩
  ·refine RunC.regionW ?_
   refine zM (r := i64 v2) rfl rfl rfl rfl rfl ?_
   refine zM (r := ptr [i64 a0, i64 a1, sl a2.length (a2.map f32)]) rfl rfl rfl rfl rfl ?_
   refine zL (r := ptr [i64 a0, i64 a1, sl a2.length (a2.map f32)]) rfl rfl rfl (LOp.nilCheck_ptr rfl rfl) ?_
   refine zL (r := ptr [i64 a0, i64 a1, sl a2.length (a2.map f32)]) rfl rfl rfl (LOp.fap und26 rfl siz2 rfl rfl rfl) ?_
   refine zL (r := i64 a0) rfl rfl rfl (LOp.load1 agg2 rfl rfl) ?_
   refine zL (r := b true) rfl rfl rfl (LOp.eqb (LOp.lss rfl rfl rfl) hc1) ?_
   refine zN ?_
   refine RunC.cond_true rfl rfl ?_
   refine RunC.skip ?_
   refine RunC.seq ?_
   refine RunC.cutN (fun τ Γ => ∃ (y10 : F), WeakLe τ [(0, ptr [i64 a0, i64 a1, sl a2.length (a2.map f32)]), (3, f32 y10), (4, i64 v2)] ∧ DeadLe Γ [] ∧ s_l02RowNorm_k4 v2 y10 = some y6_) ?_ ?_
   ·refine RunC.block ?_
    refine zQ ?_
    refine zL (r := f32 (some 0)) rfl rfl rfl (LOp.le (LOp.assign rfl rfl) (ALe.fl (by kernel_rfl) (by kernel_rfl))) ?_
    refine zN ?_
    refine RunC.seq ?_
    refine zQ ?_
    refine zA (r := i64 0) rfl rfl rfl rfl rfl ?_
    refine zN ?_
    obtain ⟨z7, hz_7, h6_⟩ := obind_some h6_
    refine RunC.cutN (fun τ Γ => ∃ (y9 : F), WeakLe τ [(0, ptr [i64 a0, i64 a1, sl a2.length (a2.map f32)]), (3, f32 y1), (4, i64 v2), (5, f32 y9)] ∧ DeadLe Γ [] ∧ z7 = .inl y9) ?_ ?_
    ·refine RunC.block (RunC.loop (RunL.loopM (x := z7) (s_l02RowNorm_s3 a0 a1 a2 v2) (fun (s : F × Int) τ Γ => WeakLe τ [(0, ptr [i64 a0, i64 a1, sl a2.length (a2.map f32)]), (3, f32 y1), (4, i64 v2), (5, f32 s.1), (6, i64 s.2)] ∧ DeadLe Γ []) ?_ _ _ _ hz_7 ⟨⟨aR, aR, aR, aR, aR, trivial⟩, trivial⟩))
     rintro ⟨y3, v4⟩ τ7 Γ7 y7_ ⟨hw7, hd7⟩ h7_ ho7 hr7
     refine RunC.wl (τ' := [(0, ptr [i64 a0, i64 a1, sl a2.length (a2.map f32)]), (3, f32 y1), (4, i64 v2), (5, f32 y3), (6, i64 v4)]) (Γ' := []) hw7 hd7 ?_
     replace h7_ : s_l02RowNorm_b3 a0 a1 a2 v2 y3 v4 = some y7_ := h7_
     unfold s_l02RowNorm_b3 at h7_
     refine RunC.seq ?_
     refine RunC.seq ?_
     rcases bsel_some h7_ with ⟨hc2, h7_⟩ | ⟨hc2, h7_⟩
     ·refine RunC.regionW ?_
      refine zM (r := i64 v4) rfl rfl rfl rfl rfl ?_
      refine zM (r := ptr [i64 a0, i64 a1, sl a2.length (a2.map f32)]) rfl rfl rfl rfl rfl ?_
      refine zL (r := ptr [i64 a0, i64 a1, sl a2.length (a2.map f32)]) rfl rfl rfl (LOp.nilCheck_ptr rfl rfl) ?_
      refine zL (r := ptr [i64 a1, sl a2.length (a2.map f32)]) rfl rfl rfl (LOp.fap und26 rfl siz2 rfl rfl rfl) ?_
      refine zL (r := i64 a1) rfl rfl rfl (LOp.load1 agg2 rfl rfl) ?_
      refine zL (r := b true) rfl rfl rfl (LOp.eqb (LOp.lss rfl rfl rfl) hc2) ?_
      refine zN ?_
      refine RunC.cond_true rfl rfl ?_
      refine RunC.skip ?_
      refine RunC.seq ?_
      refine RunC.block ?_
      obtain ⟨r5, hf3, h7_⟩ := obind_some h7_
      obtain ⟨r6, hf4, h7_⟩ := obind_some h7_
      obtain ⟨x7, hx5, h7_⟩ := olet_some h7_
      refine RunC.regionW ?_
      refine zM (r := f32 y3) rfl rfl rfl rfl rfl ?_
      refine zM (r := ptr [i64 a0, i64 a1, sl a2.length (a2.map f32)]) rfl rfl rfl rfl rfl ?_
      refine zM (r := i64 v2) rfl rfl rfl rfl rfl ?_
      refine zM (r := i64 v4) rfl rfl rfl rfl rfl ?_
      refine ROps.d (r := f32 r5) (fs := []) (Γ' := []) rfl rfl rfl (TOp.callB (CallAs.func ent21 rfl rfl) (Bors.cons (Bor.ptr (Bors.cons (Bor.pure rfl) (Bors.cons (Bor.pure rfl) (Bors.cons (Bor.sl (fun _ => rfl)) Bors.nil)))) (Bors.cons (Bor.pure rfl) (Bors.cons (Bor.pure rfl) Bors.nil))) rfl rfl (s_l02At_ok a0 a1 a2 v2 v4 r5 hf3)) rfl ?_
      refine ROps.d (r := f32 r6) (fs := []) (Γ' := []) rfl rfl rfl (TOp.callB (CallAs.func ent95 rfl rfl) (Bors.cons (Bor.pure rfl) Bors.nil) rfl rfl (s_l02Size_ok r5 r6 hf4)) rfl ?_
      refine ROps.d (r := f32 x7) (fs := []) (Γ' := []) rfl rfl rfl (TOp.eqr (TOp.fop (.inl rfl) rfl (OpF.tmp rfl) (OpF.tmp rfl)) (congrArg (f .f32) hx5)) rfl ?_
      refine zA (r := f32 x7) rfl rfl rfl rfl rfl ?_
      refine zN ?_
      refine RunC.wl (τ' := [(0, ptr [i64 a0, i64 a1, sl a2.length (a2.map f32)]), (3, f32 y1), (4, i64 v2), (5, f32 x7), (6, i64 v4)]) (Γ' := []) ⟨aR, aR, aR, aR, aR, trivial⟩ trivial ?_
      obtain ⟨x8, hx6, h7_⟩ := olet_some h7_
      refine RunC.regionW ?_
      refine zM (r := i64 v4) rfl rfl rfl rfl rfl ?_
      refine zL (r := i64 x8) rfl rfl rfl (LOp.eqr (LOp.add rfl rfl rfl) (congrArg (ik .i64) hx6)) ?_
      refine zA (r := i64 x8) rfl rfl rfl rfl rfl ?_
      refine zN ?_
      cases Option.some.inj h7_
      exact ⟨_, rfl, ⟨aR, aR, aR, aR, aR, trivial⟩, trivial⟩
     ·refine RunC.regionW ?_
      refine zM (r := i64 v4) rfl rfl rfl rfl rfl ?_
      refine zM (r := ptr [i64 a0, i64 a1, sl a2.length (a2.map f32)]) rfl rfl rfl rfl rfl ?_
      refine zL (r := ptr [i64 a0, i64 a1, sl a2.length (a2.map f32)]) rfl rfl rfl (LOp.nilCheck_ptr rfl rfl) ?_
      refine zL (r := ptr [i64 a1, sl a2.length (a2.map f32)]) rfl rfl rfl (LOp.fap und26 rfl siz2 rfl rfl rfl) ?_
      refine zL (r := i64 a1) rfl rfl rfl (LOp.load1 agg2 rfl rfl) ?_
      refine zL (r := b false) rfl rfl rfl (LOp.eqb (LOp.lss rfl rfl rfl) hc2) ?_
      refine zN ?_
      refine RunC.cond_false rfl rfl ?_
      refine RunC.exit ?_
      cases Option.some.inj h7_
      have hx := ho7 _ rfl
      exact ⟨y3, ⟨aR, aR, aR, aR, trivial⟩, trivial, hx⟩
    ·rintro τ8 Γ8 ⟨y9, hw8, hd8, rfl⟩
     refine RunC.wl hw8 hd8 ?_
     replace h6_ : s_l02RowNorm_k3 y1 v2 y9 = some y6_ := h6_
     unfold s_l02RowNorm_k3 at h6_
     refine RunC.seq ?_
     rcases bsel_some h6_ with ⟨hc7, h6_⟩ | ⟨hc7, h6_⟩
     ·refine RunC.regionW ?_
      refine zM (r := f32 y9) rfl rfl rfl rfl rfl ?_
      refine zM (r := f32 y1) rfl rfl rfl rfl rfl ?_
      refine zL (r := b true) rfl rfl rfl (LOp.eqb (LOp.fgt rfl (OpF.tmp rfl) (OpF.tmp rfl)) hc7) ?_
      refine zN ?_
      refine RunC.cond_true rfl rfl ?_
      refine RunC.regionW ?_
      refine zM (r := f32 y9) rfl rfl rfl rfl rfl ?_
      refine zA (r := f32 y9) rfl rfl rfl rfl rfl ?_
      refine zN ?_
      exact ⟨y9, ⟨aR, aR, aR, trivial⟩, trivial, h6_⟩
     ·refine RunC.regionW ?_
      refine zM (r := f32 y9) rfl rfl rfl rfl rfl ?_
      refine zM (r := f32 y1) rfl rfl rfl rfl rfl ?_
      refine zL (r := b false) rfl rfl rfl (LOp.eqb (LOp.fgt rfl (OpF.tmp rfl) (OpF.tmp rfl)) hc7) ?_
      refine zN ?_
      refine RunC.cond_false rfl rfl ?_
      refine RunC.skip ?_
      exact ⟨y1, ⟨aR, aR, aR, trivial⟩, trivial, h6_⟩
   ·rintro τ9 Γ9 ⟨y10, hw9, hd9, h6_⟩
    refine RunC.wl hw9 hd9 ?_
    unfold s_l02RowNorm_k4 at h6_
    obtain ⟨x11, hx8, h6_⟩ := olet_some h6_
    refine RunC.regionW ?_
    refine zM (r := i64 v2) rfl rfl rfl rfl rfl ?_
    refine zL (r := i64 x11) rfl rfl rfl (LOp.eqr (LOp.add rfl rfl rfl) (congrArg (ik .i64) hx8)) ?_
    refine zA (r := i64 x11) rfl rfl rfl rfl rfl ?_
    refine zN ?_
    cases Option.some.inj h6_
    exact ⟨_, rfl, ⟨aR, aR, aR, trivial⟩, trivial⟩
  ·refine RunC.regionW ?_
   refine zM (r := i64 v2) rfl rfl rfl rfl rfl ?_
   refine zM (r := ptr [i64 a0, i64 a1, sl a2.length (a2.map f32)]) rfl rfl rfl rfl rfl ?_
   refine zL (r := ptr [i64 a0, i64 a1, sl a2.length (a2.map f32)]) rfl rfl rfl (LOp.nilCheck_ptr rfl rfl) ?_
   refine zL (r := ptr [i64 a0, i64 a1, sl a2.length (a2.map f32)]) rfl rfl rfl (LOp.fap und26 rfl siz2 rfl rfl rfl) ?_
   refine zL (r := i64 a0) rfl rfl rfl (LOp.load1 agg2 rfl rfl) ?_
   refine zL (r := b false) rfl rfl rfl (LOp.eqb (LOp.lss rfl rfl rfl) hc1) ?_
   refine zN ?_
   refine RunC.cond_false rfl rfl ?_
   refine RunC.exit ?_
   cases Option.some.inj h6_
   have hx := ho6 _ rfl
   exact ⟨y1, ⟨aR, trivial⟩, trivial, hx⟩
 ·rintro τ10 Γ10 ⟨y12, hw10, hd10, rfl⟩
  refine RunC.wl hw10 hd10 ?_
  replace h : s_l02RowNorm_k5 y12 = some q0 := h
  unfold s_l02RowNorm_k5 at h
  refine zQ ?_
  refine zM (r := f32 y12) rfl rfl rfl rfl rfl ?_
  refine zA (r := f32 y12) rfl rfl rfl rfl rfl ?_
  refine zN ?_
  refine RunC.ret ?_
  have hq := Option.some.inj h
  subst q0
  exact bodyQ.pure (.inr rfl) rfl (Res.one rfl (RV.tmp rfl))
noncomputable def s_l02Number (a0 : F) : Option (F × Bool) :=
 obind (s_l01Finite a0) fun (r1 : Bool) =>
 bsel r1 (
  some (a0, true)) (
  some (some 0, false))
theorem s_l02Number_ok (a0 : F) (q0 : F) (q1 : Bool) (h : s_l02Number a0 = some (q0, q1)) : Ev Tryz.prog 43 [f32 a0] [] (tup [f32 q0, b q1]) [] := by
 refine Ev.start Tryz.func43 rfl rfl 0 (τ := [(0, f32 a0)]) rfl (Γ' := []) rfl (n := 17) rfl (g := 0) rfl (fun _ => rfl) ?_
 unfold s_l02Number at h
 refine zQ ?_
 refine zL (r := f32 (some 0)) rfl rfl rfl (LOp.le (LOp.assign rfl rfl) (ALe.fl (by kernel_rfl) (by kernel_rfl))) ?_
 refine zA (r := b false) rfl rfl rfl rfl rfl ?_
 refine zN ?_
 refine RunC.seq ?_
 refine RunC.seq ?_
 obtain ⟨r1, hf1, h⟩ := obind_some h
 rcases bsel_some h with ⟨hc2, h⟩ | ⟨hc2, h⟩
 ·refine RunC.regionW ?_
  refine zM (r := f32 a0) rfl rfl rfl rfl rfl ?_
  refine ROps.d (r := b true) (fs := []) (Γ' := []) rfl rfl rfl (TOp.eqb (TOp.callB (CallAs.func ent53 rfl rfl) (Bors.cons (Bor.pure rfl) Bors.nil) rfl rfl (s_l01Finite_ok a0 r1 hf1)) hc2) rfl ?_
  refine zL (r := b false) rfl rfl rfl (LOp.eqb (LOp.not rfl rfl) rfl) ?_
  refine zN ?_
  refine RunC.cond_false rfl rfl ?_
  refine RunC.skip ?_
  refine zQ ?_
  refine zM (r := f32 a0) rfl rfl rfl rfl rfl ?_
  refine zA (r := f32 a0) rfl rfl rfl rfl rfl ?_
  refine zA (r := b true) rfl rfl rfl rfl rfl ?_
  refine zN ?_
  refine RunC.ret ?_
  have hq := Option.some.inj h
  obtain ⟨hq0, hq⟩ := Prod.mk.inj hq
  subst q0
  subst q1
  exact bodyQ.pure (.inr rfl) rfl (Res.two rfl (RV.tmp rfl) (RV.tmp rfl))
 ·refine RunC.regionW ?_
  refine zM (r := f32 a0) rfl rfl rfl rfl rfl ?_
  refine ROps.d (r := b false) (fs := []) (Γ' := []) rfl rfl rfl (TOp.eqb (TOp.callB (CallAs.func ent53 rfl rfl) (Bors.cons (Bor.pure rfl) Bors.nil) rfl rfl (s_l01Finite_ok a0 r1 hf1)) hc2) rfl ?_
  refine zL (r := b true) rfl rfl rfl (LOp.eqb (LOp.not rfl rfl) rfl) ?_
  refine zN ?_
  refine RunC.cond_true rfl rfl ?_
  refine zQ ?_
  refine zL (r := f32 (some 0)) rfl rfl rfl (LOp.le (LOp.assign rfl rfl) (ALe.fl (by kernel_rfl) (by kernel_rfl))) ?_
  refine zA (r := b false) rfl rfl rfl rfl rfl ?_
  refine zN ?_
  refine RunC.ret ?_
  have hq := Option.some.inj h
  obtain ⟨hq0, hq⟩ := Prod.mk.inj hq
  subst q0
  subst q1
  exact bodyQ.pure (.inr rfl) rfl (Res.two rfl (RV.tmp rfl) (RV.tmp rfl))
noncomputable def s_ColumnNorm (a0 : Int) (a1 : Int) (a2 : List F) : Option (F × Bool) :=
 obind (s_l02Is a0 a1 a2) fun (r1 : Bool) =>
 bsel r1 (
  obind3 (s_l02Flip a0 a1 a2) fun (r2 : Int) (r3 : Int) (r4 : List F) =>
  obind (s_l02RowNorm r2 r3 r4) fun (r5 : F) =>
  obind2 (s_l02Number r5) fun (r6 : F) (r7 : Bool) =>
  some (r6, r7)) (
  some (some 0, false))
theorem s_ColumnNorm_ok (a0 : Int) (a1 : Int) (a2 : List F) (q0 : F) (q1 : Bool) (h : s_ColumnNorm a0 a1 a2 = some (q0, q1)) : Ev Tryz.prog 42 [agg [i64 a0, i64 a1, sl a2.length (a2.map f32)]] [] (tup [f32 q0, b q1]) [] := by
 refine Ev.start Tryz.func42 rfl rfl 2 (τ := [(0, agg [i64 a0, i64 a1, sl a2.length (a2.map f32)])]) rfl (Γ' := [⟨0, none⟩, ⟨0, none⟩]) rfl (n := 25) rfl (g := 0) rfl (fun _ => rfl) ?_
 unfold s_ColumnNorm at h
 refine zQ ?_
 refine ROps.d (r := ptr [i64 a0, i64 a1, sl a2.length (a2.map f32)]) (fs := []) (Γ' := [⟨0, none⟩, ⟨0, none⟩]) rfl rfl rfl (TOp.box_s rfl rfl rfl) rfl ?_
 refine zL (r := f32 (some 0)) rfl rfl rfl (LOp.le (LOp.assign rfl rfl) (ALe.fl (by kernel_rfl) (by kernel_rfl))) ?_
 refine zA (r := b false) rfl rfl rfl rfl rfl ?_
 refine zN ?_
 refine RunC.seq ?_
 refine RunC.seq ?_
 obtain ⟨r1, hf1, h⟩ := obind_some h
 rcases bsel_some h with ⟨hc2, h⟩ | ⟨hc2, h⟩
 ·refine RunC.regionW ?_
  refine ROps.d (r := b true) (fs := []) (Γ' := [⟨0, none⟩, ⟨0, none⟩]) rfl rfl rfl (TOp.eqb (TOp.callB (CallAs.func ent48 rfl rfl) (Bors.cons (Bor.ptr (Bors.cons (Bor.pure rfl) (Bors.cons (Bor.pure rfl) (Bors.cons (Bor.sl (fun _ => rfl)) Bors.nil)))) Bors.nil) rfl rfl (s_l02Is_ok a0 a1 a2 r1 hf1)) hc2) rfl ?_
  refine zL (r := b false) rfl rfl rfl (LOp.eqb (LOp.not rfl rfl) rfl) ?_
  refine zN ?_
  refine RunC.cond_false rfl rfl ?_
  refine RunC.skip ?_
  refine RunC.seq ?_
  obtain ⟨r2, r3, r4, hf3, h⟩ := obind3_some h
  refine RunC.regionW ?_
  refine ROps.d (r := agg [i64 r2, i64 r3, oref 0 1 0 r4.length]) (fs := [(0, (r4.map f32))]) (Γ' := [⟨1, some (r4.map f32)⟩, ⟨0, none⟩]) rfl rfl rfl (TOp.callBN (ls := [(r4.map f32)]) [0] (CallAs.func ent80 rfl rfl) (Bors.cons (Bor.ptr (Bors.cons (Bor.pure rfl) (Bors.cons (Bor.pure rfl) (Bors.cons (Bor.sl (fun _ => rfl)) Bors.nil)))) Bors.nil) rfl (s_l02Flip_ok a0 a1 a2 r2 r3 r4 hf3) (and_all (lts0_map (f := f32) (fun _ => rfl) _) rfl) (and_all (noss_map (f := f32) (fun _ => rfl) _) rfl) rfl (by decide) (ns_of ⟨⟨_, rfl⟩, trivial⟩)) rfl ?_
  refine ROps.d (r := optr 1 1 0) (fs := [(1, [i64 0, i64 0, nilsl])]) (Γ' := [⟨1, some (r4.map f32)⟩, ⟨1, some [i64 0, i64 0, nilsl]⟩]) rfl rfl rfl (TOp.alloc_o (g := ⟨0, none⟩) 1 rfl zer26 zok26 rfl) rfl ?_
  refine ROps.store_le (r := agg [i64 r2, i64 r3, oref 0 1 0 r4.length]) (l' := [i64 r2, i64 r3, oref 0 1 0 r4.length]) (Γ' := [⟨1, some (r4.map f32)⟩, ⟨1, some [i64 r2, i64 r3, oref 0 1 0 r4.length]⟩]) rfl siz26 rfl rfl rfl aR rfl rfl rfl rfl (Nat.le_of_ble_eq_true rfl) rfl rfl ?_
  refine zN ?_
  refine RunC.seq ?_
  obtain ⟨r5, hf4, h⟩ := obind_some h
  obtain ⟨r6, r7, hf5, h⟩ := obind2_some h
  refine RunC.regionW ?_
  refine ROps.d (r := f32 r5) (fs := []) (Γ' := [⟨1, some (r4.map f32)⟩, ⟨1, some [i64 r2, i64 r3, oref 0 1 0 r4.length]⟩]) rfl rfl rfl (TOp.callB (CallAs.func ent81 rfl rfl) (Bors.cons (Bor.optr rfl (Bors.p (Bors.cons (Bor.pure rfl) (Bors.cons (Bor.pure rfl) (Bors.cons (Bor.own (f := f32) (fun _ => rfl) rfl rfl) Bors.nil)))) rfl) Bors.nil) rfl rfl (s_l02RowNorm_ok r2 r3 r4 r5 hf4)) rfl ?_
  refine ROps.d (r := tup [f32 r6, b r7]) (fs := []) (Γ' := [⟨1, some (r4.map f32)⟩, ⟨1, some [i64 r2, i64 r3, oref 0 1 0 r4.length]⟩]) rfl rfl rfl (TOp.callB (CallAs.func ent43 rfl rfl) (Bors.cons (Bor.pure rfl) Bors.nil) rfl rfl (s_l02Number_ok r5 r6 r7 hf5)) rfl ?_
  refine zL (r := f32 r6) rfl rfl rfl (LOp.extract rfl rfl rfl) ?_
  refine zL (r := b r7) rfl rfl rfl (LOp.extract rfl rfl rfl) ?_
  refine zA (r := f32 r6) rfl rfl rfl rfl rfl ?_
  refine zA (r := b r7) rfl rfl rfl rfl rfl ?_
  refine zN ?_
  refine RunC.ret ?_
  have hq := Option.some.inj h
  obtain ⟨hq0, hq⟩ := Prod.mk.inj hq
  subst q0
  subst q1
  exact bodyQ.pure (.inr rfl) rfl (Res.two rfl (RV.tmp rfl) (RV.tmp rfl))
 ·refine RunC.regionW ?_
  refine ROps.d (r := b false) (fs := []) (Γ' := [⟨0, none⟩, ⟨0, none⟩]) rfl rfl rfl (TOp.eqb (TOp.callB (CallAs.func ent48 rfl rfl) (Bors.cons (Bor.ptr (Bors.cons (Bor.pure rfl) (Bors.cons (Bor.pure rfl) (Bors.cons (Bor.sl (fun _ => rfl)) Bors.nil)))) Bors.nil) rfl rfl (s_l02Is_ok a0 a1 a2 r1 hf1)) hc2) rfl ?_
  refine zL (r := b true) rfl rfl rfl (LOp.eqb (LOp.not rfl rfl) rfl) ?_
  refine zN ?_
  refine RunC.cond_true rfl rfl ?_
  refine zQ ?_
  refine zL (r := f32 (some 0)) rfl rfl rfl (LOp.le (LOp.assign rfl rfl) (ALe.fl (by kernel_rfl) (by kernel_rfl))) ?_
  refine zA (r := b false) rfl rfl rfl rfl rfl ?_
  refine zN ?_
  refine RunC.ret ?_
  have hq := Option.some.inj h
  obtain ⟨hq0, hq⟩ := Prod.mk.inj hq
  subst q0
  subst q1
  exact bodyQ.pure (.inr rfl) rfl (Res.two rfl (RV.tmp rfl) (RV.tmp rfl))
noncomputable def s_ConditionOf (a0 : Int) (a1 : Int) (a2 : List F) : Option (F × Bool) :=
 obind5 (s_FactorRows a0 a1 a2) fun (r1 : Int) (r2 : Int) (r3 : Bool) (r4 : List F) (r5 : List Int) =>
 bsel r3 (
  obind4 (s_FactorInverse r1 r2 r4 r5) fun (r6 : Int) (r7 : Int) (r8 : Bool) (r9 : List F) =>
  bsel r8 (
   obind2 (s_ColumnNorm a0 a1 a2) fun (r10 : F) (r11 : Bool) =>
   bsel r11 (
    obind2 (s_ColumnNorm r6 r7 r9) fun (r12 : F) (r13 : Bool) =>
    bsel r13 (
     olet (fop .mul .f32 r10 r12) fun (x14 : F) =>
     obind2 (s_l02Number x14) fun (r15 : F) (r16 : Bool) =>
     some (r15, r16)) (
     some (some 0, false))) (
    some (some 0, false))) (
   obind2 (s_ColumnNorm a0 a1 a2) fun (r17 : F) (r18 : Bool) =>
   bsel r18 (
    some (some 0, false)) (
    some (some 0, false)))) (
  some (some 0, false))
theorem s_ConditionOf_ok (a0 : Int) (a1 : Int) (a2 : List F) (q0 : F) (q1 : Bool) (h : s_ConditionOf a0 a1 a2 = some (q0, q1)) : Ev Tryz.prog 12 [agg [i64 a0, i64 a1, sl a2.length (a2.map f32)]] [] (tup [f32 q0, b q1]) [] := by
 refine Ev.start Tryz.func12 rfl rfl 5 (τ := [(0, agg [i64 a0, i64 a1, sl a2.length (a2.map f32)])]) rfl (Γ' := [⟨0, none⟩, ⟨0, none⟩, ⟨0, none⟩, ⟨0, none⟩, ⟨0, none⟩]) rfl (n := 97) rfl (g := 0) rfl (fun _ => rfl) ?_
 unfold s_ConditionOf at h
 refine zQ ?_
 refine ROps.d (r := ptr [i64 a0, i64 a1, sl a2.length (a2.map f32)]) (fs := []) (Γ' := [⟨0, none⟩, ⟨0, none⟩, ⟨0, none⟩, ⟨0, none⟩, ⟨0, none⟩]) rfl rfl rfl (TOp.box_s rfl rfl rfl) rfl ?_
 refine zL (r := f32 (some 0)) rfl rfl rfl (LOp.le (LOp.assign rfl rfl) (ALe.fl (by kernel_rfl) (by kernel_rfl))) ?_
 refine zA (r := b false) rfl rfl rfl rfl rfl ?_
 refine zN ?_
 refine RunC.seq ?_
 obtain ⟨r1, r2, r3, r4, r5, hf1, h⟩ := obind5_some h
 rcases bsel_some h with ⟨hc2, h⟩ | ⟨hc2, h⟩
 ·refine RunC.regionW ?_
  refine zL (r := agg [i64 a0, i64 a1, sl a2.length (a2.map f32)]) rfl rfl rfl (LOp.loadAgg agg26 siz26 rfl rfl rfl rfl) ?_
  refine ROps.d (r := tup [agg [i64 r1, i64 r2, oref 0 1 0 r4.length, oref 1 1 0 r5.length], b r3]) (fs := [(0, (r4.map f32)), (1, (r5.map i64))]) (Γ' := [⟨1, some (r4.map f32)⟩, ⟨1, some (r5.map i64)⟩, ⟨0, none⟩, ⟨0, none⟩, ⟨0, none⟩]) rfl rfl rfl (TOp.callBN (ls := [(r4.map f32), (r5.map i64)]) [0, 1] (CallAs.func ent40 rfl rfl) (Bors.cons (Bor.agg (Bors.cons (Bor.pure rfl) (Bors.cons (Bor.pure rfl) (Bors.cons (Bor.sl (fun _ => rfl)) Bors.nil)))) Bors.nil) rfl (s_FactorRows_ok a0 a1 a2 r1 r2 r3 r4 r5 hf1) (and_all (lts0_map (f := f32) (fun _ => rfl) _) (and_all (lts0_map (f := i64) (fun _ => rfl) _) rfl)) (and_all (noss_map (f := f32) (fun _ => rfl) _) (and_all (noss_map (f := i64) (fun _ => rfl) _) rfl)) rfl (by decide) (ns_of ⟨⟨_, rfl⟩, ⟨_, rfl⟩, trivial⟩)) rfl ?_
  refine zM (r := tup [agg [i64 r1, i64 r2, oref 0 1 0 r4.length, oref 1 1 0 r5.length], b r3]) rfl rfl rfl rfl rfl ?_
  refine zL (r := agg [i64 r1, i64 r2, oref 0 1 0 r4.length, oref 1 1 0 r5.length]) rfl rfl rfl (LOp.extract rfl rfl rfl) ?_
  refine zL (r := b true) rfl rfl rfl (LOp.eqb (LOp.extract rfl rfl rfl) hc2) ?_
  refine ROps.d (r := optr 2 1 0) (fs := [(2, [i64 0, i64 0, nilsl, nilsl])]) (Γ' := [⟨1, some (r4.map f32)⟩, ⟨1, some (r5.map i64)⟩, ⟨1, some [i64 0, i64 0, nilsl, nilsl]⟩, ⟨0, none⟩, ⟨0, none⟩]) rfl rfl rfl (TOp.alloc_o (g := ⟨0, none⟩) 2 rfl zer65 zok65 rfl) rfl ?_
  refine ROps.store_le (r := agg [i64 r1, i64 r2, oref 0 1 0 r4.length, oref 1 1 0 r5.length]) (l' := [i64 r1, i64 r2, oref 0 1 0 r4.length, oref 1 1 0 r5.length]) (Γ' := [⟨1, some (r4.map f32)⟩, ⟨1, some (r5.map i64)⟩, ⟨1, some [i64 r1, i64 r2, oref 0 1 0 r4.length, oref 1 1 0 r5.length]⟩, ⟨0, none⟩, ⟨0, none⟩]) rfl siz65 rfl rfl rfl aR rfl rfl rfl rfl (Nat.le_of_ble_eq_true rfl) rfl rfl ?_
  refine zA (r := b true) rfl rfl rfl rfl rfl ?_
  refine zN ?_
  refine RunC.seq ?_
  refine zQ ?_
  refine zM (r := b true) rfl rfl rfl rfl rfl ?_
  refine zL (r := b false) rfl rfl rfl (LOp.eqb (LOp.not rfl rfl) rfl) ?_
  refine zN ?_
  refine RunC.cond_false rfl rfl ?_
  refine RunC.skip ?_
  refine RunC.seq ?_
  obtain ⟨r6, r7, r8, r9, hf3, h⟩ := obind4_some h
  rcases bsel_some h with ⟨hc4, h⟩ | ⟨hc4, h⟩
  ·refine RunC.regionW ?_
   refine ROps.d (r := agg [i64 r1, i64 r2, oref 0 1 0 r4.length, oref 1 1 0 r5.length]) (fs := []) (Γ' := [⟨1, some (r4.map f32)⟩, ⟨1, some (r5.map i64)⟩, ⟨1, some [i64 r1, i64 r2, oref 0 1 0 r4.length, oref 1 1 0 r5.length]⟩, ⟨0, none⟩, ⟨0, none⟩]) rfl rfl rfl (TOp.loadAgg_o rfl agg65 siz65 rfl rfl rfl rfl) rfl ?_
   refine ROps.d (r := tup [agg [i64 r6, i64 r7, oref 3 1 0 r9.length], b r8]) (fs := [(3, (r9.map f32))]) (Γ' := [⟨1, some (r4.map f32)⟩, ⟨1, some (r5.map i64)⟩, ⟨1, some [i64 r1, i64 r2, oref 0 1 0 r4.length, oref 1 1 0 r5.length]⟩, ⟨1, some (r9.map f32)⟩, ⟨0, none⟩]) rfl rfl rfl (TOp.callBN (ls := [(r9.map f32)]) [3] (CallAs.func ent41 rfl rfl) (Bors.cons (Bor.agg (Bors.cons (Bor.pure rfl) (Bors.cons (Bor.pure rfl) (Bors.cons (Bor.own (f := f32) (fun _ => rfl) rfl rfl) (Bors.cons (Bor.own (f := i64) (fun _ => rfl) rfl rfl) Bors.nil))))) Bors.nil) rfl (s_FactorInverse_ok r1 r2 r4 r5 r6 r7 r8 r9 hf3) (and_all (lts0_map (f := f32) (fun _ => rfl) _) rfl) (and_all (noss_map (f := f32) (fun _ => rfl) _) rfl) rfl (by decide) (ns_of ⟨⟨_, rfl⟩, trivial⟩)) rfl ?_
   refine zM (r := tup [agg [i64 r6, i64 r7, oref 3 1 0 r9.length], b r8]) rfl rfl rfl rfl rfl ?_
   refine zL (r := agg [i64 r6, i64 r7, oref 3 1 0 r9.length]) rfl rfl rfl (LOp.extract rfl rfl rfl) ?_
   refine zL (r := b true) rfl rfl rfl (LOp.eqb (LOp.extract rfl rfl rfl) hc4) ?_
   refine ROps.d (r := optr 4 1 0) (fs := [(4, [i64 0, i64 0, nilsl])]) (Γ' := [⟨1, some (r4.map f32)⟩, ⟨1, some (r5.map i64)⟩, ⟨1, some [i64 r1, i64 r2, oref 0 1 0 r4.length, oref 1 1 0 r5.length]⟩, ⟨1, some (r9.map f32)⟩, ⟨1, some [i64 0, i64 0, nilsl]⟩]) rfl rfl rfl (TOp.alloc_o (g := ⟨0, none⟩) 4 rfl zer26 zok26 rfl) rfl ?_
   refine ROps.store_le (r := agg [i64 r6, i64 r7, oref 3 1 0 r9.length]) (l' := [i64 r6, i64 r7, oref 3 1 0 r9.length]) (Γ' := [⟨1, some (r4.map f32)⟩, ⟨1, some (r5.map i64)⟩, ⟨1, some [i64 r1, i64 r2, oref 0 1 0 r4.length, oref 1 1 0 r5.length]⟩, ⟨1, some (r9.map f32)⟩, ⟨1, some [i64 r6, i64 r7, oref 3 1 0 r9.length]⟩]) rfl siz26 rfl rfl rfl aR rfl rfl rfl rfl (Nat.le_of_ble_eq_true rfl) rfl rfl ?_
   refine zA (r := b true) rfl rfl rfl rfl rfl ?_
   refine zN ?_
   refine RunC.wl (τ' := [(1, ptr [i64 a0, i64 a1, sl a2.length (a2.map f32)]), (6, optr 4 1 0), (7, b true)]) (Γ' := [⟨1, none⟩, ⟨1, none⟩, ⟨1, none⟩, ⟨1, some (r9.map f32)⟩, ⟨1, some [i64 r6, i64 r7, oref 3 1 0 r9.length]⟩]) ⟨aR, aR, aR, trivial⟩ ⟨⟨rfl, .inl rfl⟩, ⟨rfl, .inl rfl⟩, ⟨rfl, .inl rfl⟩, ⟨rfl, .inr rfl⟩, ⟨rfl, .inr rfl⟩, trivial⟩ ?_
   refine RunC.seq ?_
   obtain ⟨r10, r11, hf5, h⟩ := obind2_some h
   rcases bsel_some h with ⟨hc6, h⟩ | ⟨hc6, h⟩
   ·refine RunC.regionW ?_
    refine zL (r := agg [i64 a0, i64 a1, sl a2.length (a2.map f32)]) rfl rfl rfl (LOp.loadAgg agg26 siz26 rfl rfl rfl rfl) ?_
    refine ROps.d (r := tup [f32 r10, b r11]) (fs := []) (Γ' := [⟨1, none⟩, ⟨1, none⟩, ⟨1, none⟩, ⟨1, some (r9.map f32)⟩, ⟨1, some [i64 r6, i64 r7, oref 3 1 0 r9.length]⟩]) rfl rfl rfl (TOp.callB (CallAs.func ent42 rfl rfl) (Bors.cons (Bor.agg (Bors.cons (Bor.pure rfl) (Bors.cons (Bor.pure rfl) (Bors.cons (Bor.sl (fun _ => rfl)) Bors.nil)))) Bors.nil) rfl rfl (s_ColumnNorm_ok a0 a1 a2 r10 r11 hf5)) rfl ?_
    refine zM (r := tup [f32 r10, b r11]) rfl rfl rfl rfl rfl ?_
    refine zL (r := f32 r10) rfl rfl rfl (LOp.extract rfl rfl rfl) ?_
    refine zL (r := b true) rfl rfl rfl (LOp.eqb (LOp.extract rfl rfl rfl) hc6) ?_
    refine zA (r := f32 r10) rfl rfl rfl rfl rfl ?_
    refine zA (r := b true) rfl rfl rfl rfl rfl ?_
    refine zN ?_
    refine RunC.seq ?_
    refine zQ ?_
    refine zM (r := b true) rfl rfl rfl rfl rfl ?_
    refine zL (r := b false) rfl rfl rfl (LOp.eqb (LOp.not rfl rfl) rfl) ?_
    refine zM (r := b false) rfl rfl rfl rfl rfl ?_
    refine zM (r := b true) rfl rfl rfl rfl rfl ?_
    refine zL (r := b false) rfl rfl rfl (LOp.eqb (LOp.not rfl rfl) rfl) ?_
    refine zL (r := b false) rfl rfl rfl (LOp.pick_false rfl rfl rfl) ?_
    refine zN ?_
    refine RunC.wl (τ' := [(6, optr 4 1 0), (8, f32 r10), (34, b false)]) (Γ' := [⟨1, none⟩, ⟨1, none⟩, ⟨1, none⟩, ⟨1, some (r9.map f32)⟩, ⟨1, some [i64 r6, i64 r7, oref 3 1 0 r9.length]⟩]) ⟨aR, aR, aR, trivial⟩ ⟨⟨rfl, .inl rfl⟩, ⟨rfl, .inl rfl⟩, ⟨rfl, .inl rfl⟩, ⟨rfl, .inr rfl⟩, ⟨rfl, .inr rfl⟩, trivial⟩ ?_
    refine RunC.cond_false rfl rfl ?_
    refine RunC.skip ?_
    refine RunC.seq ?_
    obtain ⟨r12, r13, hf7, h⟩ := obind2_some h
    rcases bsel_some h with ⟨hc8, h⟩ | ⟨hc8, h⟩
    ·refine RunC.regionW ?_
     refine ROps.d (r := agg [i64 r6, i64 r7, oref 3 1 0 r9.length]) (fs := []) (Γ' := [⟨1, none⟩, ⟨1, none⟩, ⟨1, none⟩, ⟨1, some (r9.map f32)⟩, ⟨1, some [i64 r6, i64 r7, oref 3 1 0 r9.length]⟩]) rfl rfl rfl (TOp.loadAgg_o rfl agg26 siz26 rfl rfl rfl rfl) rfl ?_
     refine ROps.d (r := tup [f32 r12, b r13]) (fs := []) (Γ' := [⟨1, none⟩, ⟨1, none⟩, ⟨1, none⟩, ⟨1, some (r9.map f32)⟩, ⟨1, some [i64 r6, i64 r7, oref 3 1 0 r9.length]⟩]) rfl rfl rfl (TOp.callB (CallAs.func ent42 rfl rfl) (Bors.cons (Bor.agg (Bors.cons (Bor.pure rfl) (Bors.cons (Bor.pure rfl) (Bors.cons (Bor.own (f := f32) (fun _ => rfl) rfl rfl) Bors.nil)))) Bors.nil) rfl rfl (s_ColumnNorm_ok r6 r7 r9 r12 r13 hf7)) rfl ?_
     refine zM (r := tup [f32 r12, b r13]) rfl rfl rfl rfl rfl ?_
     refine zL (r := f32 r12) rfl rfl rfl (LOp.extract rfl rfl rfl) ?_
     refine zL (r := b true) rfl rfl rfl (LOp.eqb (LOp.extract rfl rfl rfl) hc8) ?_
     refine zA (r := f32 r12) rfl rfl rfl rfl rfl ?_
     refine zA (r := b true) rfl rfl rfl rfl rfl ?_
     refine zN ?_
     refine RunC.wl (τ' := [(8, f32 r10), (10, f32 r12), (11, b true)]) (Γ' := [⟨1, none⟩, ⟨1, none⟩, ⟨1, none⟩, ⟨1, none⟩, ⟨1, none⟩]) ⟨aR, aR, aR, trivial⟩ ⟨⟨rfl, .inl rfl⟩, ⟨rfl, .inl rfl⟩, ⟨rfl, .inl rfl⟩, ⟨rfl, .inl rfl⟩, ⟨rfl, .inl rfl⟩, trivial⟩ ?_
     refine RunC.seq ?_
     refine zQ ?_
     refine zM (r := b true) rfl rfl rfl rfl rfl ?_
     refine zL (r := b false) rfl rfl rfl (LOp.eqb (LOp.not rfl rfl) rfl) ?_
     refine zN ?_
     refine RunC.cond_false rfl rfl ?_
     refine RunC.skip ?_
     refine RunC.seq ?_
     obtain ⟨x14, hx9, h⟩ := olet_some h
     obtain ⟨r15, r16, hf10, h⟩ := obind2_some h
     refine RunC.regionW ?_
     refine zM (r := f32 r10) rfl rfl rfl rfl rfl ?_
     refine zM (r := f32 r12) rfl rfl rfl rfl rfl ?_
     refine ROps.d (r := f32 x14) (fs := []) (Γ' := [⟨1, none⟩, ⟨1, none⟩, ⟨1, none⟩, ⟨1, none⟩, ⟨1, none⟩]) rfl rfl rfl (TOp.eqr (TOp.fop (.inr (.inr (.inl rfl))) rfl (OpF.tmp rfl) (OpF.tmp rfl)) (congrArg (f .f32) hx9)) rfl ?_
     refine ROps.d (r := tup [f32 r15, b r16]) (fs := []) (Γ' := [⟨1, none⟩, ⟨1, none⟩, ⟨1, none⟩, ⟨1, none⟩, ⟨1, none⟩]) rfl rfl rfl (TOp.callB (CallAs.func ent43 rfl rfl) (Bors.cons (Bor.pure rfl) Bors.nil) rfl rfl (s_l02Number_ok x14 r15 r16 hf10)) rfl ?_
     refine zL (r := f32 r15) rfl rfl rfl (LOp.extract rfl rfl rfl) ?_
     refine zL (r := b r16) rfl rfl rfl (LOp.extract rfl rfl rfl) ?_
     refine zA (r := f32 r15) rfl rfl rfl rfl rfl ?_
     refine zA (r := b r16) rfl rfl rfl rfl rfl ?_
     refine zN ?_
     refine RunC.ret ?_
     have hq := Option.some.inj h
     obtain ⟨hq0, hq⟩ := Prod.mk.inj hq
     subst q0
     subst q1
     exact bodyQ.pure (.inr rfl) rfl (Res.two rfl (RV.tmp rfl) (RV.tmp rfl))
    ·refine RunC.regionW ?_
     refine ROps.d (r := agg [i64 r6, i64 r7, oref 3 1 0 r9.length]) (fs := []) (Γ' := [⟨1, none⟩, ⟨1, none⟩, ⟨1, none⟩, ⟨1, some (r9.map f32)⟩, ⟨1, some [i64 r6, i64 r7, oref 3 1 0 r9.length]⟩]) rfl rfl rfl (TOp.loadAgg_o rfl agg26 siz26 rfl rfl rfl rfl) rfl ?_
     refine ROps.d (r := tup [f32 r12, b r13]) (fs := []) (Γ' := [⟨1, none⟩, ⟨1, none⟩, ⟨1, none⟩, ⟨1, some (r9.map f32)⟩, ⟨1, some [i64 r6, i64 r7, oref 3 1 0 r9.length]⟩]) rfl rfl rfl (TOp.callB (CallAs.func ent42 rfl rfl) (Bors.cons (Bor.agg (Bors.cons (Bor.pure rfl) (Bors.cons (Bor.pure rfl) (Bors.cons (Bor.own (f := f32) (fun _ => rfl) rfl rfl) Bors.nil)))) Bors.nil) rfl rfl (s_ColumnNorm_ok r6 r7 r9 r12 r13 hf7)) rfl ?_
     refine zM (r := tup [f32 r12, b r13]) rfl rfl rfl rfl rfl ?_
     refine zL (r := f32 r12) rfl rfl rfl (LOp.extract rfl rfl rfl) ?_
     refine zL (r := b false) rfl rfl rfl (LOp.eqb (LOp.extract rfl rfl rfl) hc8) ?_
     refine zA (r := f32 r12) rfl rfl rfl rfl rfl ?_
     refine zA (r := b false) rfl rfl rfl rfl rfl ?_
     refine zN ?_
     refine RunC.wl (τ' := [(8, f32 r10), (10, f32 r12), (11, b false)]) (Γ' := [⟨1, none⟩, ⟨1, none⟩, ⟨1, none⟩, ⟨1, none⟩, ⟨1, none⟩]) ⟨aR, aR, aR, trivial⟩ ⟨⟨rfl, .inl rfl⟩, ⟨rfl, .inl rfl⟩, ⟨rfl, .inl rfl⟩, ⟨rfl, .inl rfl⟩, ⟨rfl, .inl rfl⟩, trivial⟩ ?_
     refine RunC.seq ?_
     refine zQ ?_
     refine zM (r := b false) rfl rfl rfl rfl rfl ?_
     refine zL (r := b true) rfl rfl rfl (LOp.eqb (LOp.not rfl rfl) rfl) ?_
     refine zN ?_
     refine RunC.cond_true rfl rfl ?_
     refine zQ ?_
     refine zL (r := f32 (some 0)) rfl rfl rfl (LOp.le (LOp.assign rfl rfl) (ALe.fl (by kernel_rfl) (by kernel_rfl))) ?_
     refine zA (r := b false) rfl rfl rfl rfl rfl ?_
     refine zN ?_
     refine RunC.ret ?_
     have hq := Option.some.inj h
     obtain ⟨hq0, hq⟩ := Prod.mk.inj hq
     subst q0
     subst q1
     exact bodyQ.pure (.inr rfl) rfl (Res.two rfl (RV.tmp rfl) (RV.tmp rfl))
   ·refine RunC.regionW ?_
    refine zL (r := agg [i64 a0, i64 a1, sl a2.length (a2.map f32)]) rfl rfl rfl (LOp.loadAgg agg26 siz26 rfl rfl rfl rfl) ?_
    refine ROps.d (r := tup [f32 r10, b r11]) (fs := []) (Γ' := [⟨1, none⟩, ⟨1, none⟩, ⟨1, none⟩, ⟨1, some (r9.map f32)⟩, ⟨1, some [i64 r6, i64 r7, oref 3 1 0 r9.length]⟩]) rfl rfl rfl (TOp.callB (CallAs.func ent42 rfl rfl) (Bors.cons (Bor.agg (Bors.cons (Bor.pure rfl) (Bors.cons (Bor.pure rfl) (Bors.cons (Bor.sl (fun _ => rfl)) Bors.nil)))) Bors.nil) rfl rfl (s_ColumnNorm_ok a0 a1 a2 r10 r11 hf5)) rfl ?_
    refine zM (r := tup [f32 r10, b r11]) rfl rfl rfl rfl rfl ?_
    refine zL (r := f32 r10) rfl rfl rfl (LOp.extract rfl rfl rfl) ?_
    refine zL (r := b false) rfl rfl rfl (LOp.eqb (LOp.extract rfl rfl rfl) hc6) ?_
    refine zA (r := f32 r10) rfl rfl rfl rfl rfl ?_
    refine zA (r := b false) rfl rfl rfl rfl rfl ?_
    refine zN ?_
    refine RunC.seq ?_
    refine zQ ?_
    refine zM (r := b true) rfl rfl rfl rfl rfl ?_
    refine zL (r := b false) rfl rfl rfl (LOp.eqb (LOp.not rfl rfl) rfl) ?_
    refine zM (r := b false) rfl rfl rfl rfl rfl ?_
    refine zM (r := b false) rfl rfl rfl rfl rfl ?_
    refine zL (r := b true) rfl rfl rfl (LOp.eqb (LOp.not rfl rfl) rfl) ?_
    refine zL (r := b true) rfl rfl rfl (LOp.pick_false rfl rfl rfl) ?_
    refine zN ?_
    refine RunC.wl (τ' := [(6, optr 4 1 0), (8, f32 r10), (34, b true)]) (Γ' := [⟨1, none⟩, ⟨1, none⟩, ⟨1, none⟩, ⟨1, some (r9.map f32)⟩, ⟨1, some [i64 r6, i64 r7, oref 3 1 0 r9.length]⟩]) ⟨aR, aR, aR, trivial⟩ ⟨⟨rfl, .inl rfl⟩, ⟨rfl, .inl rfl⟩, ⟨rfl, .inl rfl⟩, ⟨rfl, .inr rfl⟩, ⟨rfl, .inr rfl⟩, trivial⟩ ?_
    refine RunC.cond_true rfl rfl ?_
    refine zQ ?_
    refine zL (r := f32 (some 0)) rfl rfl rfl (LOp.le (LOp.assign rfl rfl) (ALe.fl (by kernel_rfl) (by kernel_rfl))) ?_
    refine zA (r := b false) rfl rfl rfl rfl rfl ?_
    refine zN ?_
    refine RunC.ret ?_
    have hq := Option.some.inj h
    obtain ⟨hq0, hq⟩ := Prod.mk.inj hq
    subst q0
    subst q1
    exact bodyQ.pure (.inr rfl) rfl (Res.two rfl (RV.tmp rfl) (RV.tmp rfl))
  ·refine RunC.regionW ?_
   refine ROps.d (r := agg [i64 r1, i64 r2, oref 0 1 0 r4.length, oref 1 1 0 r5.length]) (fs := []) (Γ' := [⟨1, some (r4.map f32)⟩, ⟨1, some (r5.map i64)⟩, ⟨1, some [i64 r1, i64 r2, oref 0 1 0 r4.length, oref 1 1 0 r5.length]⟩, ⟨0, none⟩, ⟨0, none⟩]) rfl rfl rfl (TOp.loadAgg_o rfl agg65 siz65 rfl rfl rfl rfl) rfl ?_
   refine ROps.d (r := tup [agg [i64 r6, i64 r7, oref 3 1 0 r9.length], b r8]) (fs := [(3, (r9.map f32))]) (Γ' := [⟨1, some (r4.map f32)⟩, ⟨1, some (r5.map i64)⟩, ⟨1, some [i64 r1, i64 r2, oref 0 1 0 r4.length, oref 1 1 0 r5.length]⟩, ⟨1, some (r9.map f32)⟩, ⟨0, none⟩]) rfl rfl rfl (TOp.callBN (ls := [(r9.map f32)]) [3] (CallAs.func ent41 rfl rfl) (Bors.cons (Bor.agg (Bors.cons (Bor.pure rfl) (Bors.cons (Bor.pure rfl) (Bors.cons (Bor.own (f := f32) (fun _ => rfl) rfl rfl) (Bors.cons (Bor.own (f := i64) (fun _ => rfl) rfl rfl) Bors.nil))))) Bors.nil) rfl (s_FactorInverse_ok r1 r2 r4 r5 r6 r7 r8 r9 hf3) (and_all (lts0_map (f := f32) (fun _ => rfl) _) rfl) (and_all (noss_map (f := f32) (fun _ => rfl) _) rfl) rfl (by decide) (ns_of ⟨⟨_, rfl⟩, trivial⟩)) rfl ?_
   refine zM (r := tup [agg [i64 r6, i64 r7, oref 3 1 0 r9.length], b r8]) rfl rfl rfl rfl rfl ?_
   refine zL (r := agg [i64 r6, i64 r7, oref 3 1 0 r9.length]) rfl rfl rfl (LOp.extract rfl rfl rfl) ?_
   refine zL (r := b false) rfl rfl rfl (LOp.eqb (LOp.extract rfl rfl rfl) hc4) ?_
   refine ROps.d (r := optr 4 1 0) (fs := [(4, [i64 0, i64 0, nilsl])]) (Γ' := [⟨1, some (r4.map f32)⟩, ⟨1, some (r5.map i64)⟩, ⟨1, some [i64 r1, i64 r2, oref 0 1 0 r4.length, oref 1 1 0 r5.length]⟩, ⟨1, some (r9.map f32)⟩, ⟨1, some [i64 0, i64 0, nilsl]⟩]) rfl rfl rfl (TOp.alloc_o (g := ⟨0, none⟩) 4 rfl zer26 zok26 rfl) rfl ?_
   refine ROps.store_le (r := agg [i64 r6, i64 r7, oref 3 1 0 r9.length]) (l' := [i64 r6, i64 r7, oref 3 1 0 r9.length]) (Γ' := [⟨1, some (r4.map f32)⟩, ⟨1, some (r5.map i64)⟩, ⟨1, some [i64 r1, i64 r2, oref 0 1 0 r4.length, oref 1 1 0 r5.length]⟩, ⟨1, some (r9.map f32)⟩, ⟨1, some [i64 r6, i64 r7, oref 3 1 0 r9.length]⟩]) rfl siz26 rfl rfl rfl aR rfl rfl rfl rfl (Nat.le_of_ble_eq_true rfl) rfl rfl ?_
   refine zA (r := b false) rfl rfl rfl rfl rfl ?_
   refine zN ?_
   refine RunC.wl (τ' := [(1, ptr [i64 a0, i64 a1, sl a2.length (a2.map f32)]), (6, optr 4 1 0), (7, b false)]) (Γ' := [⟨1, none⟩, ⟨1, none⟩, ⟨1, none⟩, ⟨1, some (r9.map f32)⟩, ⟨1, some [i64 r6, i64 r7, oref 3 1 0 r9.length]⟩]) ⟨aR, aR, aR, trivial⟩ ⟨⟨rfl, .inl rfl⟩, ⟨rfl, .inl rfl⟩, ⟨rfl, .inl rfl⟩, ⟨rfl, .inr rfl⟩, ⟨rfl, .inr rfl⟩, trivial⟩ ?_
   refine RunC.seq ?_
   obtain ⟨r17, r18, hf11, h⟩ := obind2_some h
   rcases bsel_some h with ⟨hc12, h⟩ | ⟨hc12, h⟩
   ·refine RunC.regionW ?_
    refine zL (r := agg [i64 a0, i64 a1, sl a2.length (a2.map f32)]) rfl rfl rfl (LOp.loadAgg agg26 siz26 rfl rfl rfl rfl) ?_
    refine ROps.d (r := tup [f32 r17, b r18]) (fs := []) (Γ' := [⟨1, none⟩, ⟨1, none⟩, ⟨1, none⟩, ⟨1, some (r9.map f32)⟩, ⟨1, some [i64 r6, i64 r7, oref 3 1 0 r9.length]⟩]) rfl rfl rfl (TOp.callB (CallAs.func ent42 rfl rfl) (Bors.cons (Bor.agg (Bors.cons (Bor.pure rfl) (Bors.cons (Bor.pure rfl) (Bors.cons (Bor.sl (fun _ => rfl)) Bors.nil)))) Bors.nil) rfl rfl (s_ColumnNorm_ok a0 a1 a2 r17 r18 hf11)) rfl ?_
    refine zM (r := tup [f32 r17, b r18]) rfl rfl rfl rfl rfl ?_
    refine zL (r := f32 r17) rfl rfl rfl (LOp.extract rfl rfl rfl) ?_
    refine zL (r := b true) rfl rfl rfl (LOp.eqb (LOp.extract rfl rfl rfl) hc12) ?_
    refine zA (r := f32 r17) rfl rfl rfl rfl rfl ?_
    refine zA (r := b true) rfl rfl rfl rfl rfl ?_
    refine zN ?_
    refine RunC.seq ?_
    refine zQ ?_
    refine zM (r := b false) rfl rfl rfl rfl rfl ?_
    refine zL (r := b true) rfl rfl rfl (LOp.eqb (LOp.not rfl rfl) rfl) ?_
    refine zM (r := b true) rfl rfl rfl rfl rfl ?_
    refine ROps.s rfl rfl rfl ?_
    refine ROps.s rfl rfl rfl ?_
    refine zL (r := b true) rfl rfl rfl (LOp.pick_true rfl rfl rfl) ?_
    refine zN ?_
    refine RunC.wl (τ' := [(6, optr 4 1 0), (8, f32 r17), (34, b true)]) (Γ' := [⟨1, none⟩, ⟨1, none⟩, ⟨1, none⟩, ⟨1, some (r9.map f32)⟩, ⟨1, some [i64 r6, i64 r7, oref 3 1 0 r9.length]⟩]) ⟨aR, aR, aR, trivial⟩ ⟨⟨rfl, .inl rfl⟩, ⟨rfl, .inl rfl⟩, ⟨rfl, .inl rfl⟩, ⟨rfl, .inr rfl⟩, ⟨rfl, .inr rfl⟩, trivial⟩ ?_
    refine RunC.cond_true rfl rfl ?_
    refine zQ ?_
    refine zL (r := f32 (some 0)) rfl rfl rfl (LOp.le (LOp.assign rfl rfl) (ALe.fl (by kernel_rfl) (by kernel_rfl))) ?_
    refine zA (r := b false) rfl rfl rfl rfl rfl ?_
    refine zN ?_
    refine RunC.ret ?_
    have hq := Option.some.inj h
    obtain ⟨hq0, hq⟩ := Prod.mk.inj hq
    subst q0
    subst q1
    exact bodyQ.pure (.inr rfl) rfl (Res.two rfl (RV.tmp rfl) (RV.tmp rfl))
   ·refine RunC.regionW ?_
    refine zL (r := agg [i64 a0, i64 a1, sl a2.length (a2.map f32)]) rfl rfl rfl (LOp.loadAgg agg26 siz26 rfl rfl rfl rfl) ?_
    refine ROps.d (r := tup [f32 r17, b r18]) (fs := []) (Γ' := [⟨1, none⟩, ⟨1, none⟩, ⟨1, none⟩, ⟨1, some (r9.map f32)⟩, ⟨1, some [i64 r6, i64 r7, oref 3 1 0 r9.length]⟩]) rfl rfl rfl (TOp.callB (CallAs.func ent42 rfl rfl) (Bors.cons (Bor.agg (Bors.cons (Bor.pure rfl) (Bors.cons (Bor.pure rfl) (Bors.cons (Bor.sl (fun _ => rfl)) Bors.nil)))) Bors.nil) rfl rfl (s_ColumnNorm_ok a0 a1 a2 r17 r18 hf11)) rfl ?_
    refine zM (r := tup [f32 r17, b r18]) rfl rfl rfl rfl rfl ?_
    refine zL (r := f32 r17) rfl rfl rfl (LOp.extract rfl rfl rfl) ?_
    refine zL (r := b false) rfl rfl rfl (LOp.eqb (LOp.extract rfl rfl rfl) hc12) ?_
    refine zA (r := f32 r17) rfl rfl rfl rfl rfl ?_
    refine zA (r := b false) rfl rfl rfl rfl rfl ?_
    refine zN ?_
    refine RunC.seq ?_
    refine zQ ?_
    refine zM (r := b false) rfl rfl rfl rfl rfl ?_
    refine zL (r := b true) rfl rfl rfl (LOp.eqb (LOp.not rfl rfl) rfl) ?_
    refine zM (r := b true) rfl rfl rfl rfl rfl ?_
    refine ROps.s rfl rfl rfl ?_
    refine ROps.s rfl rfl rfl ?_
    refine zL (r := b true) rfl rfl rfl (LOp.pick_true rfl rfl rfl) ?_
    refine zN ?_
    refine RunC.wl (τ' := [(6, optr 4 1 0), (8, f32 r17), (34, b true)]) (Γ' := [⟨1, none⟩, ⟨1, none⟩, ⟨1, none⟩, ⟨1, some (r9.map f32)⟩, ⟨1, some [i64 r6, i64 r7, oref 3 1 0 r9.length]⟩]) ⟨aR, aR, aR, trivial⟩ ⟨⟨rfl, .inl rfl⟩, ⟨rfl, .inl rfl⟩, ⟨rfl, .inl rfl⟩, ⟨rfl, .inr rfl⟩, ⟨rfl, .inr rfl⟩, trivial⟩ ?_
    refine RunC.cond_true rfl rfl ?_
    refine zQ ?_
    refine zL (r := f32 (some 0)) rfl rfl rfl (LOp.le (LOp.assign rfl rfl) (ALe.fl (by kernel_rfl) (by kernel_rfl))) ?_
    refine zA (r := b false) rfl rfl rfl rfl rfl ?_
    refine zN ?_
    refine RunC.ret ?_
    have hq := Option.some.inj h
    obtain ⟨hq0, hq⟩ := Prod.mk.inj hq
    subst q0
    subst q1
    exact bodyQ.pure (.inr rfl) rfl (Res.two rfl (RV.tmp rfl) (RV.tmp rfl))
 ·refine RunC.regionW ?_
  refine zL (r := agg [i64 a0, i64 a1, sl a2.length (a2.map f32)]) rfl rfl rfl (LOp.loadAgg agg26 siz26 rfl rfl rfl rfl) ?_
  refine ROps.d (r := tup [agg [i64 r1, i64 r2, oref 0 1 0 r4.length, oref 1 1 0 r5.length], b r3]) (fs := [(0, (r4.map f32)), (1, (r5.map i64))]) (Γ' := [⟨1, some (r4.map f32)⟩, ⟨1, some (r5.map i64)⟩, ⟨0, none⟩, ⟨0, none⟩, ⟨0, none⟩]) rfl rfl rfl (TOp.callBN (ls := [(r4.map f32), (r5.map i64)]) [0, 1] (CallAs.func ent40 rfl rfl) (Bors.cons (Bor.agg (Bors.cons (Bor.pure rfl) (Bors.cons (Bor.pure rfl) (Bors.cons (Bor.sl (fun _ => rfl)) Bors.nil)))) Bors.nil) rfl (s_FactorRows_ok a0 a1 a2 r1 r2 r3 r4 r5 hf1) (and_all (lts0_map (f := f32) (fun _ => rfl) _) (and_all (lts0_map (f := i64) (fun _ => rfl) _) rfl)) (and_all (noss_map (f := f32) (fun _ => rfl) _) (and_all (noss_map (f := i64) (fun _ => rfl) _) rfl)) rfl (by decide) (ns_of ⟨⟨_, rfl⟩, ⟨_, rfl⟩, trivial⟩)) rfl ?_
  refine zM (r := tup [agg [i64 r1, i64 r2, oref 0 1 0 r4.length, oref 1 1 0 r5.length], b r3]) rfl rfl rfl rfl rfl ?_
  refine zL (r := agg [i64 r1, i64 r2, oref 0 1 0 r4.length, oref 1 1 0 r5.length]) rfl rfl rfl (LOp.extract rfl rfl rfl) ?_
  refine zL (r := b false) rfl rfl rfl (LOp.eqb (LOp.extract rfl rfl rfl) hc2) ?_
  refine ROps.d (r := optr 2 1 0) (fs := [(2, [i64 0, i64 0, nilsl, nilsl])]) (Γ' := [⟨1, some (r4.map f32)⟩, ⟨1, some (r5.map i64)⟩, ⟨1, some [i64 0, i64 0, nilsl, nilsl]⟩, ⟨0, none⟩, ⟨0, none⟩]) rfl rfl rfl (TOp.alloc_o (g := ⟨0, none⟩) 2 rfl zer65 zok65 rfl) rfl ?_
  refine ROps.store_le (r := agg [i64 r1, i64 r2, oref 0 1 0 r4.length, oref 1 1 0 r5.length]) (l' := [i64 r1, i64 r2, oref 0 1 0 r4.length, oref 1 1 0 r5.length]) (Γ' := [⟨1, some (r4.map f32)⟩, ⟨1, some (r5.map i64)⟩, ⟨1, some [i64 r1, i64 r2, oref 0 1 0 r4.length, oref 1 1 0 r5.length]⟩, ⟨0, none⟩, ⟨0, none⟩]) rfl siz65 rfl rfl rfl aR rfl rfl rfl rfl (Nat.le_of_ble_eq_true rfl) rfl rfl ?_
  refine zA (r := b false) rfl rfl rfl rfl rfl ?_
  refine zN ?_
  refine RunC.seq ?_
  refine zQ ?_
  refine zM (r := b false) rfl rfl rfl rfl rfl ?_
  refine zL (r := b true) rfl rfl rfl (LOp.eqb (LOp.not rfl rfl) rfl) ?_
  refine zN ?_
  refine RunC.cond_true rfl rfl ?_
  refine zQ ?_
  refine zL (r := f32 (some 0)) rfl rfl rfl (LOp.le (LOp.assign rfl rfl) (ALe.fl (by kernel_rfl) (by kernel_rfl))) ?_
  refine zA (r := b false) rfl rfl rfl rfl rfl ?_
  refine zN ?_
  refine RunC.ret ?_
  have hq := Option.some.inj h
  obtain ⟨hq0, hq⟩ := Prod.mk.inj hq
  subst q0
  subst q1
  exact bodyQ.pure (.inr rfl) rfl (Res.two rfl (RV.tmp rfl) (RV.tmp rfl))
noncomputable def i_inRange (a0 : Int) (a1 : Int) (a2 : Int) : Option (Bool) :=
 bsel (decide (a1 ≤ a0)) (
  some (decide (a0 ≤ a2))) (
  some false)
theorem i_inRange_ok (a0 : Int) (a1 : Int) (a2 : Int) (q0 : Bool) (h : i_inRange a0 a1 a2 = some q0) : Ev Tryz.prog 25 [i64 a0, i64 a1, i64 a2] [] (b q0) [] := by
 refine Ev.start Tryz.func25 rfl rfl 0 (τ := [(0, i64 a0), (1, i64 a1), (2, i64 a2)]) rfl (Γ' := []) rfl (n := 31) rfl (g := 0) rfl (fun _ => rfl) ?_
 unfold i_inRange at h
 refine zQ ?_
 refine zA (r := b false) rfl rfl rfl rfl rfl ?_
 refine zN ?_
 refine RunC.seq ?_
 rcases bsel_some h with ⟨hc1, h⟩ | ⟨hc1, h⟩
 ·refine RunC.regionW ?_
  refine zM (r := i64 a1) rfl rfl rfl rfl rfl ?_
  refine zM (r := i64 a0) rfl rfl rfl rfl rfl ?_
  refine zL (r := b true) rfl rfl rfl (LOp.eqb (LOp.leq rfl rfl rfl) hc1) ?_
  refine zM (r := b true) rfl rfl rfl rfl rfl ?_
  refine zM (r := i64 a0) rfl rfl rfl rfl rfl ?_
  refine zM (r := i64 a2) rfl rfl rfl rfl rfl ?_
  refine zL (r := b (decide (a0 ≤ a2))) rfl rfl rfl (LOp.leq rfl rfl rfl) ?_
  refine zL (r := b (decide (a0 ≤ a2))) rfl rfl rfl (LOp.pick_true rfl rfl rfl) ?_
  refine zA (r := b (decide (a0 ≤ a2))) rfl rfl rfl rfl rfl ?_
  refine zN ?_
  refine RunC.ret ?_
  have hq := Option.some.inj h
  subst q0
  exact bodyQ.pure (.inr rfl) rfl (Res.one rfl (RV.tmp rfl))
 ·refine RunC.regionW ?_
  refine zM (r := i64 a1) rfl rfl rfl rfl rfl ?_
  refine zM (r := i64 a0) rfl rfl rfl rfl rfl ?_
  refine zL (r := b false) rfl rfl rfl (LOp.eqb (LOp.leq rfl rfl rfl) hc1) ?_
  refine zM (r := b false) rfl rfl rfl rfl rfl ?_
  refine ROps.s rfl rfl rfl ?_
  refine ROps.s rfl rfl rfl ?_
  refine ROps.s rfl rfl rfl ?_
  refine zL (r := b false) rfl rfl rfl (LOp.pick_false rfl rfl rfl) ?_
  refine zA (r := b false) rfl rfl rfl rfl rfl ?_
  refine zN ?_
  refine RunC.ret ?_
  have hq := Option.some.inj h
  subst q0
  exact bodyQ.pure (.inr rfl) rfl (Res.one rfl (RV.tmp rfl))
noncomputable def i_isSide (a0 : Int) : Option (Bool) :=
 obind (i_inRange a0 1 12) fun (r1 : Bool) =>
 some r1
theorem i_isSide_ok (a0 : Int) (q0 : Bool) (h : i_isSide a0 = some q0) : Ev Tryz.prog 102 [i64 a0] [] (b q0) [] := by
 refine Ev.start Tryz.func102 rfl rfl 0 (τ := [(0, i64 a0)]) rfl (Γ' := []) rfl (n := 11) rfl (g := 0) rfl (fun _ => rfl) ?_
 unfold i_isSide at h
 refine zQ ?_
 refine zA (r := b false) rfl rfl rfl rfl rfl ?_
 refine zN ?_
 refine RunC.seq ?_
 obtain ⟨r1, hf1, h⟩ := obind_some h
 refine RunC.regionW ?_
 refine zM (r := i64 a0) rfl rfl rfl rfl rfl ?_
 refine ROps.d (r := b r1) (fs := []) (Γ' := []) rfl rfl rfl (TOp.callB (CallAs.func ent25 rfl rfl) (Bors.cons (Bor.pure rfl) (Bors.cons (Bor.pure rfl) (Bors.cons (Bor.pure rfl) Bors.nil))) rfl rfl (i_inRange_ok a0 1 12 r1 hf1)) rfl ?_
 refine zA (r := b r1) rfl rfl rfl rfl rfl ?_
 refine zN ?_
 refine RunC.ret ?_
 have hq := Option.some.inj h
 subst q0
 exact bodyQ.pure (.inr rfl) rfl (Res.one rfl (RV.tmp rfl))
noncomputable def i_length_float32 (a0 : List F) : Option (Int) :=
 some (a0.length : Int)
theorem i_length_float32_ok (a0 : List F) (q0 : Int) (h : i_length_float32 a0 = some q0) : Ev Tryz.prog 103 [sl a0.length (a0.map f32)] [] (i64 q0) [] := by
 refine Ev.start Tryz.func103 rfl rfl 0 (τ := [(0, sl a0.length (a0.map f32))]) rfl (Γ' := []) rfl (n := 11) rfl (g := 0) rfl (fun _ => rfl) ?_
 unfold i_length_float32 at h
 refine zQ ?_
 refine zA (r := i64 0) rfl rfl rfl rfl rfl ?_
 refine zN ?_
 refine zQ ?_
 refine zM (r := sl a0.length (a0.map f32)) rfl rfl rfl rfl rfl ?_
 refine zL (r := i64 (a0.length : Int)) rfl rfl rfl (LOp.len_sl und22 rfl rfl) ?_
 refine zA (r := i64 (a0.length : Int)) rfl rfl rfl rfl rfl ?_
 refine zN ?_
 refine RunC.ret ?_
 have hq := Option.some.inj h
 subst q0
 exact bodyQ.pure (.inr rfl) rfl (Res.one rfl (RV.tmp rfl))
noncomputable def x_math_IsNaN (a0 : F) : Option (Bool) :=
 some (!feq .f64 a0 a0)
theorem x_math_IsNaN_ok (a0 : F) (q0 : Bool) (h : x_math_IsNaN a0 = some q0) : Ev Tryz.prog 143 [f64 a0] [] (b q0) [] := by
 refine Ev.start Tryz.func143 rfl rfl 0 (τ := [(0, f64 a0)]) rfl (Γ' := []) rfl (n := 13) rfl (g := 0) rfl (fun _ => rfl) ?_
 unfold x_math_IsNaN at h
 refine zQ ?_
 refine zA (r := b false) rfl rfl rfl rfl rfl ?_
 refine zN ?_
 refine zQ ?_
 refine zM (r := f64 a0) rfl rfl rfl rfl rfl ?_
 refine zM (r := f64 a0) rfl rfl rfl rfl rfl ?_
 refine zL (r := b (!feq .f64 a0 a0)) rfl rfl rfl (LOp.fne rfl (OpF.tmp rfl) (OpF.tmp rfl)) ?_
 refine zA (r := b (!feq .f64 a0 a0)) rfl rfl rfl rfl rfl ?_
 refine zN ?_
 refine RunC.ret ?_
 have hq := Option.some.inj h
 subst q0
 exact bodyQ.pure (.inr rfl) rfl (Res.one rfl (RV.tmp rfl))
noncomputable def x_math_Abs (a0 : F) : Option (F) :=
 olet (fabs a0) fun (x1 : F) =>
 some x1
theorem x_math_Abs_ok (a0 : F) (q0 : F) (h : x_math_Abs a0 = some q0) : Ev Tryz.prog 120 [f64 a0] [] (f64 q0) [] := by
 refine Ev.start Tryz.func120 rfl rfl 0 (τ := [(0, f64 a0)]) rfl (Γ' := []) rfl (n := 15) rfl (g := 0) rfl (fun _ => rfl) ?_
 unfold x_math_Abs at h
 refine zQ ?_
 refine zL (r := f64 (some 0)) rfl rfl rfl (LOp.le (LOp.assign rfl rfl) (ALe.fl (by kernel_rfl) (by kernel_rfl))) ?_
 refine zN ?_
 refine RunC.seq ?_
 obtain ⟨x1, hx1, h⟩ := olet_some h
 refine RunC.regionW ?_
 refine zM (r := f64 a0) rfl rfl rfl rfl rfl ?_
 refine zL (r := bt .f64 .u64 a0) rfl rfl rfl (LOp.fbits ext140 rfl (OpF.tmp rfl)) ?_
 refine zL (r := bt .f64 .u64 x1) rfl rfl rfl (LOp.eqr (LOp.andNot_bt rfl rfl rfl) (congrArg (bt .f64 .u64) hx1)) ?_
 refine zL (r := f64 x1) rfl rfl rfl (LOp.ffrom ext139 rfl rfl) ?_
 refine zA (r := f64 x1) rfl rfl rfl rfl rfl ?_
 refine zN ?_
 refine RunC.ret ?_
 have hq := Option.some.inj h
 subst q0
 exact bodyQ.pure (.inr rfl) rfl (Res.one rfl (RV.tmp rfl))
noncomputable def x_math_IsInf_k1 (y3 : F) : Option (Bool) :=
 some (flt .f64 (some 9218868437227405311) y3)
noncomputable def x_math_IsInf (a0 : F) (a1 : Int) : Option (Bool) :=
 bsel (decide (a1 = 0)) (
  obind (x_math_Abs a0) fun (r1 : F) =>
  x_math_IsInf_k1 r1) (
  bsel (decide (a1 < 0)) (
   olet (fneg .f64 a0) fun (x2 : F) =>
   x_math_IsInf_k1 x2) (
   x_math_IsInf_k1 a0))
theorem x_math_IsInf_ok (a0 : F) (a1 : Int) (q0 : Bool) (h : x_math_IsInf a0 a1 = some q0) : Ev Tryz.prog 144 [f64 a0, i64 a1] [] (b q0) [] := by
 refine Ev.start Tryz.func144 rfl rfl 0 (τ := [(0, f64 a0), (1, i64 a1)]) rfl (Γ' := []) rfl (n := 31) rfl (g := 0) rfl (fun _ => rfl) ?_
 unfold x_math_IsInf at h
 refine zQ ?_
 refine zA (r := b false) rfl rfl rfl rfl rfl ?_
 refine zN ?_
 refine RunC.seq ?_
 refine RunC.cutN (fun τ Γ => ∃ (y3 : F), WeakLe τ [(0, f64 y3)] ∧ DeadLe Γ [] ∧ x_math_IsInf_k1 y3 = some q0) ?_ ?_
 ·refine RunC.seq ?_
  rcases bsel_some h with ⟨hc1, h⟩ | ⟨hc1, h⟩
  ·refine RunC.regionW ?_
   refine zM (r := i64 a1) rfl rfl rfl rfl rfl ?_
   refine zL (r := b true) rfl rfl rfl (LOp.eqb (LOp.eql rfl rfl rfl) hc1) ?_
   refine zN ?_
   refine RunC.cond_true rfl rfl ?_
   obtain ⟨r1, hf2, h⟩ := obind_some h
   refine RunC.regionW ?_
   refine zM (r := f64 a0) rfl rfl rfl rfl rfl ?_
   refine ROps.d (r := f64 r1) (fs := []) (Γ' := []) rfl rfl rfl (TOp.callB (CallAs.func ent120 rfl rfl) (Bors.cons (Bor.pure rfl) Bors.nil) rfl rfl (x_math_Abs_ok a0 r1 hf2)) rfl ?_
   refine zA (r := f64 r1) rfl rfl rfl rfl rfl ?_
   refine zN ?_
   exact ⟨r1, ⟨aR, trivial⟩, trivial, h⟩
  ·refine RunC.regionW ?_
   refine zM (r := i64 a1) rfl rfl rfl rfl rfl ?_
   refine zL (r := b false) rfl rfl rfl (LOp.eqb (LOp.eql rfl rfl rfl) hc1) ?_
   refine zN ?_
   refine RunC.cond_false rfl rfl ?_
   refine RunC.seq ?_
   rcases bsel_some h with ⟨hc3, h⟩ | ⟨hc3, h⟩
   ·refine RunC.regionW ?_
    refine zM (r := i64 a1) rfl rfl rfl rfl rfl ?_
    refine zL (r := b true) rfl rfl rfl (LOp.eqb (LOp.lss rfl rfl rfl) hc3) ?_
    refine zN ?_
    refine RunC.cond_true rfl rfl ?_
    obtain ⟨x2, hx4, h⟩ := olet_some h
    refine RunC.regionW ?_
    refine zM (r := f64 a0) rfl rfl rfl rfl rfl ?_
    refine zL (r := f64 x2) rfl rfl rfl (LOp.eqr (LOp.fneg rfl (OpF.tmp rfl)) (congrArg (f .f64) hx4)) ?_
    refine zA (r := f64 x2) rfl rfl rfl rfl rfl ?_
    refine zN ?_
    exact ⟨x2, ⟨aR, trivial⟩, trivial, h⟩
   ·refine RunC.regionW ?_
    refine zM (r := i64 a1) rfl rfl rfl rfl rfl ?_
    refine zL (r := b false) rfl rfl rfl (LOp.eqb (LOp.lss rfl rfl rfl) hc3) ?_
    refine zN ?_
    refine RunC.cond_false rfl rfl ?_
    refine RunC.skip ?_
    exact ⟨a0, ⟨aR, trivial⟩, trivial, h⟩
 ·rintro τ2 Γ2 ⟨y3, hw2, hd2, h⟩
  refine RunC.wl hw2 hd2 ?_
  unfold x_math_IsInf_k1 at h
  refine zQ ?_
  refine zM (r := f64 y3) rfl rfl rfl rfl rfl ?_
  refine zL (r := b (flt .f64 (some 9218868437227405311) y3)) rfl rfl rfl (LOp.fgt rfl (OpF.tmp rfl) (OpF.const rfl (by kernel_rfl) (by kernel_rfl))) ?_
  refine zA (r := b (flt .f64 (some 9218868437227405311) y3)) rfl rfl rfl rfl rfl ?_
  refine zN ?_
  refine RunC.ret ?_
  have hq := Option.some.inj h
  subst q0
  exact bodyQ.pure (.inr rfl) rfl (Res.one rfl (RV.tmp rfl))
noncomputable def i_isFinite64 (a0 : F) : Option (Bool) :=
 obind (x_math_IsNaN a0) fun (r1 : Bool) =>
 bsel r1 (
  some false) (
  obind (x_math_IsInf a0 0) fun (r2 : Bool) =>
  some (!r2))
theorem i_isFinite64_ok (a0 : F) (q0 : Bool) (h : i_isFinite64 a0 = some q0) : Ev Tryz.prog 128 [f64 a0] [] (b q0) [] := by
 refine Ev.start Tryz.func128 rfl rfl 0 (τ := [(0, f64 a0)]) rfl (Γ' := []) rfl (n := 23) rfl (g := 0) rfl (fun _ => rfl) ?_
 unfold i_isFinite64 at h
 refine zQ ?_
 refine zA (r := b false) rfl rfl rfl rfl rfl ?_
 refine zN ?_
 refine RunC.seq ?_
 obtain ⟨r1, hf1, h⟩ := obind_some h
 rcases bsel_some h with ⟨hc2, h⟩ | ⟨hc2, h⟩
 ·refine RunC.regionW ?_
  refine zM (r := f64 a0) rfl rfl rfl rfl rfl ?_
  refine ROps.d (r := b true) (fs := []) (Γ' := []) rfl rfl rfl (TOp.eqb (TOp.callB (CallAs.func ent143 rfl rfl) (Bors.cons (Bor.pure rfl) Bors.nil) rfl rfl (x_math_IsNaN_ok a0 r1 hf1)) hc2) rfl ?_
  refine zL (r := b false) rfl rfl rfl (LOp.eqb (LOp.not rfl rfl) rfl) ?_
  refine zM (r := b false) rfl rfl rfl rfl rfl ?_
  refine ROps.s rfl rfl rfl ?_
  refine ROps.s rfl rfl rfl ?_
  refine ROps.s rfl rfl rfl ?_
  refine zL (r := b false) rfl rfl rfl (LOp.pick_false rfl rfl rfl) ?_
  refine zA (r := b false) rfl rfl rfl rfl rfl ?_
  refine zN ?_
  refine RunC.ret ?_
  have hq := Option.some.inj h
  subst q0
  exact bodyQ.pure (.inr rfl) rfl (Res.one rfl (RV.tmp rfl))
 ·obtain ⟨r2, hf3, h⟩ := obind_some h
  refine RunC.regionW ?_
  refine zM (r := f64 a0) rfl rfl rfl rfl rfl ?_
  refine ROps.d (r := b false) (fs := []) (Γ' := []) rfl rfl rfl (TOp.eqb (TOp.callB (CallAs.func ent143 rfl rfl) (Bors.cons (Bor.pure rfl) Bors.nil) rfl rfl (x_math_IsNaN_ok a0 r1 hf1)) hc2) rfl ?_
  refine zL (r := b true) rfl rfl rfl (LOp.eqb (LOp.not rfl rfl) rfl) ?_
  refine zM (r := b true) rfl rfl rfl rfl rfl ?_
  refine zM (r := f64 a0) rfl rfl rfl rfl rfl ?_
  refine ROps.d (r := b r2) (fs := []) (Γ' := []) rfl rfl rfl (TOp.callB (CallAs.func ent144 rfl rfl) (Bors.cons (Bor.pure rfl) (Bors.cons (Bor.pure rfl) Bors.nil)) rfl rfl (x_math_IsInf_ok a0 0 r2 hf3)) rfl ?_
  refine zL (r := b (!r2)) rfl rfl rfl (LOp.not rfl rfl) ?_
  refine zL (r := b (!r2)) rfl rfl rfl (LOp.pick_true rfl rfl rfl) ?_
  refine zA (r := b (!r2)) rfl rfl rfl rfl rfl ?_
  refine zN ?_
  refine RunC.ret ?_
  have hq := Option.some.inj h
  subst q0
  exact bodyQ.pure (.inr rfl) rfl (Res.one rfl (RV.tmp rfl))
noncomputable def i_IsFinite (a0 : F) : Option (Bool) :=
 olet (fwiden a0) fun (x1 : F) =>
 obind (i_isFinite64 x1) fun (r2 : Bool) =>
 some r2
theorem i_IsFinite_ok (a0 : F) (q0 : Bool) (h : i_IsFinite a0 = some q0) : Ev Tryz.prog 92 [f32 a0] [] (b q0) [] := by
 refine Ev.start Tryz.func92 rfl rfl 0 (τ := [(0, f32 a0)]) rfl (Γ' := []) rfl (n := 13) rfl (g := 0) rfl (fun _ => rfl) ?_
 unfold i_IsFinite at h
 refine zQ ?_
 refine zA (r := b false) rfl rfl rfl rfl rfl ?_
 refine zN ?_
 refine RunC.seq ?_
 obtain ⟨x1, hx1, h⟩ := olet_some h
 obtain ⟨r2, hf2, h⟩ := obind_some h
 refine RunC.regionW ?_
 refine zM (r := f32 a0) rfl rfl rfl rfl rfl ?_
 refine ROps.d (r := f64 x1) (fs := []) (Γ' := []) rfl rfl rfl (TOp.eqr (TOp.widen (src := 33) (dst := 37) ⟨_, pun33⟩ pun37 rfl (OpF.tmp rfl)) (congrArg (f .f64) hx1)) rfl ?_
 refine ROps.d (r := b r2) (fs := []) (Γ' := []) rfl rfl rfl (TOp.callB (CallAs.func ent128 rfl rfl) (Bors.cons (Bor.pure rfl) Bors.nil) rfl rfl (i_isFinite64_ok x1 r2 hf2)) rfl ?_
 refine zA (r := b r2) rfl rfl rfl rfl rfl ?_
 refine zN ?_
 refine RunC.ret ?_
 have hq := Option.some.inj h
 subst q0
 exact bodyQ.pure (.inr rfl) rfl (Res.one rfl (RV.tmp rfl))
noncomputable def i_areFinite_1 (a0 : F) : Option (Bool) :=
 obind (i_IsFinite a0) fun (r1 : Bool) =>
 some (!r1)
theorem i_areFinite_1_ok (a0 : F) (q0 : Bool) (h : i_areFinite_1 a0 = some q0) : Ev Tryz.prog 100 [f32 a0] [] (b q0) [] := by
 refine Ev.start Tryz.func100 rfl rfl 0 (τ := [(0, f32 a0)]) rfl (Γ' := []) rfl (n := 13) rfl (g := 0) rfl (fun _ => rfl) ?_
 unfold i_areFinite_1 at h
 refine zQ ?_
 refine zA (r := b false) rfl rfl rfl rfl rfl ?_
 refine zN ?_
 refine RunC.seq ?_
 obtain ⟨r1, hf1, h⟩ := obind_some h
 refine RunC.regionW ?_
 refine zM (r := f32 a0) rfl rfl rfl rfl rfl ?_
 refine ROps.d (r := b r1) (fs := []) (Γ' := []) rfl rfl rfl (TOp.callB (CallAs.func ent92 rfl rfl) (Bors.cons (Bor.pure rfl) Bors.nil) rfl rfl (i_IsFinite_ok a0 r1 hf1)) rfl ?_
 refine zL (r := b (!r1)) rfl rfl rfl (LOp.not rfl rfl) ?_
 refine zA (r := b (!r1)) rfl rfl rfl rfl rfl ?_
 refine zN ?_
 refine RunC.ret ?_
 have hq := Option.some.inj h
 subst q0
 exact bodyQ.pure (.inr rfl) rfl (Res.one rfl (RV.tmp rfl))
noncomputable def x_slices_IndexFunc_float32_float32_1Fi_areFinite_1_b1 (a0 : List F) (v1 : Int) : Option (LR (Int) (Unit) (Int)) :=
 bsel (decide (v1 < (a0.length : Int))) (
  obind (at? a0 v1) fun (e2 : F) =>
  obind (i_areFinite_1 e2) fun (r3 : Bool) =>
  bsel r3 (
   some (LR.ret v1)) (
   olet (IntKind.i64.wrap (v1 + 1)) fun (x4 : Int) =>
   some (LR.next x4))) (
  some (LR.out ()))
noncomputable def x_slices_IndexFunc_float32_float32_1Fi_areFinite_1_s1 (a0 : List F) : (Int) → Option (LR (Int) (Unit) (Int)) := fun s => x_slices_IndexFunc_float32_float32_1Fi_areFinite_1_b1 a0 s
noncomputable def x_slices_IndexFunc_float32_float32_1Fi_areFinite_1_k1  : Option (Int) :=
 some (-1)
noncomputable def x_slices_IndexFunc_float32_float32_1Fi_areFinite_1 (a0 : List F) : Option (Int) :=
 obind (loopM (x_slices_IndexFunc_float32_float32_1Fi_areFinite_1_s1 a0) 0) fun z => osum z (fun _ => x_slices_IndexFunc_float32_float32_1Fi_areFinite_1_k1) (fun r => some r)
theorem x_slices_IndexFunc_float32_float32_1Fi_areFinite_1_ok (a0 : List F) (q0 : Int) (h : x_slices_IndexFunc_float32_float32_1Fi_areFinite_1 a0 = some q0) : Ev Tryz.prog 131 [sl a0.length (a0.map f32), fn (.func 100) [] []] [] (i64 q0) [] := by
 refine Ev.start Tryz.func131 rfl rfl 0 (τ := [(0, sl a0.length (a0.map f32)), (1, fn (.func 100) [] [])]) rfl (Γ' := []) rfl (n := 39) rfl (g := 0) rfl (fun _ => rfl) ?_
 unfold x_slices_IndexFunc_float32_float32_1Fi_areFinite_1 at h
 refine zQ ?_
 refine zA (r := i64 0) rfl rfl rfl rfl rfl ?_
 refine zN ?_
 refine RunC.seq ?_
 refine zQ ?_
 refine zM (r := sl a0.length (a0.map f32)) rfl rfl rfl rfl rfl ?_
 refine zL (r := i64 (a0.length : Int)) rfl rfl rfl (LOp.len_sl und22 rfl rfl) ?_
 refine zM (r := i64 0) rfl rfl rfl rfl rfl ?_
 refine zN ?_
 obtain ⟨z2, hz_2, h⟩ := obind_some h
 refine RunC.cutN (fun τ Γ => WeakLe τ [] ∧ DeadLe Γ [] ∧ z2 = .inl ()) ?_ ?_
 ·refine RunC.block (RunC.loop (RunL.loopM (x := z2) (x_slices_IndexFunc_float32_float32_1Fi_areFinite_1_s1 a0) (fun (s : Int) τ Γ => WeakLe τ [(0, sl a0.length (a0.map f32)), (1, fn (.func 100) [] []), (7, i64 (a0.length : Int)), (8, i64 s)] ∧ DeadLe Γ []) ?_ _ _ _ hz_2 ⟨⟨aR, aR, aR, aR, trivial⟩, trivial⟩))
  rintro v1 τ2 Γ2 y2_ ⟨hw2, hd2⟩ h2_ ho2 hr2
  refine RunC.wl (τ' := [(0, sl a0.length (a0.map f32)), (1, fn (.func 100) [] []), (7, i64 (a0.length : Int)), (8, i64 v1)]) (Γ' := []) hw2 hd2 ?_
  replace h2_ : x_slices_IndexFunc_float32_float32_1Fi_areFinite_1_b1 a0 v1 = some y2_ := h2_
  unfold x_slices_IndexFunc_float32_float32_1Fi_areFinite_1_b1 at h2_
  refine RunC.seq ?_
  rcases bsel_some h2_ with ⟨hc1, h2_⟩ | ⟨hc1, h2_⟩
  ·refine RunC.regionW ?_
   refine zL (r := b true) rfl rfl rfl (LOp.eqb (LOp.lss rfl rfl rfl) hc1) ?_
   refine zN ?_
   refine RunC.seq ?_
   refine RunC.cond_true rfl rfl ?_
   refine RunC.skip ?_
   refine RunC.seq ?_
   refine RunC.block ?_
   refine zQ ?_
   refine zM (r := i64 v1) rfl rfl rfl rfl rfl ?_
   refine zA (r := i64 v1) rfl rfl rfl rfl rfl ?_
   refine zN ?_
   refine RunC.seq ?_
   obtain ⟨e2, he2, h2_⟩ := obind_some h2_
   obtain ⟨r3, hf3, h2_⟩ := obind_some h2_
   rcases bsel_some h2_ with ⟨hc4, h2_⟩ | ⟨hc4, h2_⟩
   ·refine RunC.regionW ?_
    refine zM (r := fn (.func 100) [] []) rfl rfl rfl rfl rfl ?_
    refine zM (r := sl a0.length (a0.map f32)) rfl rfl rfl rfl rfl ?_
    refine zM (r := i64 v1) rfl rfl rfl rfl rfl ?_
    refine zL (r := ptr [f32 e2]) rfl rfl rfl (LOp.le (LOp.ix (f := f32) und22 siz33 rfl rfl rfl rfl he2) ALe.ptr) ?_
    refine zL (r := f32 e2) rfl rfl rfl (LOp.load1 agg33 rfl rfl) ?_
    refine ROps.d (r := b true) (fs := []) (Γ' := []) rfl rfl rfl (TOp.eqb (TOp.callB (CallAs.fn ent100 rfl rfl rfl rfl) (Bors.cons (Bor.pure rfl) Bors.nil) rfl rfl (i_areFinite_1_ok e2 r3 hf3)) hc4) rfl ?_
    refine zN ?_
    refine RunC.cond_true rfl rfl ?_
    refine zQ ?_
    refine zM (r := i64 v1) rfl rfl rfl rfl rfl ?_
    refine zA (r := i64 v1) rfl rfl rfl rfl rfl ?_
    refine zN ?_
    refine RunC.ret ?_
    cases Option.some.inj h2_
    have hx3_ := hr2 _ rfl
    subst hx3_
    have hq := Option.some.inj h
    subst q0
    exact bodyQ.pure (.inr rfl) rfl (Res.one rfl (RV.tmp rfl))
   ·refine RunC.regionW ?_
    refine zM (r := fn (.func 100) [] []) rfl rfl rfl rfl rfl ?_
    refine zM (r := sl a0.length (a0.map f32)) rfl rfl rfl rfl rfl ?_
    refine zM (r := i64 v1) rfl rfl rfl rfl rfl ?_
    refine zL (r := ptr [f32 e2]) rfl rfl rfl (LOp.le (LOp.ix (f := f32) und22 siz33 rfl rfl rfl rfl he2) ALe.ptr) ?_
    refine zL (r := f32 e2) rfl rfl rfl (LOp.load1 agg33 rfl rfl) ?_
    refine ROps.d (r := b false) (fs := []) (Γ' := []) rfl rfl rfl (TOp.eqb (TOp.callB (CallAs.fn ent100 rfl rfl rfl rfl) (Bors.cons (Bor.pure rfl) Bors.nil) rfl rfl (i_areFinite_1_ok e2 r3 hf3)) hc4) rfl ?_
    refine zN ?_
    refine RunC.cond_false rfl rfl ?_
    refine RunC.skip ?_
    obtain ⟨x4, hx5, h2_⟩ := olet_some h2_
    refine RunC.regionW ?_
    refine zL (r := i64 x4) rfl rfl rfl (LOp.eqr (LOp.add rfl rfl rfl) (congrArg (ik .i64) hx5)) ?_
    refine zM (r := i64 x4) rfl rfl rfl rfl rfl ?_
    refine zN ?_
    cases Option.some.inj h2_
    exact ⟨_, rfl, ⟨aR, aR, aR, aR, trivial⟩, trivial⟩
  ·refine RunC.regionW ?_
   refine zL (r := b false) rfl rfl rfl (LOp.eqb (LOp.lss rfl rfl rfl) hc1) ?_
   refine zN ?_
   refine RunC.seq ?_
   refine RunC.cond_false rfl rfl ?_
   refine RunC.exit ?_
   cases Option.some.inj h2_
   have hx := ho2 _ rfl
   exact ⟨trivial, trivial, hx⟩
 ·rintro τ4 Γ4 ⟨hw4, hd4, rfl⟩
  refine RunC.wl hw4 hd4 ?_
  replace h : x_slices_IndexFunc_float32_float32_1Fi_areFinite_1_k1 = some q0 := h
  unfold x_slices_IndexFunc_float32_float32_1Fi_areFinite_1_k1 at h
  refine zQ ?_
  refine zA (r := i64 (-1)) rfl rfl rfl rfl rfl ?_
  refine zN ?_
  refine RunC.ret ?_
  have hq := Option.some.inj h
  subst q0
  exact bodyQ.pure (.inr rfl) rfl (Res.one rfl (RV.tmp rfl))
noncomputable def x_slices_ContainsFunc_float32_float32_1Fi_areFinite_1 (a0 : List F) : Option (Bool) :=
 obind (x_slices_IndexFunc_float32_float32_1Fi_areFinite_1 a0) fun (r1 : Int) =>
 some (decide (0 ≤ r1))
theorem x_slices_ContainsFunc_float32_float32_1Fi_areFinite_1_ok (a0 : List F) (q0 : Bool) (h : x_slices_ContainsFunc_float32_float32_1Fi_areFinite_1 a0 = some q0) : Ev Tryz.prog 99 [sl a0.length (a0.map f32), fn (.func 100) [] []] [] (b q0) [] := by
 refine Ev.start Tryz.func99 rfl rfl 0 (τ := [(0, sl a0.length (a0.map f32)), (1, fn (.func 100) [] [])]) rfl (Γ' := []) rfl (n := 19) rfl (g := 0) rfl (fun _ => rfl) ?_
 unfold x_slices_ContainsFunc_float32_float32_1Fi_areFinite_1 at h
 refine zQ ?_
 refine zA (r := b false) rfl rfl rfl rfl rfl ?_
 refine zN ?_
 refine RunC.seq ?_
 obtain ⟨r1, hf1, h⟩ := obind_some h
 refine RunC.regionW ?_
 refine zM (r := sl a0.length (a0.map f32)) rfl rfl rfl rfl rfl ?_
 refine zM (r := fn (.func 100) [] []) rfl rfl rfl rfl rfl ?_
 refine ROps.d (r := i64 r1) (fs := []) (Γ' := []) rfl rfl rfl (TOp.callB (CallAs.func ent131 rfl rfl) (Bors.cons (Bor.sl (fun _ => rfl)) (Bors.cons (Bor.fn Bors.nil Bors.nil) Bors.nil)) rfl rfl (x_slices_IndexFunc_float32_float32_1Fi_areFinite_1_ok a0 r1 hf1)) rfl ?_
 refine zL (r := b (decide (0 ≤ r1))) rfl rfl rfl (LOp.geq rfl rfl rfl) ?_
 refine zA (r := b (decide (0 ≤ r1))) rfl rfl rfl rfl rfl ?_
 refine zN ?_
 refine RunC.ret ?_
 have hq := Option.some.inj h
 subst q0
 exact bodyQ.pure (.inr rfl) rfl (Res.one rfl (RV.tmp rfl))
noncomputable def i_areFinite (a0 : List F) : Option (Bool) :=
 obind (x_slices_ContainsFunc_float32_float32_1Fi_areFinite_1 a0) fun (r1 : Bool) =>
 some (!r1)
theorem i_areFinite_ok (a0 : List F) (q0 : Bool) (h : i_areFinite a0 = some q0) : Ev Tryz.prog 62 [sl a0.length (a0.map f32)] [] (b q0) [] := by
 refine Ev.start Tryz.func62 rfl rfl 0 (τ := [(0, sl a0.length (a0.map f32))]) rfl (Γ' := []) rfl (n := 13) rfl (g := 0) rfl (fun _ => rfl) ?_
 unfold i_areFinite at h
 refine zQ ?_
 refine zA (r := b false) rfl rfl rfl rfl rfl ?_
 refine zN ?_
 refine RunC.seq ?_
 obtain ⟨r1, hf1, h⟩ := obind_some h
 refine RunC.regionW ?_
 refine zM (r := sl a0.length (a0.map f32)) rfl rfl rfl rfl rfl ?_
 refine ROps.d (r := b r1) (fs := []) (Γ' := []) rfl rfl rfl (TOp.callB (CallAs.func ent99 rfl rfl) (Bors.cons (Bor.sl (fun _ => rfl)) (Bors.cons (Bor.fn Bors.nil Bors.nil) Bors.nil)) rfl rfl (x_slices_ContainsFunc_float32_float32_1Fi_areFinite_1_ok a0 r1 hf1)) rfl ?_
 refine zL (r := b (!r1)) rfl rfl rfl (LOp.not rfl rfl) ?_
 refine zA (r := b (!r1)) rfl rfl rfl rfl rfl ?_
 refine zN ?_
 refine RunC.ret ?_
 have hq := Option.some.inj h
 subst q0
 exact bodyQ.pure (.inr rfl) rfl (Res.one rfl (RV.tmp rfl))
noncomputable def i_ValidMatrix (a0 : Int) (a1 : Int) (a2 : List F) : Option (Bool) :=
 obind (i_isSide a0) fun (r1 : Bool) =>
 bsel r1 (
  obind (i_isSide a1) fun (r2 : Bool) =>
  bsel r2 (
   obind (i_length_float32 a2) fun (r3 : Int) =>
   olet (IntKind.i64.wrap (a0 * a1)) fun (x4 : Int) =>
   bsel (decide (r3 = x4)) (
    obind (i_areFinite a2) fun (r5 : Bool) =>
    some r5) (
    some false)) (
   some false)) (
  some false)
theorem i_ValidMatrix_ok (a0 : Int) (a1 : Int) (a2 : List F) (q0 : Bool) (h : i_ValidMatrix a0 a1 a2 = some q0) : Ev Tryz.prog 65 [agg [i64 a0, i64 a1, sl a2.length (a2.map f32)]] [] (b q0) [] := by
 refine Ev.start Tryz.func65 rfl rfl 0 (τ := [(0, agg [i64 a0, i64 a1, sl a2.length (a2.map f32)])]) rfl (Γ' := []) rfl (n := 55) rfl (g := 0) rfl (fun _ => rfl) ?_
 unfold i_ValidMatrix at h
 refine zQ ?_
 refine ROps.d (r := ptr [i64 a0, i64 a1, sl a2.length (a2.map f32)]) (fs := []) (Γ' := []) rfl rfl rfl (TOp.box_s rfl rfl rfl) rfl ?_
 refine zA (r := b false) rfl rfl rfl rfl rfl ?_
 refine zN ?_
 refine RunC.seq ?_
 obtain ⟨r1, hf1, h⟩ := obind_some h
 rcases bsel_some h with ⟨hc2, h⟩ | ⟨hc2, h⟩
 ·obtain ⟨r2, hf3, h⟩ := obind_some h
  rcases bsel_some h with ⟨hc4, h⟩ | ⟨hc4, h⟩
  ·obtain ⟨r3, hf5, h⟩ := obind_some h
   obtain ⟨x4, hx6, h⟩ := olet_some h
   rcases bsel_some h with ⟨hc7, h⟩ | ⟨hc7, h⟩
   ·obtain ⟨r5, hf8, h⟩ := obind_some h
    refine RunC.region_draw (Γ' := []) 25 mixed 
     (TR.l (r := ptr [i64 a0, i64 a1, sl a2.length (a2.map f32)]) rfl rfl (LOp.fap und26 rfl siz2 rfl rfl rfl) <|
     (TR.l (r := i64 a0) rfl rfl (LOp.load1 agg2 rfl rfl) <|
     (TR.d (r := b true) (fs := []) rfl rfl (TOp.eqb (TOp.callB (CallAs.func ent102 rfl rfl) (Bors.cons (Bor.pure rfl) Bors.nil) rfl rfl (i_isSide_ok a0 r1 hf1)) hc2) <|
     (TR.l (r := b true) rfl rfl (LOp.move rfl rfl) <|
     (TR.l (r := ptr [i64 a1, sl a2.length (a2.map f32)]) rfl rfl (LOp.fap und26 rfl siz2 rfl rfl rfl) <|
     (TR.l (r := i64 a1) rfl rfl (LOp.load1 agg2 rfl rfl) <|
     (TR.d (r := b true) (fs := []) rfl rfl (TOp.eqb (TOp.callB (CallAs.func ent102 rfl rfl) (Bors.cons (Bor.pure rfl) Bors.nil) rfl rfl (i_isSide_ok a1 r2 hf3)) hc4) <|
     (TR.l (r := b true) rfl rfl (LOp.pick_true rfl rfl rfl) <|
     (TR.l (r := b true) rfl rfl (LOp.move rfl rfl) <|
     (TR.l (r := ptr [sl a2.length (a2.map f32)]) rfl rfl (LOp.fap und26 rfl siz22 rfl rfl rfl) <|
     (TR.l (r := sl a2.length (a2.map f32)) rfl rfl (LOp.load1 agg22 rfl rfl) <|
     (TR.d (r := i64 r3) (fs := []) rfl rfl (TOp.callB (CallAs.func ent103 rfl rfl) (Bors.cons (Bor.sl (fun _ => rfl)) Bors.nil) rfl rfl (i_length_float32_ok a2 r3 hf5)) <|
     (TR.l (r := ptr [i64 a0, i64 a1, sl a2.length (a2.map f32)]) rfl rfl (LOp.fap und26 rfl siz2 rfl rfl rfl) <|
     (TR.l (r := i64 a0) rfl rfl (LOp.load1 agg2 rfl rfl) <|
     (TR.l (r := ptr [i64 a1, sl a2.length (a2.map f32)]) rfl rfl (LOp.fap und26 rfl siz2 rfl rfl rfl) <|
     (TR.l (r := i64 a1) rfl rfl (LOp.load1 agg2 rfl rfl) <|
     (TR.l (r := i64 x4) rfl rfl (LOp.eqr (LOp.mul rfl rfl rfl) (congrArg (ik .i64) hx6)) <|
     (TR.l (r := b true) rfl rfl (LOp.eqb (LOp.eql rfl rfl rfl) hc7) <|
     (TR.l (r := b true) rfl rfl (LOp.pick_true rfl rfl rfl) <|
     (TR.l (r := b true) rfl rfl (LOp.move rfl rfl) <|
     (TR.l (r := ptr [sl a2.length (a2.map f32)]) rfl rfl (LOp.fap und26 rfl siz22 rfl rfl rfl) <|
     (TR.l (r := sl a2.length (a2.map f32)) rfl rfl (LOp.load1 agg22 rfl rfl) <|
     (TR.d (r := b r5) (fs := []) rfl rfl (TOp.callB (CallAs.func ent62 rfl rfl) (Bors.cons (Bor.sl (fun _ => rfl)) Bors.nil) rfl rfl (i_areFinite_ok a2 r5 hf8)) <|
     (TR.l (r := b r5) rfl rfl (LOp.pick_true rfl rfl rfl) <|
     (TR.l (r := b r5) rfl rfl (LOp.assign rfl rfl) <|
     TR.nil))))))))))))))))))))))))) rfl (by kernel_rfl) rfl fills_nil rfl ?_
    iterate 25 refine ROps.dropS ?_
    refine ROps.drop0 ?_
    refine zN ?_
    refine RunC.ret ?_
    have hq := Option.some.inj h
    subst q0
    exact bodyQ.pure (.inr rfl) rfl (Res.one rfl (RV.tmp rfl))
   ·refine RunC.region_draw (Γ' := []) 25 mixed 
     (TR.l (r := ptr [i64 a0, i64 a1, sl a2.length (a2.map f32)]) rfl rfl (LOp.fap und26 rfl siz2 rfl rfl rfl) <|
     (TR.l (r := i64 a0) rfl rfl (LOp.load1 agg2 rfl rfl) <|
     (TR.d (r := b true) (fs := []) rfl rfl (TOp.eqb (TOp.callB (CallAs.func ent102 rfl rfl) (Bors.cons (Bor.pure rfl) Bors.nil) rfl rfl (i_isSide_ok a0 r1 hf1)) hc2) <|
     (TR.l (r := b true) rfl rfl (LOp.move rfl rfl) <|
     (TR.l (r := ptr [i64 a1, sl a2.length (a2.map f32)]) rfl rfl (LOp.fap und26 rfl siz2 rfl rfl rfl) <|
     (TR.l (r := i64 a1) rfl rfl (LOp.load1 agg2 rfl rfl) <|
     (TR.d (r := b true) (fs := []) rfl rfl (TOp.eqb (TOp.callB (CallAs.func ent102 rfl rfl) (Bors.cons (Bor.pure rfl) Bors.nil) rfl rfl (i_isSide_ok a1 r2 hf3)) hc4) <|
     (TR.l (r := b true) rfl rfl (LOp.pick_true rfl rfl rfl) <|
     (TR.l (r := b true) rfl rfl (LOp.move rfl rfl) <|
     (TR.l (r := ptr [sl a2.length (a2.map f32)]) rfl rfl (LOp.fap und26 rfl siz22 rfl rfl rfl) <|
     (TR.l (r := sl a2.length (a2.map f32)) rfl rfl (LOp.load1 agg22 rfl rfl) <|
     (TR.d (r := i64 r3) (fs := []) rfl rfl (TOp.callB (CallAs.func ent103 rfl rfl) (Bors.cons (Bor.sl (fun _ => rfl)) Bors.nil) rfl rfl (i_length_float32_ok a2 r3 hf5)) <|
     (TR.l (r := ptr [i64 a0, i64 a1, sl a2.length (a2.map f32)]) rfl rfl (LOp.fap und26 rfl siz2 rfl rfl rfl) <|
     (TR.l (r := i64 a0) rfl rfl (LOp.load1 agg2 rfl rfl) <|
     (TR.l (r := ptr [i64 a1, sl a2.length (a2.map f32)]) rfl rfl (LOp.fap und26 rfl siz2 rfl rfl rfl) <|
     (TR.l (r := i64 a1) rfl rfl (LOp.load1 agg2 rfl rfl) <|
     (TR.l (r := i64 x4) rfl rfl (LOp.eqr (LOp.mul rfl rfl rfl) (congrArg (ik .i64) hx6)) <|
     (TR.l (r := b false) rfl rfl (LOp.eqb (LOp.eql rfl rfl rfl) hc7) <|
     (TR.l (r := b false) rfl rfl (LOp.pick_true rfl rfl rfl) <|
     (TR.l (r := b false) rfl rfl (LOp.move rfl rfl) <|
     (TR.s rfl rfl <|
     (TR.s rfl rfl <|
     (TR.s rfl rfl <|
     (TR.l (r := b false) rfl rfl (LOp.pick_false rfl rfl rfl) <|
     (TR.l (r := b false) rfl rfl (LOp.assign rfl rfl) <|
     TR.nil))))))))))))))))))))))))) rfl (by kernel_rfl) rfl fills_nil rfl ?_
    iterate 25 refine ROps.dropS ?_
    refine ROps.drop0 ?_
    refine zN ?_
    refine RunC.ret ?_
    have hq := Option.some.inj h
    subst q0
    exact bodyQ.pure (.inr rfl) rfl (Res.one rfl (RV.tmp rfl))
  ·refine RunC.region_draw (Γ' := []) 25 mixed 
    (TR.l (r := ptr [i64 a0, i64 a1, sl a2.length (a2.map f32)]) rfl rfl (LOp.fap und26 rfl siz2 rfl rfl rfl) <|
    (TR.l (r := i64 a0) rfl rfl (LOp.load1 agg2 rfl rfl) <|
    (TR.d (r := b true) (fs := []) rfl rfl (TOp.eqb (TOp.callB (CallAs.func ent102 rfl rfl) (Bors.cons (Bor.pure rfl) Bors.nil) rfl rfl (i_isSide_ok a0 r1 hf1)) hc2) <|
    (TR.l (r := b true) rfl rfl (LOp.move rfl rfl) <|
    (TR.l (r := ptr [i64 a1, sl a2.length (a2.map f32)]) rfl rfl (LOp.fap und26 rfl siz2 rfl rfl rfl) <|
    (TR.l (r := i64 a1) rfl rfl (LOp.load1 agg2 rfl rfl) <|
    (TR.d (r := b false) (fs := []) rfl rfl (TOp.eqb (TOp.callB (CallAs.func ent102 rfl rfl) (Bors.cons (Bor.pure rfl) Bors.nil) rfl rfl (i_isSide_ok a1 r2 hf3)) hc4) <|
    (TR.l (r := b false) rfl rfl (LOp.pick_true rfl rfl rfl) <|
    (TR.l (r := b false) rfl rfl (LOp.move rfl rfl) <|
    (TR.s rfl rfl <|
    (TR.s rfl rfl <|
    (TR.s rfl rfl <|
    (TR.s rfl rfl <|
    (TR.s rfl rfl <|
    (TR.s rfl rfl <|
    (TR.s rfl rfl <|
    (TR.s rfl rfl <|
    (TR.s rfl rfl <|
    (TR.l (r := b false) rfl rfl (LOp.pick_false rfl rfl rfl) <|
    (TR.l (r := b false) rfl rfl (LOp.move rfl rfl) <|
    (TR.s rfl rfl <|
    (TR.s rfl rfl <|
    (TR.s rfl rfl <|
    (TR.l (r := b false) rfl rfl (LOp.pick_false rfl rfl rfl) <|
    (TR.l (r := b false) rfl rfl (LOp.assign rfl rfl) <|
    TR.nil))))))))))))))))))))))))) rfl (by kernel_rfl) rfl fills_nil rfl ?_
   iterate 25 refine ROps.dropS ?_
   refine ROps.drop0 ?_
   refine zN ?_
   refine RunC.ret ?_
   have hq := Option.some.inj h
   subst q0
   exact bodyQ.pure (.inr rfl) rfl (Res.one rfl (RV.tmp rfl))
 ·refine RunC.region_draw (Γ' := []) 25 mixed 
   (TR.l (r := ptr [i64 a0, i64 a1, sl a2.length (a2.map f32)]) rfl rfl (LOp.fap und26 rfl siz2 rfl rfl rfl) <|
   (TR.l (r := i64 a0) rfl rfl (LOp.load1 agg2 rfl rfl) <|
   (TR.d (r := b false) (fs := []) rfl rfl (TOp.eqb (TOp.callB (CallAs.func ent102 rfl rfl) (Bors.cons (Bor.pure rfl) Bors.nil) rfl rfl (i_isSide_ok a0 r1 hf1)) hc2) <|
   (TR.l (r := b false) rfl rfl (LOp.move rfl rfl) <|
   (TR.s rfl rfl <|
   (TR.s rfl rfl <|
   (TR.s rfl rfl <|
   (TR.l (r := b false) rfl rfl (LOp.pick_false rfl rfl rfl) <|
   (TR.l (r := b false) rfl rfl (LOp.move rfl rfl) <|
   (TR.s rfl rfl <|
   (TR.s rfl rfl <|
   (TR.s rfl rfl <|
   (TR.s rfl rfl <|
   (TR.s rfl rfl <|
   (TR.s rfl rfl <|
   (TR.s rfl rfl <|
   (TR.s rfl rfl <|
   (TR.s rfl rfl <|
   (TR.l (r := b false) rfl rfl (LOp.pick_false rfl rfl rfl) <|
   (TR.l (r := b false) rfl rfl (LOp.move rfl rfl) <|
   (TR.s rfl rfl <|
   (TR.s rfl rfl <|
   (TR.s rfl rfl <|
   (TR.l (r := b false) rfl rfl (LOp.pick_false rfl rfl rfl) <|
   (TR.l (r := b false) rfl rfl (LOp.assign rfl rfl) <|
   TR.nil))))))))))))))))))))))))) rfl (by kernel_rfl) rfl fills_nil rfl ?_
  iterate 25 refine ROps.dropS ?_
  refine ROps.drop0 ?_
  refine zN ?_
  refine RunC.ret ?_
  have hq := Option.some.inj h
  subst q0
  exact bodyQ.pure (.inr rfl) rfl (Res.one rfl (RV.tmp rfl))
noncomputable def i_isSquare (a0 : Int) (a1 : Int) (a2 : List F) : Option (Bool) :=
 obind (i_ValidMatrix a0 a1 a2) fun (r1 : Bool) =>
 bsel r1 (
  some (decide (a0 = a1))) (
  some false)
theorem i_isSquare_ok (a0 : Int) (a1 : Int) (a2 : List F) (q0 : Bool) (h : i_isSquare a0 a1 a2 = some q0) : Ev Tryz.prog 82 [agg [i64 a0, i64 a1, sl a2.length (a2.map f32)]] [] (b q0) [] := by
 refine Ev.start Tryz.func82 rfl rfl 0 (τ := [(0, agg [i64 a0, i64 a1, sl a2.length (a2.map f32)])]) rfl (Γ' := []) rfl (n := 25) rfl (g := 0) rfl (fun _ => rfl) ?_
 unfold i_isSquare at h
 refine zQ ?_
 refine ROps.d (r := ptr [i64 a0, i64 a1, sl a2.length (a2.map f32)]) (fs := []) (Γ' := []) rfl rfl rfl (TOp.box_s rfl rfl rfl) rfl ?_
 refine zA (r := b false) rfl rfl rfl rfl rfl ?_
 refine zN ?_
 refine RunC.seq ?_
 obtain ⟨r1, hf1, h⟩ := obind_some h
 rcases bsel_some h with ⟨hc2, h⟩ | ⟨hc2, h⟩
 ·refine RunC.regionW ?_
  refine zL (r := agg [i64 a0, i64 a1, sl a2.length (a2.map f32)]) rfl rfl rfl (LOp.loadAgg agg26 siz26 rfl rfl rfl rfl) ?_
  refine ROps.d (r := b true) (fs := []) (Γ' := []) rfl rfl rfl (TOp.eqb (TOp.callB (CallAs.func ent65 rfl rfl) (Bors.cons (Bor.agg (Bors.cons (Bor.pure rfl) (Bors.cons (Bor.pure rfl) (Bors.cons (Bor.sl (fun _ => rfl)) Bors.nil)))) Bors.nil) rfl rfl (i_ValidMatrix_ok a0 a1 a2 r1 hf1)) hc2) rfl ?_
  refine zM (r := b true) rfl rfl rfl rfl rfl ?_
  refine zL (r := ptr [i64 a0, i64 a1, sl a2.length (a2.map f32)]) rfl rfl rfl (LOp.fap und26 rfl siz2 rfl rfl rfl) ?_
  refine zL (r := i64 a0) rfl rfl rfl (LOp.load1 agg2 rfl rfl) ?_
  refine zL (r := ptr [i64 a1, sl a2.length (a2.map f32)]) rfl rfl rfl (LOp.fap und26 rfl siz2 rfl rfl rfl) ?_
  refine zL (r := i64 a1) rfl rfl rfl (LOp.load1 agg2 rfl rfl) ?_
  refine zL (r := b (decide (a0 = a1))) rfl rfl rfl (LOp.eql rfl rfl rfl) ?_
  refine zL (r := b (decide (a0 = a1))) rfl rfl rfl (LOp.pick_true rfl rfl rfl) ?_
  refine zA (r := b (decide (a0 = a1))) rfl rfl rfl rfl rfl ?_
  refine zN ?_
  refine RunC.ret ?_
  have hq := Option.some.inj h
  subst q0
  exact bodyQ.pure (.inr rfl) rfl (Res.one rfl (RV.tmp rfl))
 ·refine RunC.regionW ?_
  refine zL (r := agg [i64 a0, i64 a1, sl a2.length (a2.map f32)]) rfl rfl rfl (LOp.loadAgg agg26 siz26 rfl rfl rfl rfl) ?_
  refine ROps.d (r := b false) (fs := []) (Γ' := []) rfl rfl rfl (TOp.eqb (TOp.callB (CallAs.func ent65 rfl rfl) (Bors.cons (Bor.agg (Bors.cons (Bor.pure rfl) (Bors.cons (Bor.pure rfl) (Bors.cons (Bor.sl (fun _ => rfl)) Bors.nil)))) Bors.nil) rfl rfl (i_ValidMatrix_ok a0 a1 a2 r1 hf1)) hc2) rfl ?_
  refine zM (r := b false) rfl rfl rfl rfl rfl ?_
  refine ROps.s rfl rfl rfl ?_
  refine ROps.s rfl rfl rfl ?_
  refine ROps.s rfl rfl rfl ?_
  refine ROps.s rfl rfl rfl ?_
  refine ROps.s rfl rfl rfl ?_
  refine zL (r := b false) rfl rfl rfl (LOp.pick_false rfl rfl rfl) ?_
  refine zA (r := b false) rfl rfl rfl rfl rfl ?_
  refine zN ?_
  refine RunC.ret ?_
  have hq := Option.some.inj h
  subst q0
  exact bodyQ.pure (.inr rfl) rfl (Res.one rfl (RV.tmp rfl))
noncomputable def x_slices_Clone_float32_float32 (a0 : List F) : Option ((List F)) :=
 need (apok 4 0 a0.length) <|
 some (([] : List F) ++ a0)
theorem x_slices_Clone_float32_float32_ok (a0 : List F) (q0 : List F) (h : x_slices_Clone_float32_float32 a0 = some q0) : Ev Tryz.prog 97 [sl a0.length (a0.map f32)] [] (oref 0 0 0 q0.length) [⟨0, some (q0.map f32)⟩] := by
 refine Ev.start Tryz.func97 rfl rfl 1 (τ := [(0, sl a0.length (a0.map f32))]) rfl (Γ' := [⟨0, none⟩]) rfl (n := 17) rfl (g := 0) rfl (fun _ => rfl) ?_
 unfold x_slices_Clone_float32_float32 at h
 refine zQ ?_
 refine zA (r := nilsl) rfl rfl rfl rfl rfl ?_
 refine zN ?_
 refine RunC.seq ?_
 refine zQ ?_
 refine zM (r := sl a0.length (a0.map f32)) rfl rfl rfl rfl rfl ?_
 refine ROps.eqnil rfl pun22 rfl rfl rfl rfl rfl ?_ ?_
 ·intro hnil1
  refine zN ?_
  refine RunC.cond_true rfl rfl ?_
  refine zQ ?_
  refine zA (r := nilsl) rfl rfl rfl rfl rfl ?_
  refine zN ?_
  refine RunC.nil_slot (Γ' := [⟨1, some (([] : List F).map f32)⟩]) 2 0 rfl rfl rfl ?_
  refine RunC.ret ?_
  have hnl := List.map_eq_nil_iff.1 hnil1
  have hq : some ([] : List F) = some q0 := by
   rw [← h]; subst hnl; simp [need, apok]
  have hq := Option.some.inj hq
  subst q0
  exact bodyQ.mk (r' := oref 0 1 0 (([] : List F).length)) [(0, 1)] (.inr rfl) rfl (show List.Nodup [0] from by decide) rfl rfl (Res.eq (Res.one rfl (RV.tmp rfl)) (by rw [(show ([] : List F).length = 0 from rfl)] <;> rfl)) (SelL.arr0 (f := f32) (fun _ => rfl) rfl trivial)
 ·refine zN ?_
  refine RunC.cond_false rfl rfl ?_
  refine RunC.skip ?_
  refine RunC.seq ?_
  obtain ⟨hm2, h⟩ := need_some h
  refine RunC.regionW ?_
  refine ROps.d (r := oref 0 1 0 0) (fs := [(0, (([] : List F).map f32))]) (Γ' := [⟨1, some (([] : List F).map f32)⟩]) rfl rfl rfl (TOp.buildSlice_o (g := ⟨0, none⟩) (za := f32 (some 0)) (qs := []) 0 rfl und22 siz33 zer33 rfl zel33 rfl rfl trivial rfl) rfl ?_
  refine zM (r := sl a0.length (a0.map f32)) rfl rfl rfl rfl rfl ?_
  refine ROps.app (f := f32) (xs := ([] : List F)) (ys := a0) (Γ' := [⟨2, some ((([] : List F) ++ a0).map f32)⟩]) rfl pun22 inf33 rfl rfl rfl rfl rfl rfl rfl rfl rfl (by simp) (ReadAs.sl (by simp)) (ones_map (fun _ => rfl)) (ap_by hm2) (ap_mx hm2) rfl ?_
  refine zA (r := oref 0 2 0 (0 + a0.length)) rfl rfl rfl rfl rfl ?_
  refine zN ?_
  refine RunC.ret ?_
  have hq := Option.some.inj h
  subst q0
  exact bodyQ.mk (r' := oref 0 2 0 ((([] : List F) ++ a0).length)) [(0, 2)] (.inr rfl) rfl (show List.Nodup [0] from by decide) rfl rfl (Res.eq (Res.one rfl (RV.tmp rfl)) (by rw [(show (([] : List F) ++ a0).length = (0 + a0.length) from (app_len rfl rfl))] <;> rfl)) (SelL.arr0 (f := f32) (fun _ => rfl) rfl trivial)
noncomputable def i_Matrix_clone (a0 : Int) (a1 : Int) (a2 : List F) : Option (Int × Int × (List F)) :=
 obind (x_slices_Clone_float32_float32 a2) fun (r1 : List F) =>
 some (a0, a1, r1)
theorem i_Matrix_clone_ok (a0 : Int) (a1 : Int) (a2 : List F) (q0 : Int) (q1 : Int) (q2 : List F) (h : i_Matrix_clone a0 a1 a2 = some (q0, q1, q2)) : Ev Tryz.prog 58 [agg [i64 a0, i64 a1, sl a2.length (a2.map f32)]] [] (agg [i64 q0, i64 q1, oref 0 0 0 q2.length]) [⟨0, some (q2.map f32)⟩] := by
 refine Ev.start Tryz.func58 rfl rfl 2 (τ := [(0, agg [i64 a0, i64 a1, sl a2.length (a2.map f32)])]) rfl (Γ' := [⟨0, none⟩, ⟨0, none⟩]) rfl (n := 23) rfl (g := 0) rfl (fun _ => rfl) ?_
 unfold i_Matrix_clone at h
 refine zQ ?_
 refine ROps.d (r := ptr [i64 a0, i64 a1, sl a2.length (a2.map f32)]) (fs := []) (Γ' := [⟨0, none⟩, ⟨0, none⟩]) rfl rfl rfl (TOp.box_s rfl rfl rfl) rfl ?_
 refine ROps.d (r := optr 0 1 0) (fs := [(0, [i64 0, i64 0, nilsl])]) (Γ' := [⟨1, some [i64 0, i64 0, nilsl]⟩, ⟨0, none⟩]) rfl rfl rfl (TOp.alloc_o (g := ⟨0, none⟩) 0 rfl zer26 zok26 rfl) rfl ?_
 refine zN ?_
 refine RunC.seq ?_
 obtain ⟨r1, hf1, h⟩ := obind_some h
 refine RunC.region_draw (Γ' := [⟨1, some [i64 0, i64 0, nilsl]⟩, ⟨1, some (r1.map f32)⟩]) 8 mixed 
  (TR.l (r := ptr [i64 a0, i64 a1, sl a2.length (a2.map f32)]) rfl rfl (LOp.fap und26 rfl siz2 rfl rfl rfl) <|
  (TR.l (r := i64 a0) rfl rfl (LOp.load1 agg2 rfl rfl) <|
  (TR.l (r := ptr [i64 a1, sl a2.length (a2.map f32)]) rfl rfl (LOp.fap und26 rfl siz2 rfl rfl rfl) <|
  (TR.l (r := i64 a1) rfl rfl (LOp.load1 agg2 rfl rfl) <|
  (TR.l (r := ptr [sl a2.length (a2.map f32)]) rfl rfl (LOp.fap und26 rfl siz22 rfl rfl rfl) <|
  (TR.l (r := sl a2.length (a2.map f32)) rfl rfl (LOp.load1 agg22 rfl rfl) <|
  (TR.d (r := oref 1 1 0 r1.length) (fs := [(1, (r1.map f32))]) rfl rfl (TOp.callBN (ls := [(r1.map f32)]) [1] (CallAs.func ent97 rfl rfl) (Bors.cons (Bor.sl (fun _ => rfl)) Bors.nil) rfl (x_slices_Clone_float32_float32_ok a2 r1 hf1) (and_all (lts0_map (f := f32) (fun _ => rfl) _) rfl) (and_all (noss_map (f := f32) (fun _ => rfl) _) rfl) rfl (by decide) (ns_of ⟨⟨_, rfl⟩, trivial⟩)) <|
  (TR.l (r := agg [i64 a0, i64 a1, oref 1 1 0 r1.length]) rfl rfl (LOp.build (qs := [(0, [i64 a0]), (1, [i64 a1]), (2, [oref 1 1 0 r1.length])]) zer26 zok26 und26 plc26 rfl ⟨rfl, ⟨_, ALe.refl _, rfl⟩, ⟨rfl, ⟨_, ALe.refl _, rfl⟩, ⟨rfl, ⟨_, ALe.refl _, rfl⟩, trivial⟩⟩⟩ rfl) <|
  TR.nil)))))))) rfl (by kernel_rfl) rfl (fills_of (by show List.Nodup [1]; decide) ⟨⟨_, rfl⟩, trivial⟩) rfl ?_
 iterate 8 refine ROps.dropS ?_
 refine ROps.drop0 ?_
 refine ROps.store_le (r := agg [i64 a0, i64 a1, oref 1 1 0 r1.length]) (l' := [i64 a0, i64 a1, oref 1 1 0 r1.length]) (Γ' := [⟨1, some [i64 a0, i64 a1, oref 1 1 0 r1.length]⟩, ⟨1, some (r1.map f32)⟩]) rfl siz26 rfl rfl rfl aR rfl rfl rfl rfl (Nat.le_of_ble_eq_true rfl) rfl rfl ?_
 refine zN ?_
 refine RunC.ret ?_
 have hq := Option.some.inj h
 obtain ⟨hq0, hq⟩ := Prod.mk.inj hq
 obtain ⟨hq1, hq⟩ := Prod.mk.inj hq
 subst q0
 subst q1
 subst q2
 exact bodyQ.mk (r' := agg [i64 a0, i64 a1, oref 1 1 0 r1.length]) [(1, 1)] (.inr rfl) rfl (show List.Nodup [1] from by decide) rfl rfl (Res.one rfl (RV.cell agg26 siz26 rfl rfl rfl rfl)) (SelL.arr0 (f := f32) (fun _ => rfl) rfl trivial)
noncomputable def i_ascending_b1 (a0 : Int) (L3 : List Int) (v4 : Int) : Option (LR ((List Int) × Int) ((List Int)) ((List Int))) :=
 bsel (decide (v4 < a0)) (
  need (apok 8 L3.length 1) <|
  olet (IntKind.i64.wrap (v4 + 1)) fun (x5 : Int) =>
  some (LR.next ((L3 ++ ([v4] : List Int)), x5))) (
  some (LR.out L3))
noncomputable def i_ascending_s1 (a0 : Int) : ((List Int) × Int) → Option (LR ((List Int) × Int) ((List Int)) ((List Int))) := fun s => i_ascending_b1 a0 s.1 s.2
noncomputable def i_ascending_k1 (L8 : List Int) : Option ((List Int)) :=
 some L8
noncomputable def i_ascending (a0 : Int) : Option ((List Int)) :=
 obind (loopM (i_ascending_s1 a0) (([] : List Int), 0)) fun z => osum z (fun e => i_ascending_k1 e) (fun r => some r)
theorem i_ascending_ok (a0 : Int) (q0 : List Int) (h : i_ascending a0 = some q0) : Ev Tryz.prog 27 [i64 a0] [] (oref 0 0 0 q0.length) [⟨0, some (q0.map i64)⟩] := by
 refine Ev.start Tryz.func27 rfl rfl 2 (τ := [(0, i64 a0)]) rfl (Γ' := [⟨0, none⟩, ⟨0, none⟩]) rfl (n := 33) rfl (g := 0) rfl (fun _ => rfl) ?_
 unfold i_ascending at h
 refine zQ ?_
 refine zA (r := nilsl) rfl rfl rfl rfl rfl ?_
 refine zN ?_
 refine zQ ?_
 refine ROps.d (r := oref 0 1 0 0) (fs := [(0, (([] : List Int).map i64))]) (Γ' := [⟨1, some (([] : List Int).map i64)⟩, ⟨0, none⟩]) rfl rfl rfl (TOp.buildSlice_o (g := ⟨0, none⟩) (za := i64 0) (qs := []) 0 rfl und53 siz2 zer2 rfl zel2 rfl rfl trivial rfl) rfl ?_
 refine zA (r := oref 0 1 0 0) rfl rfl rfl rfl rfl ?_
 refine zN ?_
 refine RunC.seq ?_
 refine zQ ?_
 refine zM (r := i64 a0) rfl rfl rfl rfl rfl ?_
 refine zM (r := i64 0) rfl rfl rfl rfl rfl ?_
 refine zN ?_
 obtain ⟨z2, hz_2, h⟩ := obind_some h
 refine RunC.cutN (fun τ Γ => ∃ (L8 : List Int) (u6 : Nat) (u7 : Nat), WeakLe τ [(3, oref 0 u6 0 L8.length)] ∧ DeadLe Γ [⟨u6, some (L8.map i64)⟩, ⟨u7, none⟩] ∧ z2 = .inl L8) ?_ ?_
 ·refine RunC.block (RunC.loop (RunL.loopM (x := z2) (i_ascending_s1 a0) (fun (s : (List Int) × Int) τ Γ => ∃ (u1 : Nat) (u2 : Nat), WeakLe τ [(3, oref 0 u1 0 s.1.length), (6, i64 a0), (7, i64 s.2)] ∧ DeadLe Γ [⟨u1, some (s.1.map i64)⟩, ⟨u2, none⟩]) ?_ _ _ _ hz_2 ⟨1, 0, ⟨aR, aR, aR, trivial⟩, ⟨⟨rfl, .inr rfl⟩, ⟨rfl, .inl rfl⟩, trivial⟩⟩))
  rintro ⟨L3, v4⟩ τ2 Γ2 y2_ ⟨u1, u2, hw2, hd2⟩ h2_ ho2 hr2
  refine RunC.wl (τ' := [(3, oref 0 u1 0 L3.length), (6, i64 a0), (7, i64 v4)]) (Γ' := [⟨u1, some (L3.map i64)⟩, ⟨u2, none⟩]) hw2 hd2 ?_
  replace h2_ : i_ascending_b1 a0 L3 v4 = some y2_ := h2_
  unfold i_ascending_b1 at h2_
  refine RunC.seq ?_
  rcases bsel_some h2_ with ⟨hc1, h2_⟩ | ⟨hc1, h2_⟩
  ·refine RunC.regionW ?_
   refine zL (r := b true) rfl rfl rfl (LOp.eqb (LOp.lss rfl rfl rfl) hc1) ?_
   refine zN ?_
   refine RunC.seq ?_
   refine RunC.cond_true rfl rfl ?_
   refine RunC.skip ?_
   refine RunC.seq ?_
   refine RunC.block ?_
   refine zQ ?_
   refine zM (r := i64 v4) rfl rfl rfl rfl rfl ?_
   refine zA (r := i64 v4) rfl rfl rfl rfl rfl ?_
   refine zN ?_
   obtain ⟨hm2, h2_⟩ := need_some h2_
   refine RunC.regionW ?_
   refine zM (r := oref 0 u1 0 L3.length) rfl rfl rfl rfl rfl ?_
   refine zM (r := i64 v4) rfl rfl rfl rfl rfl ?_
   refine ROps.d (r := oref 1 (u2 + 1) 0 1) (fs := [(1, (([v4] : List Int).map i64))]) (Γ' := [⟨u1, some (L3.map i64)⟩, ⟨(u2 + 1), some (([v4] : List Int).map i64)⟩]) rfl rfl rfl (TOp.buildSlice_o (g := ⟨u2, none⟩) (za := i64 0) (qs := [(0, [i64 v4])]) 1 rfl und53 siz2 zer2 rfl zel2 rfl rfl ⟨rfl, ⟨_, ALe.refl _, rfl⟩, trivial⟩ rfl) rfl ?_
   refine ROps.app (f := i64) (xs := L3) (ys := ([v4] : List Int)) (Γ' := [⟨(u1 + 1), some ((L3 ++ ([v4] : List Int)).map i64)⟩, ⟨(u2 + 1), some (([v4] : List Int).map i64)⟩]) rfl pun53 inf2 rfl rfl rfl rfl rfl rfl rfl rfl rfl (by simp) (ReadAs.own rfl (by simp)) (ones_map (fun _ => rfl)) (ap_by hm2) (ap_mx hm2) rfl ?_
   refine zA (r := oref 0 (u1 + 1) 0 (L3.length + 1)) rfl rfl rfl rfl rfl ?_
   refine zN ?_
   refine RunC.wl (τ' := [(3, oref 0 (u1 + 1) 0 (L3.length + 1)), (6, i64 a0), (7, i64 v4)]) (Γ' := [⟨(u1 + 1), some ((L3 ++ ([v4] : List Int)).map i64)⟩, ⟨(u2 + 1), none⟩]) ⟨aR, aR, aR, trivial⟩ ⟨⟨rfl, .inr rfl⟩, ⟨rfl, .inl rfl⟩, trivial⟩ ?_
   obtain ⟨x5, hx3, h2_⟩ := olet_some h2_
   refine RunC.regionW ?_
   refine zL (r := i64 x5) rfl rfl rfl (LOp.eqr (LOp.add rfl rfl rfl) (congrArg (ik .i64) hx3)) ?_
   refine zM (r := i64 x5) rfl rfl rfl rfl rfl ?_
   refine zN ?_
   cases Option.some.inj h2_
   exact ⟨_, rfl, (u1 + 1), (u2 + 1), ⟨(ALe.eq (by rw [(app_len rfl rfl)] <;> rfl)), aR, aR, trivial⟩, ⟨⟨rfl, .inr rfl⟩, ⟨rfl, .inl rfl⟩, trivial⟩⟩
  ·refine RunC.regionW ?_
   refine zL (r := b false) rfl rfl rfl (LOp.eqb (LOp.lss rfl rfl rfl) hc1) ?_
   refine zN ?_
   refine RunC.seq ?_
   refine RunC.cond_false rfl rfl ?_
   refine RunC.exit ?_
   cases Option.some.inj h2_
   have hx := ho2 _ rfl
   exact ⟨L3, u1, u2, ⟨aR, trivial⟩, ⟨⟨rfl, .inr rfl⟩, ⟨rfl, .inl rfl⟩, trivial⟩, hx⟩
 ·rintro τ3 Γ3 ⟨L8, u6, u7, hw3, hd3, rfl⟩
  refine RunC.wl hw3 hd3 ?_
  replace h : i_ascending_k1 L8 = some q0 := h
  unfold i_ascending_k1 at h
  refine zQ ?_
  refine zM (r := oref 0 u6 0 L8.length) rfl rfl rfl rfl rfl ?_
  refine zA (r := oref 0 u6 0 L8.length) rfl rfl rfl rfl rfl ?_
  refine zN ?_
  refine RunC.ret ?_
  have hq := Option.some.inj h
  subst q0
  exact bodyQ.mk (r' := oref 0 u6 0 L8.length) [(0, u6)] (.inr rfl) rfl (show List.Nodup [0] from by decide) (by simp [ren, rens, sigma]) rfl (Res.one rfl (RV.tmp rfl)) (SelL.arr0 (f := i64) (fun _ => rfl) rfl trivial)
noncomputable def i_Matrix_at (a0 : Int) (a1 : Int) (a2 : List F) (a3 : Int) (a4 : Int) : Option (F) :=
 olet (IntKind.i64.wrap (a3 * a1)) fun (x1 : Int) =>
 olet (IntKind.i64.wrap (x1 + a4)) fun (x2 : Int) =>
 obind (at? a2 x2) fun (e3 : F) =>
 some e3
theorem i_Matrix_at_ok (a0 : Int) (a1 : Int) (a2 : List F) (a3 : Int) (a4 : Int) (q0 : F) (h : i_Matrix_at a0 a1 a2 a3 a4 = some q0) : Ev Tryz.prog 35 [agg [i64 a0, i64 a1, sl a2.length (a2.map f32)], i64 a3, i64 a4] [] (f32 q0) [] := by
 refine Ev.start Tryz.func35 rfl rfl 0 (τ := [(0, agg [i64 a0, i64 a1, sl a2.length (a2.map f32)]), (1, i64 a3), (2, i64 a4)]) rfl (Γ' := []) rfl (n := 35) rfl (g := 0) rfl (fun _ => rfl) ?_
 unfold i_Matrix_at at h
 refine zQ ?_
 refine ROps.d (r := ptr [i64 a0, i64 a1, sl a2.length (a2.map f32)]) (fs := []) (Γ' := []) rfl rfl rfl (TOp.box_s rfl rfl rfl) rfl ?_
 refine zL (r := f32 (some 0)) rfl rfl rfl (LOp.le (LOp.assign rfl rfl) (ALe.fl (by kernel_rfl) (by kernel_rfl))) ?_
 refine zN ?_
 refine RunC.seq ?_
 obtain ⟨x1, hx1, h⟩ := olet_some h
 obtain ⟨x2, hx2, h⟩ := olet_some h
 obtain ⟨e3, he3, h⟩ := obind_some h
 refine RunC.regionW ?_
 refine zL (r := ptr [sl a2.length (a2.map f32)]) rfl rfl rfl (LOp.fap und26 rfl siz22 rfl rfl rfl) ?_
 refine zL (r := sl a2.length (a2.map f32)) rfl rfl rfl (LOp.load1 agg22 rfl rfl) ?_
 refine zM (r := i64 a3) rfl rfl rfl rfl rfl ?_
 refine zL (r := ptr [i64 a1, sl a2.length (a2.map f32)]) rfl rfl rfl (LOp.fap und26 rfl siz2 rfl rfl rfl) ?_
 refine zL (r := i64 a1) rfl rfl rfl (LOp.load1 agg2 rfl rfl) ?_
 refine zL (r := i64 x1) rfl rfl rfl (LOp.eqr (LOp.mul rfl rfl rfl) (congrArg (ik .i64) hx1)) ?_
 refine zM (r := i64 a4) rfl rfl rfl rfl rfl ?_
 refine zL (r := i64 x2) rfl rfl rfl (LOp.eqr (LOp.add rfl rfl rfl) (congrArg (ik .i64) hx2)) ?_
 refine zL (r := ptr [f32 e3]) rfl rfl rfl (LOp.le (LOp.ix (f := f32) und22 siz33 rfl rfl rfl rfl he3) ALe.ptr) ?_
 refine zL (r := f32 e3) rfl rfl rfl (LOp.load1 agg33 rfl rfl) ?_
 refine zA (r := f32 e3) rfl rfl rfl rfl rfl ?_
 refine zN ?_
 refine RunC.ret ?_
 have hq := Option.some.inj h
 subst q0
 exact bodyQ.pure (.inr rfl) rfl (Res.one rfl (RV.tmp rfl))
noncomputable def i_absolute (a0 : F) : Option (F) :=
 olet (fwiden a0) fun (x1 : F) =>
 obind (x_math_Abs x1) fun (r2 : F) =>
 obind (fnarrow r2) fun (y3 : F) =>
 some y3
theorem i_absolute_ok (a0 : F) (q0 : F) (h : i_absolute a0 = some q0) : Ev Tryz.prog 83 [f32 a0] [] (f32 q0) [] := by
 refine Ev.start Tryz.func83 rfl rfl 0 (τ := [(0, f32 a0)]) rfl (Γ' := []) rfl (n := 15) rfl (g := 0) rfl (fun _ => rfl) ?_
 unfold i_absolute at h
 refine zQ ?_
 refine zL (r := f32 (some 0)) rfl rfl rfl (LOp.le (LOp.assign rfl rfl) (ALe.fl (by kernel_rfl) (by kernel_rfl))) ?_
 refine zN ?_
 refine RunC.seq ?_
 obtain ⟨x1, hx1, h⟩ := olet_some h
 obtain ⟨r2, hf2, h⟩ := obind_some h
 obtain ⟨y3, hy3, h⟩ := obind_some h
 refine RunC.regionW ?_
 refine zM (r := f32 a0) rfl rfl rfl rfl rfl ?_
 refine ROps.d (r := f64 x1) (fs := []) (Γ' := []) rfl rfl rfl (TOp.eqr (TOp.widen (src := 33) (dst := 37) ⟨_, pun33⟩ pun37 rfl (OpF.tmp rfl)) (congrArg (f .f64) hx1)) rfl ?_
 refine ROps.d (r := f64 r2) (fs := []) (Γ' := []) rfl rfl rfl (TOp.callB (CallAs.func ent120 rfl rfl) (Bors.cons (Bor.pure rfl) Bors.nil) rfl rfl (x_math_Abs_ok x1 r2 hf2)) rfl ?_
 refine ROps.d (r := f32 y3) (fs := []) (Γ' := []) rfl rfl rfl (TOp.narrow (src := 37) (dst := 33) ⟨_, pun37⟩ pun33 rfl (OpF.tmp rfl) hy3) rfl ?_
 refine zA (r := f32 y3) rfl rfl rfl rfl rfl ?_
 refine zN ?_
 refine RunC.ret ?_
 have hq := Option.some.inj h
 subst q0
 exact bodyQ.pure (.inr rfl) rfl (Res.one rfl (RV.tmp rfl))
noncomputable def i_Matrix_set_02o (a0 : Int) (a1 : Int) (a2 : Int) (a3 : Int) (a4 : F) (a5 : List F) : Option ((List F)) :=
 olet (IntKind.i64.wrap (a2 * a1)) fun (x1 : Int) =>
 olet (IntKind.i64.wrap (x1 + a3)) fun (x2 : Int) =>
 obind (setAt? a5 x2 a4) fun (L3 : List F) =>
 some L3
theorem i_Matrix_set_02o_ok (a0 : Int) (a1 : Int) (a2 : Int) (a3 : Int) (a4 : F) (a5 : List F) (q0 : List F) (h : i_Matrix_set_02o a0 a1 a2 a3 a4 a5 = some q0) : Ev Tryz.prog 71 [agg [i64 a0, i64 a1, oref 0 0 0 a5.length], i64 a2, i64 a3, f32 a4] [⟨0, some (a5.map f32)⟩] (tup []) [⟨0, some (q0.map f32)⟩] := by
 refine Ev.start Tryz.func71 rfl rfl 0 (τ := [(0, agg [i64 a0, i64 a1, oref 0 0 0 a5.length]), (1, i64 a2), (2, i64 a3), (3, f32 a4)]) rfl (Γ' := [⟨0, some (a5.map f32)⟩]) rfl (n := 36) rfl (g := 1) rfl (by decide) ?_
 unfold i_Matrix_set_02o at h
 refine zQ ?_
 refine ROps.d (r := ptr [i64 a0, i64 a1, oref 0 0 0 a5.length]) (fs := []) (Γ' := [⟨0, some (a5.map f32)⟩]) rfl rfl rfl (TOp.box_s rfl rfl rfl) rfl ?_
 refine zN ?_
 obtain ⟨x1, hx1, h⟩ := olet_some h
 obtain ⟨x2, hx2, h⟩ := olet_some h
 obtain ⟨L3, he3, h⟩ := obind_some h
 refine RunC.regionW ?_
 refine zL (r := ptr [oref 0 0 0 a5.length]) rfl rfl rfl (LOp.fap und26 rfl siz22 rfl rfl rfl) ?_
 refine zL (r := oref 0 0 0 a5.length) rfl rfl rfl (LOp.load1 agg22 rfl rfl) ?_
 refine zM (r := i64 a2) rfl rfl rfl rfl rfl ?_
 refine zL (r := ptr [i64 a1, oref 0 0 0 a5.length]) rfl rfl rfl (LOp.fap und26 rfl siz2 rfl rfl rfl) ?_
 refine zL (r := i64 a1) rfl rfl rfl (LOp.load1 agg2 rfl rfl) ?_
 refine zL (r := i64 x1) rfl rfl rfl (LOp.eqr (LOp.mul rfl rfl rfl) (congrArg (ik .i64) hx1)) ?_
 refine zM (r := i64 a3) rfl rfl rfl rfl rfl ?_
 refine zL (r := i64 x2) rfl rfl rfl (LOp.eqr (LOp.add rfl rfl rfl) (congrArg (ik .i64) hx2)) ?_
 refine zM (r := f32 a4) rfl rfl rfl rfl rfl ?_
 refine ROps.d (r := optr 0 0 x2.toNat) (fs := []) (Γ' := [⟨0, some (a5.map f32)⟩]) rfl rfl rfl (TOp.ixo und22 siz33 rfl rfl rfl (set_in he3 rfl) rfl) rfl ?_
 refine ROps.st (f := f32) (i := x2) (Γ' := [⟨0, some (L3.map f32)⟩]) rfl siz33 rfl rfl rfl aR rfl rfl rfl he3 rfl ?_
 refine zN ?_
 have hq := Option.some.inj h
 subst q0
 exact bodyQ.mk (r' := tup []) [(0, 0)] (.inl rfl) rfl (show List.Nodup [0] from by decide) rfl rfl (Res.zero rfl) (SelL.arr (f := f32) (fun _ => rfl) rfl trivial)
noncomputable def i_Matrix_swapRows_02o_b1 (a0 : Int) (a1 : Int) (a2 : Int) (a3 : Int) (a4 : List F) (L1 : List F) (v3 : Int) : Option (LR ((List F) × Int) ((List F)) ((List F))) :=
 bsel (decide (v3 < a1)) (
  obind (i_Matrix_at a0 a1 L1 a2 v3) fun (r4 : F) =>
  obind (i_Matrix_at a0 a1 L1 a3 v3) fun (r6 : F) =>
  obind (i_Matrix_set_02o a0 a1 a2 v3 r6 L1) fun (r7 : List F) =>
  need (decide (r7.length = a4.length)) <|
  obind (i_Matrix_set_02o a0 a1 a3 v3 r4 r7) fun (r8 : List F) =>
  need (decide (r8.length = a4.length)) <|
  olet (IntKind.i64.wrap (v3 + 1)) fun (x9 : Int) =>
  some (LR.next (r8, x9))) (
  some (LR.out L1))
noncomputable def i_Matrix_swapRows_02o_s1 (a0 : Int) (a1 : Int) (a2 : Int) (a3 : Int) (a4 : List F) : ((List F) × Int) → Option (LR ((List F) × Int) ((List F)) ((List F))) := fun s => i_Matrix_swapRows_02o_b1 a0 a1 a2 a3 a4 s.1 s.2
noncomputable def i_Matrix_swapRows_02o_k1 (L10 : List F) : Option ((List F)) :=
 some L10
noncomputable def i_Matrix_swapRows_02o (a0 : Int) (a1 : Int) (a2 : Int) (a3 : Int) (a4 : List F) : Option ((List F)) :=
 obind (loopM (i_Matrix_swapRows_02o_s1 a0 a1 a2 a3 a4) (a4, 0)) fun z => osum z (fun e => i_Matrix_swapRows_02o_k1 e) (fun r => some r)
theorem i_Matrix_swapRows_02o_ok (a0 : Int) (a1 : Int) (a2 : Int) (a3 : Int) (a4 : List F) (q0 : List F) (h : i_Matrix_swapRows_02o a0 a1 a2 a3 a4 = some q0) : Ev Tryz.prog 84 [agg [i64 a0, i64 a1, oref 0 0 0 a4.length], i64 a2, i64 a3] [⟨0, some (a4.map f32)⟩] (tup []) [⟨0, some (q0.map f32)⟩] := by
 refine Ev.start Tryz.func84 rfl rfl 0 (τ := [(0, agg [i64 a0, i64 a1, oref 0 0 0 a4.length]), (1, i64 a2), (2, i64 a3)]) rfl (Γ' := [⟨0, some (a4.map f32)⟩]) rfl (n := 62) rfl (g := 1) rfl (by decide) ?_
 unfold i_Matrix_swapRows_02o at h
 refine zQ ?_
 refine ROps.d (r := ptr [i64 a0, i64 a1, oref 0 0 0 a4.length]) (fs := []) (Γ' := [⟨0, some (a4.map f32)⟩]) rfl rfl rfl (TOp.box_s rfl rfl rfl) rfl ?_
 refine zN ?_
 refine zQ ?_
 refine zL (r := ptr [i64 a1, oref 0 0 0 a4.length]) rfl rfl rfl (LOp.fap und26 rfl siz2 rfl rfl rfl) ?_
 refine zL (r := i64 a1) rfl rfl rfl (LOp.load1 agg2 rfl rfl) ?_
 refine zM (r := i64 0) rfl rfl rfl rfl rfl ?_
 refine zN ?_
 obtain ⟨z2, hz_2, h⟩ := obind_some h
 refine RunC.cutN (fun τ Γ => ∃ (L10 : List F), L10.length = a4.length ∧ WeakLe τ [] ∧ DeadLe Γ [⟨0, some (L10.map f32)⟩] ∧ z2 = .inl L10) ?_ ?_
 ·refine RunC.block (RunC.loop (RunL.loopM (x := z2) (i_Matrix_swapRows_02o_s1 a0 a1 a2 a3 a4) (fun (s : (List F) × Int) τ Γ => s.1.length = a4.length ∧ WeakLe τ [(1, i64 a2), (2, i64 a3), (3, ptr [i64 a0, i64 a1, oref 0 0 0 a4.length]), (9, i64 a1), (10, i64 s.2)] ∧ DeadLe Γ [⟨0, some (s.1.map f32)⟩]) ?_ _ _ _ hz_2 ⟨rfl, ⟨aR, aR, aR, aR, aR, trivial⟩, ⟨⟨rfl, .inr rfl⟩, trivial⟩⟩))
  rintro ⟨L1, v3⟩ τ2 Γ2 y2_ ⟨hl2, hw2, hd2⟩ h2_ ho2 hr2
  refine RunC.wl (τ' := [(1, i64 a2), (2, i64 a3), (3, ptr [i64 a0, i64 a1, oref 0 0 0 a4.length]), (9, i64 a1), (10, i64 v3)]) (Γ' := [⟨0, some (L1.map f32)⟩]) hw2 hd2 ?_
  replace hl2 : L1.length = a4.length := hl2
  replace h2_ : i_Matrix_swapRows_02o_b1 a0 a1 a2 a3 a4 L1 v3 = some y2_ := h2_
  unfold i_Matrix_swapRows_02o_b1 at h2_
  refine RunC.seq ?_
  rcases bsel_some h2_ with ⟨hc1, h2_⟩ | ⟨hc1, h2_⟩
  ·refine RunC.regionW ?_
   refine zL (r := b true) rfl rfl rfl (LOp.eqb (LOp.lss rfl rfl rfl) hc1) ?_
   refine zN ?_
   refine RunC.seq ?_
   refine RunC.cond_true rfl rfl ?_
   refine RunC.skip ?_
   refine RunC.seq ?_
   refine RunC.block ?_
   refine zQ ?_
   refine zM (r := i64 v3) rfl rfl rfl rfl rfl ?_
   refine zA (r := i64 v3) rfl rfl rfl rfl rfl ?_
   refine zN ?_
   refine RunC.seq ?_
   obtain ⟨r4, hf2, h2_⟩ := obind_some h2_
   refine RunC.regionW ?_
   refine zL (r := agg [i64 a0, i64 a1, oref 0 0 0 a4.length]) rfl rfl rfl (LOp.loadAgg agg26 siz26 rfl rfl rfl rfl) ?_
   refine zM (r := i64 a2) rfl rfl rfl rfl rfl ?_
   refine zM (r := i64 v3) rfl rfl rfl rfl rfl ?_
   refine ROps.d (r := f32 r4) (fs := []) (Γ' := [⟨0, some (L1.map f32)⟩]) rfl rfl rfl (TOp.callB (CallAs.func ent35 rfl rfl) (Bors.cons (Bor.agg (Bors.cons (Bor.pure rfl) (Bors.cons (Bor.pure rfl) (Bors.cons (Bor.own (f := f32) (fun _ => rfl) rfl hl2) Bors.nil)))) (Bors.cons (Bor.pure rfl) (Bors.cons (Bor.pure rfl) Bors.nil))) rfl rfl (i_Matrix_at_ok a0 a1 L1 a2 v3 r4 hf2)) rfl ?_
   refine zA (r := f32 r4) rfl rfl rfl rfl rfl ?_
   refine zN ?_
   refine RunC.seq ?_
   obtain ⟨r6, hf4, h2_⟩ := obind_some h2_
   obtain ⟨r7, hf5, h2_⟩ := obind_some h2_
   obtain ⟨hn6, h2_⟩ := need_some h2_
   refine RunC.region_draw (Γ' := [⟨0, some (L1.map f32)⟩]) 7 mixed 
    (TR.l (r := agg [i64 a0, i64 a1, oref 0 0 0 a4.length]) rfl rfl (LOp.loadAgg agg26 siz26 rfl rfl rfl rfl) <|
    (TR.l (r := i64 a2) rfl rfl (LOp.move rfl rfl) <|
    (TR.l (r := i64 v3) rfl rfl (LOp.move rfl rfl) <|
    (TR.l (r := agg [i64 a0, i64 a1, oref 0 0 0 a4.length]) rfl rfl (LOp.loadAgg agg26 siz26 rfl rfl rfl rfl) <|
    (TR.l (r := i64 a3) rfl rfl (LOp.move rfl rfl) <|
    (TR.l (r := i64 v3) rfl rfl (LOp.move rfl rfl) <|
    (TR.d (r := f32 r6) (fs := []) rfl rfl (TOp.callB (CallAs.func ent35 rfl rfl) (Bors.cons (Bor.agg (Bors.cons (Bor.pure rfl) (Bors.cons (Bor.pure rfl) (Bors.cons (Bor.own (f := f32) (fun _ => rfl) rfl hl2) Bors.nil)))) (Bors.cons (Bor.pure rfl) (Bors.cons (Bor.pure rfl) Bors.nil))) rfl rfl (i_Matrix_at_ok a0 a1 L1 a3 v3 r6 hf4)) <|
    TR.nil))))))) rfl (by kernel_rfl) rfl fills_nil rfl ?_
   iterate 7 refine ROps.dropS ?_
   refine ROps.drop0 ?_
   refine ROps.callO (A := [agg [i64 a0, i64 a1, oref 0 0 0 a4.length], i64 a2, i64 v3, f32 r6]) (args := [agg [i64 a0, i64 a1, oref 0 0 0 L1.length], i64 a2, i64 v3, f32 r6]) (Γc := [⟨0, some (L1.map f32)⟩]) (Γc' := [⟨0, some (r7.map f32)⟩]) (r' := tup []) (Γ' := [⟨0, some (r7.map f32)⟩]) [(0, 0)] [] rfl (CallAs.func ent71 rfl rfl) rfl rfl (SelOk.of (show List.Nodup [0] from by decide) (SelL.arr0 (f := f32) (fun _ => rfl) rfl trivial)) (live_of ⟨⟨_, _, rfl⟩, trivial⟩) (by simp [ren, rens, sigma, rens_f32, rens_f64, rens_i64, rens_ik, rens_str, rens_cp, hl2]) rfl (i_Matrix_set_02o_ok a0 a1 a2 v3 r6 L1 r7 hf5) rfl (news_of trivial) (show List.Nodup [0] from by decide) (by simp [ren, rens, sigma, of_decide_eq_true hn6]) (by simp [backOb, sigma, ren, rens, rens_f32, rens_f64, rens_i64, rens_ik, rens_str, rens_cp]) ?_
   refine zN ?_
   refine RunC.wl (τ' := [(1, i64 a2), (2, i64 a3), (3, ptr [i64 a0, i64 a1, oref 0 0 0 a4.length]), (6, i64 v3), (7, f32 r4), (9, i64 a1), (10, i64 v3)]) (Γ' := [⟨0, some (r7.map f32)⟩]) ⟨aR, aR, aR, aR, aR, aR, aR, trivial⟩ ⟨⟨rfl, .inr rfl⟩, trivial⟩ ?_
   obtain ⟨r8, hf7, h2_⟩ := obind_some h2_
   obtain ⟨hn8, h2_⟩ := need_some h2_
   refine RunC.regionW ?_
   refine zL (r := agg [i64 a0, i64 a1, oref 0 0 0 a4.length]) rfl rfl rfl (LOp.loadAgg agg26 siz26 rfl rfl rfl rfl) ?_
   refine zM (r := i64 a3) rfl rfl rfl rfl rfl ?_
   refine zM (r := i64 v3) rfl rfl rfl rfl rfl ?_
   refine zM (r := f32 r4) rfl rfl rfl rfl rfl ?_
   refine ROps.callO (A := [agg [i64 a0, i64 a1, oref 0 0 0 a4.length], i64 a3, i64 v3, f32 r4]) (args := [agg [i64 a0, i64 a1, oref 0 0 0 r7.length], i64 a3, i64 v3, f32 r4]) (Γc := [⟨0, some (r7.map f32)⟩]) (Γc' := [⟨0, some (r8.map f32)⟩]) (r' := tup []) (Γ' := [⟨0, some (r8.map f32)⟩]) [(0, 0)] [] rfl (CallAs.func ent71 rfl rfl) rfl rfl (SelOk.of (show List.Nodup [0] from by decide) (SelL.arr0 (f := f32) (fun _ => rfl) rfl trivial)) (live_of ⟨⟨_, _, rfl⟩, trivial⟩) (by simp [ren, rens, sigma, rens_f32, rens_f64, rens_i64, rens_ik, rens_str, rens_cp, (of_decide_eq_true hn6)]) rfl (i_Matrix_set_02o_ok a0 a1 a3 v3 r4 r7 r8 hf7) rfl (news_of trivial) (show List.Nodup [0] from by decide) (by simp [ren, rens, sigma, of_decide_eq_true hn8]) (by simp [backOb, sigma, ren, rens, rens_f32, rens_f64, rens_i64, rens_ik, rens_str, rens_cp]) ?_
   refine zN ?_
   obtain ⟨x9, hx9, h2_⟩ := olet_some h2_
   refine RunC.regionW ?_
   refine zL (r := i64 x9) rfl rfl rfl (LOp.eqr (LOp.add rfl rfl rfl) (congrArg (ik .i64) hx9)) ?_
   refine zM (r := i64 x9) rfl rfl rfl rfl rfl ?_
   refine zN ?_
   cases Option.some.inj h2_
   exact ⟨_, rfl, (of_decide_eq_true hn8), ⟨aR, aR, aR, aR, aR, trivial⟩, ⟨⟨rfl, .inr rfl⟩, trivial⟩⟩
  ·refine RunC.regionW ?_
   refine zL (r := b false) rfl rfl rfl (LOp.eqb (LOp.lss rfl rfl rfl) hc1) ?_
   refine zN ?_
   refine RunC.seq ?_
   refine RunC.cond_false rfl rfl ?_
   refine RunC.exit ?_
   cases Option.some.inj h2_
   have hx := ho2 _ rfl
   exact ⟨L1, hl2, trivial, ⟨⟨rfl, .inr rfl⟩, trivial⟩, hx⟩
 ·rintro τ3 Γ3 ⟨L10, hl11, hw3, hd3, rfl⟩
  replace h : i_Matrix_swapRows_02o_k1 L10 = some q0 := h
  unfold i_Matrix_swapRows_02o_k1 at h
  refine bodyQ.wl hw3 hd3 ?_
  have hq := Option.some.inj h
  subst q0
  exact bodyQ.mk (r' := tup []) [(0, 0)] (.inl rfl) rfl (show List.Nodup [0] from by decide) rfl rfl (Res.zero rfl) (SelL.arr (f := f32) (fun _ => rfl) rfl trivial)
noncomputable def i_swap_0o (a0 : Int) (a1 : Int) (a2 : List Int) : Option ((List Int)) :=
 obind (at? a2 a1) fun (e1 : Int) =>
 obind (at? a2 a0) fun (e2 : Int) =>
 obind (setAt? a2 a0 e1) fun (L3 : List Int) =>
 obind (setAt? L3 a1 e2) fun (L4 : List Int) =>
 some L4
theorem i_swap_0o_ok (a0 : Int) (a1 : Int) (a2 : List Int) (q0 : List Int) (h : i_swap_0o a0 a1 a2 = some q0) : Ev Tryz.prog 85 [oref 0 0 0 a2.length, i64 a0, i64 a1] [⟨0, some (a2.map i64)⟩] (tup []) [⟨0, some (q0.map i64)⟩] := by
 refine Ev.start Tryz.func85 rfl rfl 0 (τ := [(0, oref 0 0 0 a2.length), (1, i64 a0), (2, i64 a1)]) rfl (Γ' := [⟨0, some (a2.map i64)⟩]) rfl (n := 40) rfl (g := 1) rfl (by decide) ?_
 unfold i_swap_0o at h
 obtain ⟨e1, he1, h⟩ := obind_some h
 obtain ⟨e2, he2, h⟩ := obind_some h
 obtain ⟨L3, he3, h⟩ := obind_some h
 obtain ⟨L4, he4, h⟩ := obind_some h
 refine RunC.region_draw (Γ' := [⟨0, some (a2.map i64)⟩]) 13 mixed 
  (TR.l (r := oref 0 0 0 a2.length) rfl rfl (LOp.move rfl rfl) <|
  (TR.l (r := i64 a0) rfl rfl (LOp.move rfl rfl) <|
  (TR.loose (r := oref 0 0 0 a2.length) rfl rfl (LOp.move rfl rfl) <|
  (TR.loose (r := i64 a1) rfl rfl (LOp.move rfl rfl) <|
  (TR.l (r := oref 0 0 0 a2.length) rfl rfl (LOp.move rfl rfl) <|
  (TR.l (r := i64 a1) rfl rfl (LOp.move rfl rfl) <|
  (TR.d (r := optr 0 0 a1.toNat) (fs := []) rfl rfl (TOp.ixo und53 siz2 rfl rfl rfl (at_in he1 rfl) rfl) <|
  (TR.d (r := i64 e1) (fs := []) rfl rfl (TOp.load1_o rfl (at_cell he1) agg2 rfl rfl) <|
  (TR.l (r := oref 0 0 0 a2.length) rfl rfl (LOp.move rfl rfl) <|
  (TR.l (r := i64 a0) rfl rfl (LOp.move rfl rfl) <|
  (TR.d (r := optr 0 0 a0.toNat) (fs := []) rfl rfl (TOp.ixo und53 siz2 rfl rfl rfl (at_in he2 rfl) rfl) <|
  (TR.d (r := i64 e2) (fs := []) rfl rfl (TOp.load1_o rfl (at_cell he2) agg2 rfl rfl) <|
  (TR.d (r := optr 0 0 a0.toNat) (fs := []) rfl rfl (TOp.ixo und53 siz2 rfl rfl rfl (set_in he3 rfl) rfl) <|
  TR.nil))))))))))))) rfl (by kernel_rfl) rfl fills_nil rfl ?_
 iterate 13 refine ROps.dropS ?_
 refine ROps.drop0 ?_
 refine ROps.st (f := i64) (i := a0) (Γ' := [⟨0, some (L3.map i64)⟩]) rfl siz2 rfl rfl rfl aR rfl rfl rfl he3 rfl ?_
 refine ROps.d (r := optr 0 0 a1.toNat) (fs := []) (Γ' := [⟨0, some (L3.map i64)⟩]) rfl rfl rfl (TOp.ixo und53 siz2 rfl rfl rfl (set_in he4 (setAt?_len he3)) rfl) rfl ?_
 refine ROps.st (f := i64) (i := a1) (Γ' := [⟨0, some (L4.map i64)⟩]) rfl siz2 rfl rfl rfl aR rfl rfl rfl he4 rfl ?_
 refine zN ?_
 have hq := Option.some.inj h
 subst q0
 exact bodyQ.mk (r' := tup []) [(0, 0)] (.inl rfl) rfl (show List.Nodup [0] from by decide) rfl rfl (Res.zero rfl) (SelL.arr (f := i64) (fun _ => rfl) rfl trivial)
noncomputable def i_mul (a0 : F) (a1 : F) : Option (F) :=
 olet (fop .mul .f32 a0 a1) fun (x1 : F) =>
 some x1
theorem i_mul_ok (a0 : F) (a1 : F) (q0 : F) (h : i_mul a0 a1 = some q0) : Ev Tryz.prog 34 [f32 a0, f32 a1] [] (f32 q0) [] := by
 refine Ev.start Tryz.func34 rfl rfl 0 (τ := [(0, f32 a0), (1, f32 a1)]) rfl (Γ' := []) rfl (n := 17) rfl (g := 0) rfl (fun _ => rfl) ?_
 unfold i_mul at h
 refine zQ ?_
 refine zL (r := f32 (some 0)) rfl rfl rfl (LOp.le (LOp.assign rfl rfl) (ALe.fl (by kernel_rfl) (by kernel_rfl))) ?_
 refine zN ?_
 refine RunC.seq ?_
 obtain ⟨x1, hx1, h⟩ := olet_some h
 refine RunC.regionW ?_
 refine zM (r := f32 a0) rfl rfl rfl rfl rfl ?_
 refine zM (r := f32 a1) rfl rfl rfl rfl rfl ?_
 refine ROps.d (r := f32 x1) (fs := []) (Γ' := []) rfl rfl rfl (TOp.eqr (TOp.fop (.inr (.inr (.inl rfl))) rfl (OpF.tmp rfl) (OpF.tmp rfl)) (congrArg (f .f32) hx1)) rfl ?_
 refine zA (r := f32 x1) rfl rfl rfl rfl rfl ?_
 refine zN ?_
 refine RunC.ret ?_
 have hq := Option.some.inj h
 subst q0
 exact bodyQ.pure (.inr rfl) rfl (Res.one rfl (RV.tmp rfl))
noncomputable def i_Matrix_eliminate_02o_b2 (a0 : Int) (a1 : Int) (a2 : Int) (a3 : List F) (v4 : Int) (x7 : F) (L10 : List F) (v12 : Int) : Option (LR ((List F) × Int) ((List F)) ((List F))) :=
 bsel (decide (v12 < a1)) (
  obind (i_Matrix_at a0 a1 L10 v4 v12) fun (r17 : F) =>
  obind (i_Matrix_at a0 a1 L10 a2 v12) fun (r18 : F) =>
  obind (i_mul x7 r18) fun (r19 : F) =>
  olet (fop .sub .f32 r17 r19) fun (x20 : F) =>
  obind (i_Matrix_set_02o a0 a1 v4 v12 x20 L10) fun (r21 : List F) =>
  need (decide (r21.length = a3.length)) <|
  olet (IntKind.i64.wrap (v12 + 1)) fun (x22 : Int) =>
  some (LR.next (r21, x22))) (
  some (LR.out L10))
noncomputable def i_Matrix_eliminate_02o_s2 (a0 : Int) (a1 : Int) (a2 : Int) (a3 : List F) (v4 : Int) (x7 : F) : ((List F) × Int) → Option (LR ((List F) × Int) ((List F)) ((List F))) := fun s => i_Matrix_eliminate_02o_b2 a0 a1 a2 a3 v4 x7 s.1 s.2
noncomputable def i_Matrix_eliminate_02o_k2 (v4 : Int) (L23 : List F) : Option (LR ((List F) × Int) ((List F)) ((List F))) :=
 olet (IntKind.i64.wrap (v4 + 1)) fun (x25 : Int) =>
 some (LR.next (L23, x25))
noncomputable def i_Matrix_eliminate_02o_b3 (a0 : Int) (a1 : Int) (a2 : Int) (a3 : List F) (L2 : List F) (v4 : Int) : Option (LR ((List F) × Int) ((List F)) ((List F))) :=
 bsel (decide (v4 < a0)) (
  obind (i_Matrix_at a0 a1 L2 v4 a2) fun (r5 : F) =>
  obind (i_Matrix_at a0 a1 L2 a2 a2) fun (r6 : F) =>
  olet (fop .quo .f32 r5 r6) fun (x7 : F) =>
  obind (i_Matrix_set_02o a0 a1 v4 a2 x7 L2) fun (r8 : List F) =>
  need (decide (r8.length = a3.length)) <|
  olet (IntKind.i64.wrap (a2 + 1)) fun (x9 : Int) =>
  obind (loopM (i_Matrix_eliminate_02o_s2 a0 a1 a2 a3 v4 x7) (r8, x9)) fun z => osum z (fun e => i_Matrix_eliminate_02o_k2 v4 e) (fun r => some (LR.ret r))) (
  some (LR.out L2))
noncomputable def i_Matrix_eliminate_02o_s3 (a0 : Int) (a1 : Int) (a2 : Int) (a3 : List F) : ((List F) × Int) → Option (LR ((List F) × Int) ((List F)) ((List F))) := fun s => i_Matrix_eliminate_02o_b3 a0 a1 a2 a3 s.1 s.2
noncomputable def i_Matrix_eliminate_02o_k3 (L26 : List F) : Option ((List F)) :=
 some L26
noncomputable def i_Matrix_eliminate_02o (a0 : Int) (a1 : Int) (a2 : Int) (a3 : List F) : Option ((List F)) :=
 olet (IntKind.i64.wrap (a2 + 1)) fun (x1 : Int) =>
 obind (loopM (i_Matrix_eliminate_02o_s3 a0 a1 a2 a3) (a3, x1)) fun z => osum z (fun e => i_Matrix_eliminate_02o_k3 e) (fun r => some r)
theorem i_Matrix_eliminate_02o_ok (a0 : Int) (a1 : Int) (a2 : Int) (a3 : List F) (q0 : List F) (h : i_Matrix_eliminate_02o a0 a1 a2 a3 = some q0) : Ev Tryz.prog 86 [agg [i64 a0, i64 a1, oref 0 0 0 a3.length], i64 a2] [⟨0, some (a3.map f32)⟩] (tup []) [⟨0, some (q0.map f32)⟩] := by
 refine Ev.start Tryz.func86 rfl rfl 0 (τ := [(0, agg [i64 a0, i64 a1, oref 0 0 0 a3.length]), (1, i64 a2)]) rfl (Γ' := [⟨0, some (a3.map f32)⟩]) rfl (n := 104) rfl (g := 1) rfl (by decide) ?_
 unfold i_Matrix_eliminate_02o at h
 refine zQ ?_
 refine ROps.d (r := ptr [i64 a0, i64 a1, oref 0 0 0 a3.length]) (fs := []) (Γ' := [⟨0, some (a3.map f32)⟩]) rfl rfl rfl (TOp.box_s rfl rfl rfl) rfl ?_
 refine zN ?_
 refine RunC.seq ?_
 obtain ⟨x1, hx1, h⟩ := olet_some h
 refine RunC.regionW ?_
 refine zM (r := i64 a2) rfl rfl rfl rfl rfl ?_
 refine zL (r := i64 x1) rfl rfl rfl (LOp.eqr (LOp.add rfl rfl rfl) (congrArg (ik .i64) hx1)) ?_
 refine zA (r := i64 x1) rfl rfl rfl rfl rfl ?_
 refine zN ?_
 obtain ⟨z4, hz_4, h⟩ := obind_some h
 refine RunC.cutN (fun τ Γ => ∃ (L26 : List F), L26.length = a3.length ∧ WeakLe τ [] ∧ DeadLe Γ [⟨0, some (L26.map f32)⟩] ∧ z4 = .inl L26) ?_ ?_
 ·refine RunC.block (RunC.loop (RunL.loopM (x := z4) (i_Matrix_eliminate_02o_s3 a0 a1 a2 a3) (fun (s : (List F) × Int) τ Γ => s.1.length = a3.length ∧ WeakLe τ [(1, i64 a2), (2, ptr [i64 a0, i64 a1, oref 0 0 0 a3.length]), (4, i64 s.2)] ∧ DeadLe Γ [⟨0, some (s.1.map f32)⟩]) ?_ _ _ _ hz_4 ⟨rfl, ⟨aR, aR, aR, trivial⟩, ⟨⟨rfl, .inr rfl⟩, trivial⟩⟩))
  rintro ⟨L2, v4⟩ τ4 Γ4 y4_ ⟨hl3, hw4, hd4⟩ h4_ ho4 hr4
  refine RunC.wl (τ' := [(1, i64 a2), (2, ptr [i64 a0, i64 a1, oref 0 0 0 a3.length]), (4, i64 v4)]) (Γ' := [⟨0, some (L2.map f32)⟩]) hw4 hd4 ?_
  replace hl3 : L2.length = a3.length := hl3
  replace h4_ : i_Matrix_eliminate_02o_b3 a0 a1 a2 a3 L2 v4 = some y4_ := h4_
  unfold i_Matrix_eliminate_02o_b3 at h4_
  refine RunC.seq ?_
  refine RunC.seq ?_
  rcases bsel_some h4_ with ⟨hc2, h4_⟩ | ⟨hc2, h4_⟩
  ·refine RunC.regionW ?_
   refine zM (r := i64 v4) rfl rfl rfl rfl rfl ?_
   refine zL (r := ptr [i64 a0, i64 a1, oref 0 0 0 a3.length]) rfl rfl rfl (LOp.fap und26 rfl siz2 rfl rfl rfl) ?_
   refine zL (r := i64 a0) rfl rfl rfl (LOp.load1 agg2 rfl rfl) ?_
   refine zL (r := b true) rfl rfl rfl (LOp.eqb (LOp.lss rfl rfl rfl) hc2) ?_
   refine zN ?_
   refine RunC.cond_true rfl rfl ?_
   refine RunC.skip ?_
   refine RunC.seq ?_
   refine RunC.block ?_
   refine RunC.seq ?_
   obtain ⟨r5, hf3, h4_⟩ := obind_some h4_
   obtain ⟨r6, hf4, h4_⟩ := obind_some h4_
   obtain ⟨x7, hx5, h4_⟩ := olet_some h4_
   refine RunC.region_draw (Γ' := [⟨0, some (L2.map f32)⟩]) 10 mixed 
    (TR.l (r := agg [i64 a0, i64 a1, oref 0 0 0 a3.length]) rfl rfl (LOp.loadAgg agg26 siz26 rfl rfl rfl rfl) <|
    (TR.l (r := i64 v4) rfl rfl (LOp.move rfl rfl) <|
    (TR.l (r := i64 a2) rfl rfl (LOp.move rfl rfl) <|
    (TR.d (r := f32 r5) (fs := []) rfl rfl (TOp.callB (CallAs.func ent35 rfl rfl) (Bors.cons (Bor.agg (Bors.cons (Bor.pure rfl) (Bors.cons (Bor.pure rfl) (Bors.cons (Bor.own (f := f32) (fun _ => rfl) rfl hl3) Bors.nil)))) (Bors.cons (Bor.pure rfl) (Bors.cons (Bor.pure rfl) Bors.nil))) rfl rfl (i_Matrix_at_ok a0 a1 L2 v4 a2 r5 hf3)) <|
    (TR.l (r := agg [i64 a0, i64 a1, oref 0 0 0 a3.length]) rfl rfl (LOp.loadAgg agg26 siz26 rfl rfl rfl rfl) <|
    (TR.l (r := i64 a2) rfl rfl (LOp.move rfl rfl) <|
    (TR.l (r := i64 a2) rfl rfl (LOp.move rfl rfl) <|
    (TR.d (r := f32 r6) (fs := []) rfl rfl (TOp.callB (CallAs.func ent35 rfl rfl) (Bors.cons (Bor.agg (Bors.cons (Bor.pure rfl) (Bors.cons (Bor.pure rfl) (Bors.cons (Bor.own (f := f32) (fun _ => rfl) rfl hl3) Bors.nil)))) (Bors.cons (Bor.pure rfl) (Bors.cons (Bor.pure rfl) Bors.nil))) rfl rfl (i_Matrix_at_ok a0 a1 L2 a2 a2 r6 hf4)) <|
    (TR.d (r := f32 x7) (fs := []) rfl rfl (TOp.eqr (TOp.fop (.inr (.inr (.inr rfl))) rfl (OpF.tmp rfl) (OpF.tmp rfl)) (congrArg (f .f32) hx5)) <|
    (TR.l (r := f32 x7) rfl rfl (LOp.assign rfl rfl) <|
    TR.nil)))))))))) rfl (by kernel_rfl) rfl fills_nil rfl ?_
   iterate 10 refine ROps.dropS ?_
   refine ROps.drop0 ?_
   refine zN ?_
   refine RunC.wl (τ' := [(1, i64 a2), (2, ptr [i64 a0, i64 a1, oref 0 0 0 a3.length]), (4, i64 v4), (5, f32 x7)]) (Γ' := [⟨0, some (L2.map f32)⟩]) ⟨aR, aR, aR, aR, trivial⟩ ⟨⟨rfl, .inr rfl⟩, trivial⟩ ?_
   refine RunC.seq ?_
   obtain ⟨r8, hf6, h4_⟩ := obind_some h4_
   obtain ⟨hn7, h4_⟩ := need_some h4_
   refine RunC.regionW ?_
   refine zL (r := agg [i64 a0, i64 a1, oref 0 0 0 a3.length]) rfl rfl rfl (LOp.loadAgg agg26 siz26 rfl rfl rfl rfl) ?_
   refine zM (r := i64 v4) rfl rfl rfl rfl rfl ?_
   refine zM (r := i64 a2) rfl rfl rfl rfl rfl ?_
   refine zM (r := f32 x7) rfl rfl rfl rfl rfl ?_
   refine ROps.callO (A := [agg [i64 a0, i64 a1, oref 0 0 0 a3.length], i64 v4, i64 a2, f32 x7]) (args := [agg [i64 a0, i64 a1, oref 0 0 0 L2.length], i64 v4, i64 a2, f32 x7]) (Γc := [⟨0, some (L2.map f32)⟩]) (Γc' := [⟨0, some (r8.map f32)⟩]) (r' := tup []) (Γ' := [⟨0, some (r8.map f32)⟩]) [(0, 0)] [] rfl (CallAs.func ent71 rfl rfl) rfl rfl (SelOk.of (show List.Nodup [0] from by decide) (SelL.arr0 (f := f32) (fun _ => rfl) rfl trivial)) (live_of ⟨⟨_, _, rfl⟩, trivial⟩) (by simp [ren, rens, sigma, rens_f32, rens_f64, rens_i64, rens_ik, rens_str, rens_cp, hl3]) rfl (i_Matrix_set_02o_ok a0 a1 v4 a2 x7 L2 r8 hf6) rfl (news_of trivial) (show List.Nodup [0] from by decide) (by simp [ren, rens, sigma, of_decide_eq_true hn7]) (by simp [backOb, sigma, ren, rens, rens_f32, rens_f64, rens_i64, rens_ik, rens_str, rens_cp]) ?_
   refine zN ?_
   refine RunC.seq ?_
   obtain ⟨x9, hx8, h4_⟩ := olet_some h4_
   refine RunC.regionW ?_
   refine zM (r := i64 a2) rfl rfl rfl rfl rfl ?_
   refine zL (r := i64 x9) rfl rfl rfl (LOp.eqr (LOp.add rfl rfl rfl) (congrArg (ik .i64) hx8)) ?_
   refine zA (r := i64 x9) rfl rfl rfl rfl rfl ?_
   refine zN ?_
   obtain ⟨z5, hz_5, h4_⟩ := obind_some h4_
   refine RunC.cutN (fun τ Γ => ∃ (L23 : List F), L23.length = a3.length ∧ WeakLe τ [(1, i64 a2), (2, ptr [i64 a0, i64 a1, oref 0 0 0 a3.length]), (4, i64 v4)] ∧ DeadLe Γ [⟨0, some (L23.map f32)⟩] ∧ z5 = .inl L23) ?_ ?_
   ·refine RunC.block (RunC.loop (RunL.loopM (x := z5) (i_Matrix_eliminate_02o_s2 a0 a1 a2 a3 v4 x7) (fun (s : (List F) × Int) τ Γ => s.1.length = a3.length ∧ WeakLe τ [(1, i64 a2), (2, ptr [i64 a0, i64 a1, oref 0 0 0 a3.length]), (4, i64 v4), (5, f32 x7), (6, i64 s.2)] ∧ DeadLe Γ [⟨0, some (s.1.map f32)⟩]) ?_ _ _ _ hz_5 ⟨(of_decide_eq_true hn7), ⟨aR, aR, aR, aR, aR, trivial⟩, ⟨⟨rfl, .inr rfl⟩, trivial⟩⟩))
    rintro ⟨L10, v12⟩ τ5 Γ5 y5_ ⟨hl11, hw5, hd5⟩ h5_ ho5 hr5
    refine RunC.wl (τ' := [(1, i64 a2), (2, ptr [i64 a0, i64 a1, oref 0 0 0 a3.length]), (4, i64 v4), (5, f32 x7), (6, i64 v12)]) (Γ' := [⟨0, some (L10.map f32)⟩]) hw5 hd5 ?_
    replace hl11 : L10.length = a3.length := hl11
    replace h5_ : i_Matrix_eliminate_02o_b2 a0 a1 a2 a3 v4 x7 L10 v12 = some y5_ := h5_
    unfold i_Matrix_eliminate_02o_b2 at h5_
    refine RunC.seq ?_
    refine RunC.seq ?_
    rcases bsel_some h5_ with ⟨hc9, h5_⟩ | ⟨hc9, h5_⟩
    ·refine RunC.regionW ?_
     refine zM (r := i64 v12) rfl rfl rfl rfl rfl ?_
     refine zL (r := ptr [i64 a1, oref 0 0 0 a3.length]) rfl rfl rfl (LOp.fap und26 rfl siz2 rfl rfl rfl) ?_
     refine zL (r := i64 a1) rfl rfl rfl (LOp.load1 agg2 rfl rfl) ?_
     refine zL (r := b true) rfl rfl rfl (LOp.eqb (LOp.lss rfl rfl rfl) hc9) ?_
     refine zN ?_
     refine RunC.cond_true rfl rfl ?_
     refine RunC.skip ?_
     refine RunC.seq ?_
     refine RunC.block ?_
     obtain ⟨r17, hf14, h5_⟩ := obind_some h5_
     obtain ⟨r18, hf15, h5_⟩ := obind_some h5_
     obtain ⟨r19, hf16, h5_⟩ := obind_some h5_
     obtain ⟨x20, hx17, h5_⟩ := olet_some h5_
     obtain ⟨r21, hf18, h5_⟩ := obind_some h5_
     obtain ⟨hn19, h5_⟩ := need_some h5_
     refine RunC.region_draw (Γ' := [⟨0, some (L10.map f32)⟩]) 14 mixed 
      (TR.l (r := agg [i64 a0, i64 a1, oref 0 0 0 a3.length]) rfl rfl (LOp.loadAgg agg26 siz26 rfl rfl rfl rfl) <|
      (TR.l (r := i64 v4) rfl rfl (LOp.move rfl rfl) <|
      (TR.l (r := i64 v12) rfl rfl (LOp.move rfl rfl) <|
      (TR.l (r := agg [i64 a0, i64 a1, oref 0 0 0 a3.length]) rfl rfl (LOp.loadAgg agg26 siz26 rfl rfl rfl rfl) <|
      (TR.l (r := i64 v4) rfl rfl (LOp.move rfl rfl) <|
      (TR.l (r := i64 v12) rfl rfl (LOp.move rfl rfl) <|
      (TR.d (r := f32 r17) (fs := []) rfl rfl (TOp.callB (CallAs.func ent35 rfl rfl) (Bors.cons (Bor.agg (Bors.cons (Bor.pure rfl) (Bors.cons (Bor.pure rfl) (Bors.cons (Bor.own (f := f32) (fun _ => rfl) rfl hl11) Bors.nil)))) (Bors.cons (Bor.pure rfl) (Bors.cons (Bor.pure rfl) Bors.nil))) rfl rfl (i_Matrix_at_ok a0 a1 L10 v4 v12 r17 hf14)) <|
      (TR.l (r := f32 x7) rfl rfl (LOp.move rfl rfl) <|
      (TR.l (r := agg [i64 a0, i64 a1, oref 0 0 0 a3.length]) rfl rfl (LOp.loadAgg agg26 siz26 rfl rfl rfl rfl) <|
      (TR.l (r := i64 a2) rfl rfl (LOp.move rfl rfl) <|
      (TR.l (r := i64 v12) rfl rfl (LOp.move rfl rfl) <|
      (TR.d (r := f32 r18) (fs := []) rfl rfl (TOp.callB (CallAs.func ent35 rfl rfl) (Bors.cons (Bor.agg (Bors.cons (Bor.pure rfl) (Bors.cons (Bor.pure rfl) (Bors.cons (Bor.own (f := f32) (fun _ => rfl) rfl hl11) Bors.nil)))) (Bors.cons (Bor.pure rfl) (Bors.cons (Bor.pure rfl) Bors.nil))) rfl rfl (i_Matrix_at_ok a0 a1 L10 a2 v12 r18 hf15)) <|
      (TR.d (r := f32 r19) (fs := []) rfl rfl (TOp.callB (CallAs.func ent34 rfl rfl) (Bors.cons (Bor.pure rfl) (Bors.cons (Bor.pure rfl) Bors.nil)) rfl rfl (i_mul_ok x7 r18 r19 hf16)) <|
      (TR.d (r := f32 x20) (fs := []) rfl rfl (TOp.eqr (TOp.fop (.inr (.inl rfl)) rfl (OpF.tmp rfl) (OpF.tmp rfl)) (congrArg (f .f32) hx17)) <|
      TR.nil)))))))))))))) rfl (by kernel_rfl) rfl fills_nil rfl ?_
     iterate 14 refine ROps.dropS ?_
     refine ROps.drop0 ?_
     refine ROps.callO (A := [agg [i64 a0, i64 a1, oref 0 0 0 a3.length], i64 v4, i64 v12, f32 x20]) (args := [agg [i64 a0, i64 a1, oref 0 0 0 L10.length], i64 v4, i64 v12, f32 x20]) (Γc := [⟨0, some (L10.map f32)⟩]) (Γc' := [⟨0, some (r21.map f32)⟩]) (r' := tup []) (Γ' := [⟨0, some (r21.map f32)⟩]) [(0, 0)] [] rfl (CallAs.func ent71 rfl rfl) rfl rfl (SelOk.of (show List.Nodup [0] from by decide) (SelL.arr0 (f := f32) (fun _ => rfl) rfl trivial)) (live_of ⟨⟨_, _, rfl⟩, trivial⟩) (by simp [ren, rens, sigma, rens_f32, rens_f64, rens_i64, rens_ik, rens_str, rens_cp, hl11]) rfl (i_Matrix_set_02o_ok a0 a1 v4 v12 x20 L10 r21 hf18) rfl (news_of trivial) (show List.Nodup [0] from by decide) (by simp [ren, rens, sigma, of_decide_eq_true hn19]) (by simp [backOb, sigma, ren, rens, rens_f32, rens_f64, rens_i64, rens_ik, rens_str, rens_cp]) ?_
     refine zN ?_
     refine RunC.wl (τ' := [(1, i64 a2), (2, ptr [i64 a0, i64 a1, oref 0 0 0 a3.length]), (4, i64 v4), (5, f32 x7), (6, i64 v12)]) (Γ' := [⟨0, some (r21.map f32)⟩]) ⟨aR, aR, aR, aR, aR, trivial⟩ ⟨⟨rfl, .inr rfl⟩, trivial⟩ ?_
     obtain ⟨x22, hx20, h5_⟩ := olet_some h5_
     refine RunC.regionW ?_
     refine zM (r := i64 v12) rfl rfl rfl rfl rfl ?_
     refine zL (r := i64 x22) rfl rfl rfl (LOp.eqr (LOp.add rfl rfl rfl) (congrArg (ik .i64) hx20)) ?_
     refine zA (r := i64 x22) rfl rfl rfl rfl rfl ?_
     refine zN ?_
     cases Option.some.inj h5_
     exact ⟨_, rfl, (of_decide_eq_true hn19), ⟨aR, aR, aR, aR, aR, trivial⟩, ⟨⟨rfl, .inr rfl⟩, trivial⟩⟩
    ·refine RunC.regionW ?_
     refine zM (r := i64 v12) rfl rfl rfl rfl rfl ?_
     refine zL (r := ptr [i64 a1, oref 0 0 0 a3.length]) rfl rfl rfl (LOp.fap und26 rfl siz2 rfl rfl rfl) ?_
     refine zL (r := i64 a1) rfl rfl rfl (LOp.load1 agg2 rfl rfl) ?_
     refine zL (r := b false) rfl rfl rfl (LOp.eqb (LOp.lss rfl rfl rfl) hc9) ?_
     refine zN ?_
     refine RunC.cond_false rfl rfl ?_
     refine RunC.exit ?_
     cases Option.some.inj h5_
     have hx := ho5 _ rfl
     exact ⟨L10, hl11, ⟨aR, aR, aR, trivial⟩, ⟨⟨rfl, .inr rfl⟩, trivial⟩, hx⟩
   ·rintro τ6 Γ6 ⟨L23, hl24, hw6, hd6, rfl⟩
    refine RunC.wl hw6 hd6 ?_
    replace h4_ : i_Matrix_eliminate_02o_k2 v4 L23 = some y4_ := h4_
    unfold i_Matrix_eliminate_02o_k2 at h4_
    obtain ⟨x25, hx21, h4_⟩ := olet_some h4_
    refine RunC.regionW ?_
    refine zM (r := i64 v4) rfl rfl rfl rfl rfl ?_
    refine zL (r := i64 x25) rfl rfl rfl (LOp.eqr (LOp.add rfl rfl rfl) (congrArg (ik .i64) hx21)) ?_
    refine zA (r := i64 x25) rfl rfl rfl rfl rfl ?_
    refine zN ?_
    cases Option.some.inj h4_
    exact ⟨_, rfl, hl24, ⟨aR, aR, aR, trivial⟩, ⟨⟨rfl, .inr rfl⟩, trivial⟩⟩
  ·refine RunC.regionW ?_
   refine zM (r := i64 v4) rfl rfl rfl rfl rfl ?_
   refine zL (r := ptr [i64 a0, i64 a1, oref 0 0 0 a3.length]) rfl rfl rfl (LOp.fap und26 rfl siz2 rfl rfl rfl) ?_
   refine zL (r := i64 a0) rfl rfl rfl (LOp.load1 agg2 rfl rfl) ?_
   refine zL (r := b false) rfl rfl rfl (LOp.eqb (LOp.lss rfl rfl rfl) hc2) ?_
   refine zN ?_
   refine RunC.cond_false rfl rfl ?_
   refine RunC.exit ?_
   cases Option.some.inj h4_
   have hx := ho4 _ rfl
   exact ⟨L2, hl3, trivial, ⟨⟨rfl, .inr rfl⟩, trivial⟩, hx⟩
 ·rintro τ7 Γ7 ⟨L26, hl27, hw7, hd7, rfl⟩
  replace h : i_Matrix_eliminate_02o_k3 L26 = some q0 := h
  unfold i_Matrix_eliminate_02o_k3 at h
  refine bodyQ.wl hw7 hd7 ?_
  have hq := Option.some.inj h
  subst q0
  exact bodyQ.mk (r' := tup []) [(0, 0)] (.inl rfl) rfl (show List.Nodup [0] from by decide) rfl rfl (Res.zero rfl) (SelL.arr (f := f32) (fun _ => rfl) rfl trivial)
noncomputable def i_FactorRows_k7 (v12 : Int) (v17 : Int) : Option (LR (Int × Int) (Int) (Int × Int × Bool × (List F) × (List Int))) :=
 olet (IntKind.i64.wrap (v12 + 1)) fun (x20 : Int) =>
 some (LR.next (v17, x20))
noncomputable def i_FactorRows_b8 (a0 : Int) (r2 : Int) (r3 : Int) (L6 : List F) (v10 : Int) (v11 : Int) (v12 : Int) : Option (LR (Int × Int) (Int) (Int × Int × Bool × (List F) × (List Int))) :=
 bsel (decide (v12 < a0)) (
  obind (i_Matrix_at r2 r3 L6 v12 v10) fun (r13 : F) =>
  obind (i_absolute r13) fun (r14 : F) =>
  obind (i_Matrix_at r2 r3 L6 v11 v10) fun (r15 : F) =>
  obind (i_absolute r15) fun (r16 : F) =>
  bsel (flt .f32 r16 r14) (
   i_FactorRows_k7 v12 v12) (
   i_FactorRows_k7 v12 v11)) (
  some (LR.out v11))
noncomputable def i_FactorRows_s8 (a0 : Int) (r2 : Int) (r3 : Int) (L6 : List F) (v10 : Int) : (Int × Int) → Option (LR (Int × Int) (Int) (Int × Int × Bool × (List F) × (List Int))) := fun s => i_FactorRows_b8 a0 r2 r3 L6 v10 s.1 s.2
noncomputable def i_FactorRows_k8 (r2 : Int) (r3 : Int) (r4 : List F) (r5 : List Int) (L6 : List F) (L8 : List Int) (v10 : Int) (v23 : Int) : Option (LR ((List F) × (List Int) × Int) ((List F) × (List Int)) (Int × Int × Bool × (List F) × (List Int))) :=
 obind (i_Matrix_at r2 r3 L6 v23 v10) fun (r24 : F) =>
 bsel (feq .f32 r24 (some 0)) (
  some (LR.ret (0, 0, false, ([] : List F), ([] : List Int)))) (
  obind (i_Matrix_swapRows_02o r2 r3 v23 v10 L6) fun (r25 : List F) =>
  need (decide (r25.length = r4.length)) <|
  obind (i_swap_0o v23 v10 L8) fun (r26 : List Int) =>
  need (decide (r26.length = r5.length)) <|
  obind (i_Matrix_eliminate_02o r2 r3 v10 r25) fun (r27 : List F) =>
  need (decide (r27.length = r4.length)) <|
  obind (i_ValidMatrix r2 r3 r27) fun (r28 : Bool) =>
  bsel r28 (
   olet (IntKind.i64.wrap (v10 + 1)) fun (x29 : Int) =>
   some (LR.next (r27, r26, x29))) (
   some (LR.ret (0, 0, false, ([] : List F), ([] : List Int)))))
noncomputable def i_FactorRows_b9 (a0 : Int) (r2 : Int) (r3 : Int) (r4 : List F) (r5 : List Int) (L6 : List F) (L8 : List Int) (v10 : Int) : Option (LR ((List F) × (List Int) × Int) ((List F) × (List Int)) (Int × Int × Bool × (List F) × (List Int))) :=
 bsel (decide (v10 < a0)) (
  obind (loopM (i_FactorRows_s8 a0 r2 r3 L6 v10) (v10, v10)) fun z => osum z (fun e => i_FactorRows_k8 r2 r3 r4 r5 L6 L8 v10 e) (fun r => some (LR.ret r))) (
  some (LR.out (L6, L8)))
noncomputable def i_FactorRows_s9 (a0 : Int) (r2 : Int) (r3 : Int) (r4 : List F) (r5 : List Int) : ((List F) × (List Int) × Int) → Option (LR ((List F) × (List Int) × Int) ((List F) × (List Int)) (Int × Int × Bool × (List F) × (List Int))) := fun s => i_FactorRows_b9 a0 r2 r3 r4 r5 s.1 s.2.1 s.2.2
noncomputable def i_FactorRows_k9 (r2 : Int) (r3 : Int) (L30 : List F) (L32 : List Int) : Option (Int × Int × Bool × (List F) × (List Int)) :=
 some (r2, r3, true, L30, L32)
noncomputable def i_FactorRows (a0 : Int) (a1 : Int) (a2 : List F) : Option (Int × Int × Bool × (List F) × (List Int)) :=
 obind (i_isSquare a0 a1 a2) fun (r1 : Bool) =>
 bsel r1 (
  obind3 (i_Matrix_clone a0 a1 a2) fun (r2 : Int) (r3 : Int) (r4 : List F) =>
  obind (i_ascending a0) fun (r5 : List Int) =>
  obind (loopM (i_FactorRows_s9 a0 r2 r3 r4 r5) (r4, r5, 0)) fun z => osum z (fun e => i_FactorRows_k9 r2 r3 e.1 e.2) (fun r => some r)) (
  some (0, 0, false, ([] : List F), ([] : List Int)))
theorem i_FactorRows_ok (a0 : Int) (a1 : Int) (a2 : List F) (q0 : Int) (q1 : Int) (q2 : Bool) (q3 : List F) (q4 : List Int) (h : i_FactorRows a0 a1 a2 = some (q0, q1, q2, q3, q4)) : Ev Tryz.prog 44 [agg [i64 a0, i64 a1, sl a2.length (a2.map f32)]] [] (tup [agg [i64 q0, i64 q1, oref 0 0 0 q3.length, oref 1 0 0 q4.length], b q2]) [⟨0, some (q3.map f32)⟩, ⟨0, some (q4.map i64)⟩] := by
 refine Ev.start Tryz.func44 rfl rfl 6 (τ := [(0, agg [i64 a0, i64 a1, sl a2.length (a2.map f32)])]) rfl (Γ' := [⟨0, none⟩, ⟨0, none⟩, ⟨0, none⟩, ⟨0, none⟩, ⟨0, none⟩, ⟨0, none⟩]) rfl (n := 147) rfl (g := 0) rfl (fun _ => rfl) ?_
 unfold i_FactorRows at h
 refine zQ ?_
 refine ROps.d (r := ptr [i64 a0, i64 a1, sl a2.length (a2.map f32)]) (fs := []) (Γ' := [⟨0, none⟩, ⟨0, none⟩, ⟨0, none⟩, ⟨0, none⟩, ⟨0, none⟩, ⟨0, none⟩]) rfl rfl rfl (TOp.box_s rfl rfl rfl) rfl ?_
 refine ROps.d (r := optr 0 1 0) (fs := [(0, [i64 0, i64 0, nilsl, nilsl])]) (Γ' := [⟨1, some [i64 0, i64 0, nilsl, nilsl]⟩, ⟨0, none⟩, ⟨0, none⟩, ⟨0, none⟩, ⟨0, none⟩, ⟨0, none⟩]) rfl rfl rfl (TOp.alloc_o (g := ⟨0, none⟩) 0 rfl zer65 zok65 rfl) rfl ?_
 refine zA (r := b false) rfl rfl rfl rfl rfl ?_
 refine zN ?_
 refine RunC.seq ?_
 refine RunC.seq ?_
 obtain ⟨r1, hf1, h⟩ := obind_some h
 rcases bsel_some h with ⟨hc2, h⟩ | ⟨hc2, h⟩
 ·refine RunC.regionW ?_
  refine zL (r := agg [i64 a0, i64 a1, sl a2.length (a2.map f32)]) rfl rfl rfl (LOp.loadAgg agg26 siz26 rfl rfl rfl rfl) ?_
  refine ROps.d (r := b true) (fs := []) (Γ' := [⟨1, some [i64 0, i64 0, nilsl, nilsl]⟩, ⟨0, none⟩, ⟨0, none⟩, ⟨0, none⟩, ⟨0, none⟩, ⟨0, none⟩]) rfl rfl rfl (TOp.eqb (TOp.callB (CallAs.func ent82 rfl rfl) (Bors.cons (Bor.agg (Bors.cons (Bor.pure rfl) (Bors.cons (Bor.pure rfl) (Bors.cons (Bor.sl (fun _ => rfl)) Bors.nil)))) Bors.nil) rfl rfl (i_isSquare_ok a0 a1 a2 r1 hf1)) hc2) rfl ?_
  refine zL (r := b false) rfl rfl rfl (LOp.eqb (LOp.not rfl rfl) rfl) ?_
  refine zN ?_
  refine RunC.cond_false rfl rfl ?_
  refine RunC.skip ?_
  refine RunC.seq ?_
  obtain ⟨r2, r3, r4, hf3, h⟩ := obind3_some h
  obtain ⟨r5, hf4, h⟩ := obind_some h
  refine RunC.region_draw (Γ' := [⟨1, some [i64 0, i64 0, nilsl, nilsl]⟩, ⟨1, some (r4.map f32)⟩, ⟨1, some (r5.map i64)⟩, ⟨1, some [i64 0, i64 0, nilsl, nilsl]⟩, ⟨0, none⟩, ⟨0, none⟩]) 7 mixed 
   (TR.l (r := agg [i64 a0, i64 a1, sl a2.length (a2.map f32)]) rfl rfl (LOp.loadAgg agg26 siz26 rfl rfl rfl rfl) <|
   (TR.d (r := agg [i64 r2, i64 r3, oref 1 1 0 r4.length]) (fs := [(1, (r4.map f32))]) rfl rfl (TOp.callBN (ls := [(r4.map f32)]) [1] (CallAs.func ent58 rfl rfl) (Bors.cons (Bor.agg (Bors.cons (Bor.pure rfl) (Bors.cons (Bor.pure rfl) (Bors.cons (Bor.sl (fun _ => rfl)) Bors.nil)))) Bors.nil) rfl (i_Matrix_clone_ok a0 a1 a2 r2 r3 r4 hf3) (and_all (lts0_map (f := f32) (fun _ => rfl) _) rfl) (and_all (noss_map (f := f32) (fun _ => rfl) _) rfl) rfl (by decide) (ns_of ⟨⟨_, rfl⟩, trivial⟩)) <|
   (TR.l (r := ptr [i64 a0, i64 a1, sl a2.length (a2.map f32)]) rfl rfl (LOp.fap und26 rfl siz2 rfl rfl rfl) <|
   (TR.l (r := i64 a0) rfl rfl (LOp.load1 agg2 rfl rfl) <|
   (TR.d (r := oref 2 1 0 r5.length) (fs := [(2, (r5.map i64))]) rfl rfl (TOp.callBN (ls := [(r5.map i64)]) [2] (CallAs.func ent27 rfl rfl) (Bors.cons (Bor.pure rfl) Bors.nil) rfl (i_ascending_ok a0 r5 hf4) (and_all (lts0_map (f := i64) (fun _ => rfl) _) rfl) (and_all (noss_map (f := i64) (fun _ => rfl) _) rfl) rfl (by decide) (ns_of ⟨⟨_, rfl⟩, trivial⟩)) <|
   (TR.l (r := agg [i64 r2, i64 r3, oref 1 1 0 r4.length, oref 2 1 0 r5.length]) rfl rfl (LOp.build (qs := [(0, [i64 r2, i64 r3, oref 1 1 0 r4.length]), (1, [oref 2 1 0 r5.length])]) zer65 zok65 und65 plc65 rfl ⟨rfl, ⟨_, ALe.refl _, rfl⟩, ⟨rfl, ⟨_, ALe.refl _, rfl⟩, trivial⟩⟩ rfl) <|
   (TR.d (r := optr 3 1 0) (fs := [(3, [i64 0, i64 0, nilsl, nilsl])]) rfl rfl (TOp.alloc_o (g := ⟨0, none⟩) 3 rfl zer65 zok65 rfl) <|
   TR.nil))))))) rfl (by kernel_rfl) rfl (fills_of (by show List.Nodup [1, 2, 3]; decide) ⟨⟨_, rfl⟩, ⟨_, rfl⟩, ⟨_, rfl⟩, trivial⟩) rfl ?_
  iterate 7 refine ROps.dropS ?_
  refine ROps.drop0 ?_
  refine ROps.store_le (r := agg [i64 r2, i64 r3, oref 1 1 0 r4.length, oref 2 1 0 r5.length]) (l' := [i64 r2, i64 r3, oref 1 1 0 r4.length, oref 2 1 0 r5.length]) (Γ' := [⟨1, some [i64 0, i64 0, nilsl, nilsl]⟩, ⟨1, some (r4.map f32)⟩, ⟨1, some (r5.map i64)⟩, ⟨1, some [i64 r2, i64 r3, oref 1 1 0 r4.length, oref 2 1 0 r5.length]⟩, ⟨0, none⟩, ⟨0, none⟩]) rfl siz65 rfl rfl rfl aR rfl rfl rfl rfl (Nat.le_of_ble_eq_true rfl) rfl rfl ?_
  refine zN ?_
  refine RunC.seq ?_
  refine zQ ?_
  refine zL (r := ptr [i64 a0, i64 a1, sl a2.length (a2.map f32)]) rfl rfl rfl (LOp.fap und26 rfl siz2 rfl rfl rfl) ?_
  refine zL (r := i64 a0) rfl rfl rfl (LOp.load1 agg2 rfl rfl) ?_
  refine zM (r := i64 0) rfl rfl rfl rfl rfl ?_
  refine zN ?_
  obtain ⟨z10, hz_10, h⟩ := obind_some h
  refine RunC.cutN (fun τ Γ => ∃ (L30 : List F) (L32 : List Int), L30.length = r4.length ∧ L32.length = r5.length ∧ WeakLe τ [(2, optr 0 1 0), (4, optr 3 1 0)] ∧ DeadLe Γ [⟨1, some [i64 0, i64 0, nilsl, nilsl]⟩, ⟨1, some (L30.map f32)⟩, ⟨1, some (L32.map i64)⟩, ⟨1, some [i64 r2, i64 r3, oref 1 1 0 r4.length, oref 2 1 0 r5.length]⟩, ⟨0, none⟩, ⟨0, none⟩] ∧ z10 = .inl (L30, L32)) ?_ ?_
  ·refine RunC.block (RunC.loop (RunL.loopM (x := z10) (i_FactorRows_s9 a0 r2 r3 r4 r5) (fun (s : (List F) × (List Int) × Int) τ Γ => s.1.length = r4.length ∧ s.2.1.length = r5.length ∧ WeakLe τ [(1, ptr [i64 a0, i64 a1, sl a2.length (a2.map f32)]), (2, optr 0 1 0), (4, optr 3 1 0), (19, i64 a0), (20, i64 s.2.2)] ∧ DeadLe Γ [⟨1, some [i64 0, i64 0, nilsl, nilsl]⟩, ⟨1, some (s.1.map f32)⟩, ⟨1, some (s.2.1.map i64)⟩, ⟨1, some [i64 r2, i64 r3, oref 1 1 0 r4.length, oref 2 1 0 r5.length]⟩, ⟨0, none⟩, ⟨0, none⟩]) ?_ _ _ _ hz_10 ⟨rfl, rfl, ⟨aR, aR, aR, aR, aR, trivial⟩, ⟨⟨rfl, .inr rfl⟩, ⟨rfl, .inr rfl⟩, ⟨rfl, .inr rfl⟩, ⟨rfl, .inr rfl⟩, ⟨rfl, .inr rfl⟩, ⟨rfl, .inr rfl⟩, trivial⟩⟩))
   rintro ⟨L6, L8, v10⟩ τ10 Γ10 y10_ ⟨hl7, hl9, hw10, hd10⟩ h10_ ho10 hr10
   refine RunC.wl (τ' := [(1, ptr [i64 a0, i64 a1, sl a2.length (a2.map f32)]), (2, optr 0 1 0), (4, optr 3 1 0), (19, i64 a0), (20, i64 v10)]) (Γ' := [⟨1, some [i64 0, i64 0, nilsl, nilsl]⟩, ⟨1, some (L6.map f32)⟩, ⟨1, some (L8.map i64)⟩, ⟨1, some [i64 r2, i64 r3, oref 1 1 0 r4.length, oref 2 1 0 r5.length]⟩, ⟨0, none⟩, ⟨0, none⟩]) hw10 hd10 ?_
   replace hl7 : L6.length = r4.length := hl7
   replace hl9 : L8.length = r5.length := hl9
   replace h10_ : i_FactorRows_b9 a0 r2 r3 r4 r5 L6 L8 v10 = some y10_ := h10_
   unfold i_FactorRows_b9 at h10_
   refine RunC.seq ?_
   rcases bsel_some h10_ with ⟨hc5, h10_⟩ | ⟨hc5, h10_⟩
   ·refine RunC.regionW ?_
    refine zL (r := b true) rfl rfl rfl (LOp.eqb (LOp.lss rfl rfl rfl) hc5) ?_
    refine zN ?_
    refine RunC.seq ?_
    refine RunC.cond_true rfl rfl ?_
    refine RunC.skip ?_
    refine RunC.seq ?_
    refine RunC.block ?_
    refine zQ ?_
    refine zM (r := i64 v10) rfl rfl rfl rfl rfl ?_
    refine zA (r := i64 v10) rfl rfl rfl rfl rfl ?_
    refine zN ?_
    refine zQ ?_
    refine zM (r := i64 v10) rfl rfl rfl rfl rfl ?_
    refine zA (r := i64 v10) rfl rfl rfl rfl rfl ?_
    refine zN ?_
    refine RunC.seq ?_
    refine zQ ?_
    refine zM (r := i64 v10) rfl rfl rfl rfl rfl ?_
    refine zA (r := i64 v10) rfl rfl rfl rfl rfl ?_
    refine zN ?_
    obtain ⟨z11, hz_11, h10_⟩ := obind_some h10_
    refine RunC.cutN (fun τ Γ => ∃ (v23 : Int), L6.length = r4.length ∧ L8.length = r5.length ∧ WeakLe τ [(1, ptr [i64 a0, i64 a1, sl a2.length (a2.map f32)]), (2, optr 0 1 0), (4, optr 3 1 0), (5, i64 v10), (6, i64 v23), (19, i64 a0), (20, i64 v10)] ∧ DeadLe Γ [⟨1, some [i64 0, i64 0, nilsl, nilsl]⟩, ⟨1, some (L6.map f32)⟩, ⟨1, some (L8.map i64)⟩, ⟨1, some [i64 r2, i64 r3, oref 1 1 0 r4.length, oref 2 1 0 r5.length]⟩, ⟨0, none⟩, ⟨0, none⟩] ∧ z11 = .inl v23) ?_ ?_
    ·refine RunC.block (RunC.loop (RunL.loopM (x := z11) (i_FactorRows_s8 a0 r2 r3 L6 v10) (fun (s : Int × Int) τ Γ => WeakLe τ [(1, ptr [i64 a0, i64 a1, sl a2.length (a2.map f32)]), (2, optr 0 1 0), (4, optr 3 1 0), (5, i64 v10), (6, i64 s.1), (7, i64 s.2), (19, i64 a0), (20, i64 v10)] ∧ DeadLe Γ [⟨1, some [i64 0, i64 0, nilsl, nilsl]⟩, ⟨1, some (L6.map f32)⟩, ⟨1, some (L8.map i64)⟩, ⟨1, some [i64 r2, i64 r3, oref 1 1 0 r4.length, oref 2 1 0 r5.length]⟩, ⟨0, none⟩, ⟨0, none⟩]) ?_ _ _ _ hz_11 ⟨⟨aR, aR, aR, aR, aR, aR, aR, aR, trivial⟩, ⟨⟨rfl, .inr rfl⟩, ⟨rfl, .inr rfl⟩, ⟨rfl, .inr rfl⟩, ⟨rfl, .inr rfl⟩, ⟨rfl, .inr rfl⟩, ⟨rfl, .inr rfl⟩, trivial⟩⟩))
     rintro ⟨v11, v12⟩ τ11 Γ11 y11_ ⟨hw11, hd11⟩ h11_ ho11 hr11
     refine RunC.wl (τ' := [(1, ptr [i64 a0, i64 a1, sl a2.length (a2.map f32)]), (2, optr 0 1 0), (4, optr 3 1 0), (5, i64 v10), (6, i64 v11), (7, i64 v12), (19, i64 a0), (20, i64 v10)]) (Γ' := [⟨1, some [i64 0, i64 0, nilsl, nilsl]⟩, ⟨1, some (L6.map f32)⟩, ⟨1, some (L8.map i64)⟩, ⟨1, some [i64 r2, i64 r3, oref 1 1 0 r4.length, oref 2 1 0 r5.length]⟩, ⟨0, none⟩, ⟨0, none⟩]) hw11 hd11 ?_
     replace h11_ : i_FactorRows_b8 a0 r2 r3 L6 v10 v11 v12 = some y11_ := h11_
     unfold i_FactorRows_b8 at h11_
     refine RunC.seq ?_
     refine RunC.seq ?_
     rcases bsel_some h11_ with ⟨hc6, h11_⟩ | ⟨hc6, h11_⟩
     ·refine RunC.regionW ?_
      refine zM (r := i64 v12) rfl rfl rfl rfl rfl ?_
      refine zL (r := ptr [i64 a0, i64 a1, sl a2.length (a2.map f32)]) rfl rfl rfl (LOp.fap und26 rfl siz2 rfl rfl rfl) ?_
      refine zL (r := i64 a0) rfl rfl rfl (LOp.load1 agg2 rfl rfl) ?_
      refine zL (r := b true) rfl rfl rfl (LOp.eqb (LOp.lss rfl rfl rfl) hc6) ?_
      refine zN ?_
      refine RunC.cond_true rfl rfl ?_
      refine RunC.skip ?_
      refine RunC.seq ?_
      refine RunC.cutN (fun τ Γ => ∃ (v17 : Int), L6.length = r4.length ∧ L8.length = r5.length ∧ WeakLe τ [(1, ptr [i64 a0, i64 a1, sl a2.length (a2.map f32)]), (2, optr 0 1 0), (4, optr 3 1 0), (5, i64 v10), (6, i64 v17), (7, i64 v12), (19, i64 a0), (20, i64 v10)] ∧ DeadLe Γ [⟨1, some [i64 0, i64 0, nilsl, nilsl]⟩, ⟨1, some (L6.map f32)⟩, ⟨1, some (L8.map i64)⟩, ⟨1, some [i64 r2, i64 r3, oref 1 1 0 r4.length, oref 2 1 0 r5.length]⟩, ⟨0, none⟩, ⟨0, none⟩] ∧ i_FactorRows_k7 v12 v17 = some y11_) ?_ ?_
      ·refine RunC.block ?_
       refine RunC.seq ?_
       obtain ⟨r13, hf7, h11_⟩ := obind_some h11_
       obtain ⟨r14, hf8, h11_⟩ := obind_some h11_
       obtain ⟨r15, hf9, h11_⟩ := obind_some h11_
       obtain ⟨r16, hf10, h11_⟩ := obind_some h11_
       rcases bsel_some h11_ with ⟨hc11, h11_⟩ | ⟨hc11, h11_⟩
       ·refine RunC.region_draw (Γ' := [⟨1, some [i64 0, i64 0, nilsl, nilsl]⟩, ⟨1, some (L6.map f32)⟩, ⟨1, some (L8.map i64)⟩, ⟨1, some [i64 r2, i64 r3, oref 1 1 0 r4.length, oref 2 1 0 r5.length]⟩, ⟨0, none⟩, ⟨0, none⟩]) 13 mixed 
         (TR.l (r := optr 3 1 0) rfl rfl (LOp.fao und65 rfl siz26 rfl rfl rfl) <|
         (TR.d (r := agg [i64 r2, i64 r3, oref 1 1 0 r4.length]) (fs := []) rfl rfl (TOp.loadAgg_o rfl agg26 siz26 rfl rfl rfl rfl) <|
         (TR.l (r := i64 v12) rfl rfl (LOp.move rfl rfl) <|
         (TR.l (r := i64 v10) rfl rfl (LOp.move rfl rfl) <|
         (TR.d (r := f32 r13) (fs := []) rfl rfl (TOp.callB (CallAs.func ent35 rfl rfl) (Bors.cons (Bor.agg (Bors.cons (Bor.pure rfl) (Bors.cons (Bor.pure rfl) (Bors.cons (Bor.own (f := f32) (fun _ => rfl) rfl hl7) Bors.nil)))) (Bors.cons (Bor.pure rfl) (Bors.cons (Bor.pure rfl) Bors.nil))) rfl rfl (i_Matrix_at_ok r2 r3 L6 v12 v10 r13 hf7)) <|
         (TR.d (r := f32 r14) (fs := []) rfl rfl (TOp.callB (CallAs.func ent83 rfl rfl) (Bors.cons (Bor.pure rfl) Bors.nil) rfl rfl (i_absolute_ok r13 r14 hf8)) <|
         (TR.l (r := optr 3 1 0) rfl rfl (LOp.fao und65 rfl siz26 rfl rfl rfl) <|
         (TR.d (r := agg [i64 r2, i64 r3, oref 1 1 0 r4.length]) (fs := []) rfl rfl (TOp.loadAgg_o rfl agg26 siz26 rfl rfl rfl rfl) <|
         (TR.l (r := i64 v11) rfl rfl (LOp.move rfl rfl) <|
         (TR.l (r := i64 v10) rfl rfl (LOp.move rfl rfl) <|
         (TR.d (r := f32 r15) (fs := []) rfl rfl (TOp.callB (CallAs.func ent35 rfl rfl) (Bors.cons (Bor.agg (Bors.cons (Bor.pure rfl) (Bors.cons (Bor.pure rfl) (Bors.cons (Bor.own (f := f32) (fun _ => rfl) rfl hl7) Bors.nil)))) (Bors.cons (Bor.pure rfl) (Bors.cons (Bor.pure rfl) Bors.nil))) rfl rfl (i_Matrix_at_ok r2 r3 L6 v11 v10 r15 hf9)) <|
         (TR.d (r := f32 r16) (fs := []) rfl rfl (TOp.callB (CallAs.func ent83 rfl rfl) (Bors.cons (Bor.pure rfl) Bors.nil) rfl rfl (i_absolute_ok r15 r16 hf10)) <|
         (TR.l (r := b true) rfl rfl (LOp.eqb (LOp.fgt rfl (OpF.tmp rfl) (OpF.tmp rfl)) hc11) <|
         TR.nil))))))))))))) rfl (by kernel_rfl) rfl fills_nil rfl ?_
        iterate 13 refine ROps.dropS ?_
        refine ROps.drop0 ?_
        refine zN ?_
        refine RunC.wl (τ' := [(1, ptr [i64 a0, i64 a1, sl a2.length (a2.map f32)]), (2, optr 0 1 0), (4, optr 3 1 0), (5, i64 v10), (6, i64 v11), (7, i64 v12), (19, i64 a0), (20, i64 v10), (43, b true)]) (Γ' := [⟨1, some [i64 0, i64 0, nilsl, nilsl]⟩, ⟨1, some (L6.map f32)⟩, ⟨1, some (L8.map i64)⟩, ⟨1, some [i64 r2, i64 r3, oref 1 1 0 r4.length, oref 2 1 0 r5.length]⟩, ⟨0, none⟩, ⟨0, none⟩]) ⟨aR, aR, aR, aR, aR, aR, aR, aR, aR, trivial⟩ ⟨⟨rfl, .inr rfl⟩, ⟨rfl, .inr rfl⟩, ⟨rfl, .inr rfl⟩, ⟨rfl, .inr rfl⟩, ⟨rfl, .inr rfl⟩, ⟨rfl, .inr rfl⟩, trivial⟩ ?_
        refine RunC.cond_true rfl rfl ?_
        refine RunC.regionW ?_
        refine zM (r := i64 v12) rfl rfl rfl rfl rfl ?_
        refine zA (r := i64 v12) rfl rfl rfl rfl rfl ?_
        refine zN ?_
        exact ⟨v12, hl7, hl9, ⟨aR, aR, aR, aR, aR, aR, aR, aR, trivial⟩, ⟨⟨rfl, .inr rfl⟩, ⟨rfl, .inr rfl⟩, ⟨rfl, .inr rfl⟩, ⟨rfl, .inr rfl⟩, ⟨rfl, .inr rfl⟩, ⟨rfl, .inr rfl⟩, trivial⟩, h11_⟩
       ·refine RunC.region_draw (Γ' := [⟨1, some [i64 0, i64 0, nilsl, nilsl]⟩, ⟨1, some (L6.map f32)⟩, ⟨1, some (L8.map i64)⟩, ⟨1, some [i64 r2, i64 r3, oref 1 1 0 r4.length, oref 2 1 0 r5.length]⟩, ⟨0, none⟩, ⟨0, none⟩]) 13 mixed 
         (TR.l (r := optr 3 1 0) rfl rfl (LOp.fao und65 rfl siz26 rfl rfl rfl) <|
         (TR.d (r := agg [i64 r2, i64 r3, oref 1 1 0 r4.length]) (fs := []) rfl rfl (TOp.loadAgg_o rfl agg26 siz26 rfl rfl rfl rfl) <|
         (TR.l (r := i64 v12) rfl rfl (LOp.move rfl rfl) <|
         (TR.l (r := i64 v10) rfl rfl (LOp.move rfl rfl) <|
         (TR.d (r := f32 r13) (fs := []) rfl rfl (TOp.callB (CallAs.func ent35 rfl rfl) (Bors.cons (Bor.agg (Bors.cons (Bor.pure rfl) (Bors.cons (Bor.pure rfl) (Bors.cons (Bor.own (f := f32) (fun _ => rfl) rfl hl7) Bors.nil)))) (Bors.cons (Bor.pure rfl) (Bors.cons (Bor.pure rfl) Bors.nil))) rfl rfl (i_Matrix_at_ok r2 r3 L6 v12 v10 r13 hf7)) <|
         (TR.d (r := f32 r14) (fs := []) rfl rfl (TOp.callB (CallAs.func ent83 rfl rfl) (Bors.cons (Bor.pure rfl) Bors.nil) rfl rfl (i_absolute_ok r13 r14 hf8)) <|
         (TR.l (r := optr 3 1 0) rfl rfl (LOp.fao und65 rfl siz26 rfl rfl rfl) <|
         (TR.d (r := agg [i64 r2, i64 r3, oref 1 1 0 r4.length]) (fs := []) rfl rfl (TOp.loadAgg_o rfl agg26 siz26 rfl rfl rfl rfl) <|
         (TR.l (r := i64 v11) rfl rfl (LOp.move rfl rfl) <|
         (TR.l (r := i64 v10) rfl rfl (LOp.move rfl rfl) <|
         (TR.d (r := f32 r15) (fs := []) rfl rfl (TOp.callB (CallAs.func ent35 rfl rfl) (Bors.cons (Bor.agg (Bors.cons (Bor.pure rfl) (Bors.cons (Bor.pure rfl) (Bors.cons (Bor.own (f := f32) (fun _ => rfl) rfl hl7) Bors.nil)))) (Bors.cons (Bor.pure rfl) (Bors.cons (Bor.pure rfl) Bors.nil))) rfl rfl (i_Matrix_at_ok r2 r3 L6 v11 v10 r15 hf9)) <|
         (TR.d (r := f32 r16) (fs := []) rfl rfl (TOp.callB (CallAs.func ent83 rfl rfl) (Bors.cons (Bor.pure rfl) Bors.nil) rfl rfl (i_absolute_ok r15 r16 hf10)) <|
         (TR.l (r := b false) rfl rfl (LOp.eqb (LOp.fgt rfl (OpF.tmp rfl) (OpF.tmp rfl)) hc11) <|
         TR.nil))))))))))))) rfl (by kernel_rfl) rfl fills_nil rfl ?_
        iterate 13 refine ROps.dropS ?_
        refine ROps.drop0 ?_
        refine zN ?_
        refine RunC.wl (τ' := [(1, ptr [i64 a0, i64 a1, sl a2.length (a2.map f32)]), (2, optr 0 1 0), (4, optr 3 1 0), (5, i64 v10), (6, i64 v11), (7, i64 v12), (19, i64 a0), (20, i64 v10), (43, b false)]) (Γ' := [⟨1, some [i64 0, i64 0, nilsl, nilsl]⟩, ⟨1, some (L6.map f32)⟩, ⟨1, some (L8.map i64)⟩, ⟨1, some [i64 r2, i64 r3, oref 1 1 0 r4.length, oref 2 1 0 r5.length]⟩, ⟨0, none⟩, ⟨0, none⟩]) ⟨aR, aR, aR, aR, aR, aR, aR, aR, aR, trivial⟩ ⟨⟨rfl, .inr rfl⟩, ⟨rfl, .inr rfl⟩, ⟨rfl, .inr rfl⟩, ⟨rfl, .inr rfl⟩, ⟨rfl, .inr rfl⟩, ⟨rfl, .inr rfl⟩, trivial⟩ ?_
        refine RunC.cond_false rfl rfl ?_
        refine RunC.skip ?_
        exact ⟨v11, hl7, hl9, ⟨aR, aR, aR, aR, aR, aR, aR, aR, trivial⟩, ⟨⟨rfl, .inr rfl⟩, ⟨rfl, .inr rfl⟩, ⟨rfl, .inr rfl⟩, ⟨rfl, .inr rfl⟩, ⟨rfl, .inr rfl⟩, ⟨rfl, .inr rfl⟩, trivial⟩, h11_⟩
      ·rintro τ12 Γ12 ⟨v17, hl18, hl19, hw12, hd12, h11_⟩
       refine RunC.wl hw12 hd12 ?_
       unfold i_FactorRows_k7 at h11_
       obtain ⟨x20, hx12, h11_⟩ := olet_some h11_
       refine RunC.regionW ?_
       refine zM (r := i64 v12) rfl rfl rfl rfl rfl ?_
       refine zL (r := i64 x20) rfl rfl rfl (LOp.eqr (LOp.add rfl rfl rfl) (congrArg (ik .i64) hx12)) ?_
       refine zA (r := i64 x20) rfl rfl rfl rfl rfl ?_
       refine zN ?_
       cases Option.some.inj h11_
       exact ⟨_, rfl, ⟨aR, aR, aR, aR, aR, aR, aR, aR, trivial⟩, ⟨⟨rfl, .inr rfl⟩, ⟨rfl, .inr rfl⟩, ⟨rfl, .inr rfl⟩, ⟨rfl, .inr rfl⟩, ⟨rfl, .inr rfl⟩, ⟨rfl, .inr rfl⟩, trivial⟩⟩
     ·refine RunC.regionW ?_
      refine zM (r := i64 v12) rfl rfl rfl rfl rfl ?_
      refine zL (r := ptr [i64 a0, i64 a1, sl a2.length (a2.map f32)]) rfl rfl rfl (LOp.fap und26 rfl siz2 rfl rfl rfl) ?_
      refine zL (r := i64 a0) rfl rfl rfl (LOp.load1 agg2 rfl rfl) ?_
      refine zL (r := b false) rfl rfl rfl (LOp.eqb (LOp.lss rfl rfl rfl) hc6) ?_
      refine zN ?_
      refine RunC.cond_false rfl rfl ?_
      refine RunC.exit ?_
      cases Option.some.inj h11_
      have hx := ho11 _ rfl
      exact ⟨v11, hl7, hl9, ⟨aR, aR, aR, aR, aR, aR, aR, trivial⟩, ⟨⟨rfl, .inr rfl⟩, ⟨rfl, .inr rfl⟩, ⟨rfl, .inr rfl⟩, ⟨rfl, .inr rfl⟩, ⟨rfl, .inr rfl⟩, ⟨rfl, .inr rfl⟩, trivial⟩, hx⟩
    ·rintro τ13 Γ13 ⟨v23, hl21, hl22, hw13, hd13, rfl⟩
     refine RunC.wl hw13 hd13 ?_
     replace h10_ : i_FactorRows_k8 r2 r3 r4 r5 L6 L8 v10 v23 = some y10_ := h10_
     unfold i_FactorRows_k8 at h10_
     refine RunC.seq ?_
     refine RunC.seq ?_
     obtain ⟨r24, hf13, h10_⟩ := obind_some h10_
     rcases bsel_some h10_ with ⟨hc14, h10_⟩ | ⟨hc14, h10_⟩
     ·refine RunC.regionW ?_
      refine zL (r := optr 3 1 0) rfl rfl rfl (LOp.fao und65 rfl siz26 rfl rfl rfl) ?_
      refine ROps.d (r := agg [i64 r2, i64 r3, oref 1 1 0 r4.length]) (fs := []) (Γ' := [⟨1, some [i64 0, i64 0, nilsl, nilsl]⟩, ⟨1, some (L6.map f32)⟩, ⟨1, some (L8.map i64)⟩, ⟨1, some [i64 r2, i64 r3, oref 1 1 0 r4.length, oref 2 1 0 r5.length]⟩, ⟨0, none⟩, ⟨0, none⟩]) rfl rfl rfl (TOp.loadAgg_o rfl agg26 siz26 rfl rfl rfl rfl) rfl ?_
      refine zM (r := i64 v23) rfl rfl rfl rfl rfl ?_
      refine zM (r := i64 v10) rfl rfl rfl rfl rfl ?_
      refine ROps.d (r := f32 r24) (fs := []) (Γ' := [⟨1, some [i64 0, i64 0, nilsl, nilsl]⟩, ⟨1, some (L6.map f32)⟩, ⟨1, some (L8.map i64)⟩, ⟨1, some [i64 r2, i64 r3, oref 1 1 0 r4.length, oref 2 1 0 r5.length]⟩, ⟨0, none⟩, ⟨0, none⟩]) rfl rfl rfl (TOp.callB (CallAs.func ent35 rfl rfl) (Bors.cons (Bor.agg (Bors.cons (Bor.pure rfl) (Bors.cons (Bor.pure rfl) (Bors.cons (Bor.own (f := f32) (fun _ => rfl) rfl hl21) Bors.nil)))) (Bors.cons (Bor.pure rfl) (Bors.cons (Bor.pure rfl) Bors.nil))) rfl rfl (i_Matrix_at_ok r2 r3 L6 v23 v10 r24 hf13)) rfl ?_
      refine zL (r := b true) rfl rfl rfl (LOp.eqb (LOp.feq rfl (OpF.tmp rfl) (OpF.const rfl (by kernel_rfl) (by kernel_rfl))) hc14) ?_
      refine zN ?_
      refine RunC.cond_true rfl rfl ?_
      refine zQ ?_
      refine zL (r := agg [i64 0, i64 0, nilsl, nilsl]) rfl rfl rfl (LOp.build (qs := []) zer65 zok65 und65 plc65 rfl trivial rfl) ?_
      refine ROps.store_le (r := agg [i64 0, i64 0, nilsl, nilsl]) (l' := [i64 0, i64 0, nilsl, nilsl]) (Γ' := [⟨1, some [i64 0, i64 0, nilsl, nilsl]⟩, ⟨1, some (L6.map f32)⟩, ⟨1, some (L8.map i64)⟩, ⟨1, some [i64 r2, i64 r3, oref 1 1 0 r4.length, oref 2 1 0 r5.length]⟩, ⟨0, none⟩, ⟨0, none⟩]) rfl siz65 rfl rfl rfl aR rfl rfl rfl rfl (Nat.le_of_ble_eq_true rfl) rfl rfl ?_
      refine zA (r := b false) rfl rfl rfl rfl rfl ?_
      refine zN ?_
      refine RunC.nil_cell (l' := [i64 0, i64 0, oref 4 1 0 0, nilsl]) (Γ' := [⟨1, some [i64 0, i64 0, oref 4 1 0 0, nilsl]⟩, ⟨1, some (L6.map f32)⟩, ⟨1, some (L8.map i64)⟩, ⟨1, some [i64 r2, i64 r3, oref 1 1 0 r4.length, oref 2 1 0 r5.length]⟩, ⟨1, some (([] : List F).map f32)⟩, ⟨0, none⟩]) 0 2 4 rfl rfl rfl rfl rfl ?_
      refine RunC.nil_cell (l' := [i64 0, i64 0, oref 4 1 0 0, oref 5 1 0 0]) (Γ' := [⟨1, some [i64 0, i64 0, oref 4 1 0 0, oref 5 1 0 0]⟩, ⟨1, some (L6.map f32)⟩, ⟨1, some (L8.map i64)⟩, ⟨1, some [i64 r2, i64 r3, oref 1 1 0 r4.length, oref 2 1 0 r5.length]⟩, ⟨1, some (([] : List F).map f32)⟩, ⟨1, some (([] : List Int).map i64)⟩]) 0 3 5 rfl rfl rfl rfl rfl ?_
      refine RunC.ret ?_
      cases Option.some.inj h10_
      have hx14_ := hr10 _ rfl
      subst hx14_
      have hq := Option.some.inj h
      obtain ⟨hq0, hq⟩ := Prod.mk.inj hq
      obtain ⟨hq1, hq⟩ := Prod.mk.inj hq
      obtain ⟨hq2, hq⟩ := Prod.mk.inj hq
      obtain ⟨hq3, hq⟩ := Prod.mk.inj hq
      subst q0
      subst q1
      subst q2
      subst q3
      subst q4
      exact bodyQ.mk (r' := tup [agg [i64 0, i64 0, oref 4 1 0 (([] : List F).length), oref 5 1 0 (([] : List Int).length)], b false]) [(4, 1), (5, 1)] (.inr rfl) rfl (show List.Nodup [4, 5] from by decide) rfl rfl (Res.eq (Res.two rfl (RV.cell agg65 siz65 rfl rfl rfl rfl) (RV.tmp rfl)) (by rw [(show ([] : List F).length = 0 from rfl), (show ([] : List Int).length = 0 from rfl)] <;> rfl)) (SelL.arr0 (f := f32) (fun _ => rfl) rfl (SelL.arr0 (f := i64) (fun _ => rfl) rfl trivial))
     ·refine RunC.regionW ?_
      refine zL (r := optr 3 1 0) rfl rfl rfl (LOp.fao und65 rfl siz26 rfl rfl rfl) ?_
      refine ROps.d (r := agg [i64 r2, i64 r3, oref 1 1 0 r4.length]) (fs := []) (Γ' := [⟨1, some [i64 0, i64 0, nilsl, nilsl]⟩, ⟨1, some (L6.map f32)⟩, ⟨1, some (L8.map i64)⟩, ⟨1, some [i64 r2, i64 r3, oref 1 1 0 r4.length, oref 2 1 0 r5.length]⟩, ⟨0, none⟩, ⟨0, none⟩]) rfl rfl rfl (TOp.loadAgg_o rfl agg26 siz26 rfl rfl rfl rfl) rfl ?_
      refine zM (r := i64 v23) rfl rfl rfl rfl rfl ?_
      refine zM (r := i64 v10) rfl rfl rfl rfl rfl ?_
      refine ROps.d (r := f32 r24) (fs := []) (Γ' := [⟨1, some [i64 0, i64 0, nilsl, nilsl]⟩, ⟨1, some (L6.map f32)⟩, ⟨1, some (L8.map i64)⟩, ⟨1, some [i64 r2, i64 r3, oref 1 1 0 r4.length, oref 2 1 0 r5.length]⟩, ⟨0, none⟩, ⟨0, none⟩]) rfl rfl rfl (TOp.callB (CallAs.func ent35 rfl rfl) (Bors.cons (Bor.agg (Bors.cons (Bor.pure rfl) (Bors.cons (Bor.pure rfl) (Bors.cons (Bor.own (f := f32) (fun _ => rfl) rfl hl21) Bors.nil)))) (Bors.cons (Bor.pure rfl) (Bors.cons (Bor.pure rfl) Bors.nil))) rfl rfl (i_Matrix_at_ok r2 r3 L6 v23 v10 r24 hf13)) rfl ?_
      refine zL (r := b false) rfl rfl rfl (LOp.eqb (LOp.feq rfl (OpF.tmp rfl) (OpF.const rfl (by kernel_rfl) (by kernel_rfl))) hc14) ?_
      refine zN ?_
      refine RunC.cond_false rfl rfl ?_
      refine RunC.skip ?_
      refine RunC.seq ?_
      obtain ⟨r25, hf15, h10_⟩ := obind_some h10_
      obtain ⟨hn16, h10_⟩ := need_some h10_
      refine RunC.regionW ?_
      refine zL (r := optr 3 1 0) rfl rfl rfl (LOp.fao und65 rfl siz26 rfl rfl rfl) ?_
      refine ROps.d (r := agg [i64 r2, i64 r3, oref 1 1 0 r4.length]) (fs := []) (Γ' := [⟨1, some [i64 0, i64 0, nilsl, nilsl]⟩, ⟨1, some (L6.map f32)⟩, ⟨1, some (L8.map i64)⟩, ⟨1, some [i64 r2, i64 r3, oref 1 1 0 r4.length, oref 2 1 0 r5.length]⟩, ⟨0, none⟩, ⟨0, none⟩]) rfl rfl rfl (TOp.loadAgg_o rfl agg26 siz26 rfl rfl rfl rfl) rfl ?_
      refine zM (r := i64 v23) rfl rfl rfl rfl rfl ?_
      refine zM (r := i64 v10) rfl rfl rfl rfl rfl ?_
      refine ROps.callO (A := [agg [i64 r2, i64 r3, oref 1 1 0 r4.length], i64 v23, i64 v10]) (args := [agg [i64 r2, i64 r3, oref 0 0 0 L6.length], i64 v23, i64 v10]) (Γc := [⟨0, some (L6.map f32)⟩]) (Γc' := [⟨0, some (r25.map f32)⟩]) (r' := tup []) (Γ' := [⟨1, some [i64 0, i64 0, nilsl, nilsl]⟩, ⟨1, some (r25.map f32)⟩, ⟨1, some (L8.map i64)⟩, ⟨1, some [i64 r2, i64 r3, oref 1 1 0 r4.length, oref 2 1 0 r5.length]⟩, ⟨0, none⟩, ⟨0, none⟩]) [(1, 1)] [] rfl (CallAs.func ent84 rfl rfl) rfl rfl (SelOk.of (show List.Nodup [1] from by decide) (SelL.arr0 (f := f32) (fun _ => rfl) rfl trivial)) (live_of ⟨⟨_, _, rfl⟩, trivial⟩) (by simp [ren, rens, sigma, rens_f32, rens_f64, rens_i64, rens_ik, rens_str, rens_cp, hl21]) rfl (i_Matrix_swapRows_02o_ok r2 r3 v23 v10 L6 r25 hf15) rfl (news_of trivial) (show List.Nodup [1] from by decide) (by simp [ren, rens, sigma, of_decide_eq_true hn16]) (by simp [backOb, sigma, ren, rens, rens_f32, rens_f64, rens_i64, rens_ik, rens_str, rens_cp]) ?_
      refine zN ?_
      refine RunC.seq ?_
      obtain ⟨r26, hf17, h10_⟩ := obind_some h10_
      obtain ⟨hn18, h10_⟩ := need_some h10_
      refine RunC.regionW ?_
      refine zL (r := optr 3 1 3) rfl rfl rfl (LOp.fao und65 rfl siz53 rfl rfl rfl) ?_
      refine ROps.d (r := oref 2 1 0 r5.length) (fs := []) (Γ' := [⟨1, some [i64 0, i64 0, nilsl, nilsl]⟩, ⟨1, some (r25.map f32)⟩, ⟨1, some (L8.map i64)⟩, ⟨1, some [i64 r2, i64 r3, oref 1 1 0 r4.length, oref 2 1 0 r5.length]⟩, ⟨0, none⟩, ⟨0, none⟩]) rfl rfl rfl (TOp.load1_o rfl rfl agg53 rfl rfl) rfl ?_
      refine zM (r := i64 v23) rfl rfl rfl rfl rfl ?_
      refine zM (r := i64 v10) rfl rfl rfl rfl rfl ?_
      refine ROps.callO (A := [oref 2 1 0 r5.length, i64 v23, i64 v10]) (args := [oref 0 0 0 L8.length, i64 v23, i64 v10]) (Γc := [⟨0, some (L8.map i64)⟩]) (Γc' := [⟨0, some (r26.map i64)⟩]) (r' := tup []) (Γ' := [⟨1, some [i64 0, i64 0, nilsl, nilsl]⟩, ⟨1, some (r25.map f32)⟩, ⟨1, some (r26.map i64)⟩, ⟨1, some [i64 r2, i64 r3, oref 1 1 0 r4.length, oref 2 1 0 r5.length]⟩, ⟨0, none⟩, ⟨0, none⟩]) [(2, 1)] [] rfl (CallAs.func ent85 rfl rfl) rfl rfl (SelOk.of (show List.Nodup [2] from by decide) (SelL.arr0 (f := i64) (fun _ => rfl) rfl trivial)) (live_of ⟨⟨_, _, rfl⟩, trivial⟩) (by simp [ren, rens, sigma, rens_f32, rens_f64, rens_i64, rens_ik, rens_str, rens_cp, hl22]) rfl (i_swap_0o_ok v23 v10 L8 r26 hf17) rfl (news_of trivial) (show List.Nodup [2] from by decide) (by simp [ren, rens, sigma, of_decide_eq_true hn18]) (by simp [backOb, sigma, ren, rens, rens_f32, rens_f64, rens_i64, rens_ik, rens_str, rens_cp]) ?_
      refine zN ?_
      refine RunC.wl (τ' := [(1, ptr [i64 a0, i64 a1, sl a2.length (a2.map f32)]), (2, optr 0 1 0), (4, optr 3 1 0), (5, i64 v10), (19, i64 a0), (20, i64 v10)]) (Γ' := [⟨1, some [i64 0, i64 0, nilsl, nilsl]⟩, ⟨1, some (r25.map f32)⟩, ⟨1, some (r26.map i64)⟩, ⟨1, some [i64 r2, i64 r3, oref 1 1 0 r4.length, oref 2 1 0 r5.length]⟩, ⟨0, none⟩, ⟨0, none⟩]) ⟨aR, aR, aR, aR, aR, aR, trivial⟩ ⟨⟨rfl, .inr rfl⟩, ⟨rfl, .inr rfl⟩, ⟨rfl, .inr rfl⟩, ⟨rfl, .inr rfl⟩, ⟨rfl, .inr rfl⟩, ⟨rfl, .inr rfl⟩, trivial⟩ ?_
      refine RunC.seq ?_
      obtain ⟨r27, hf19, h10_⟩ := obind_some h10_
      obtain ⟨hn20, h10_⟩ := need_some h10_
      refine RunC.regionW ?_
      refine zL (r := optr 3 1 0) rfl rfl rfl (LOp.fao und65 rfl siz26 rfl rfl rfl) ?_
      refine ROps.d (r := agg [i64 r2, i64 r3, oref 1 1 0 r4.length]) (fs := []) (Γ' := [⟨1, some [i64 0, i64 0, nilsl, nilsl]⟩, ⟨1, some (r25.map f32)⟩, ⟨1, some (r26.map i64)⟩, ⟨1, some [i64 r2, i64 r3, oref 1 1 0 r4.length, oref 2 1 0 r5.length]⟩, ⟨0, none⟩, ⟨0, none⟩]) rfl rfl rfl (TOp.loadAgg_o rfl agg26 siz26 rfl rfl rfl rfl) rfl ?_
      refine zM (r := i64 v10) rfl rfl rfl rfl rfl ?_
      refine ROps.callO (A := [agg [i64 r2, i64 r3, oref 1 1 0 r4.length], i64 v10]) (args := [agg [i64 r2, i64 r3, oref 0 0 0 r25.length], i64 v10]) (Γc := [⟨0, some (r25.map f32)⟩]) (Γc' := [⟨0, some (r27.map f32)⟩]) (r' := tup []) (Γ' := [⟨1, some [i64 0, i64 0, nilsl, nilsl]⟩, ⟨1, some (r27.map f32)⟩, ⟨1, some (r26.map i64)⟩, ⟨1, some [i64 r2, i64 r3, oref 1 1 0 r4.length, oref 2 1 0 r5.length]⟩, ⟨0, none⟩, ⟨0, none⟩]) [(1, 1)] [] rfl (CallAs.func ent86 rfl rfl) rfl rfl (SelOk.of (show List.Nodup [1] from by decide) (SelL.arr0 (f := f32) (fun _ => rfl) rfl trivial)) (live_of ⟨⟨_, _, rfl⟩, trivial⟩) (by simp [ren, rens, sigma, rens_f32, rens_f64, rens_i64, rens_ik, rens_str, rens_cp, (of_decide_eq_true hn16)]) rfl (i_Matrix_eliminate_02o_ok r2 r3 v10 r25 r27 hf19) rfl (news_of trivial) (show List.Nodup [1] from by decide) (by simp [ren, rens, sigma, of_decide_eq_true hn20]) (by simp [backOb, sigma, ren, rens, rens_f32, rens_f64, rens_i64, rens_ik, rens_str, rens_cp]) ?_
      refine zN ?_
      refine RunC.seq ?_
      obtain ⟨r28, hf21, h10_⟩ := obind_some h10_
      rcases bsel_some h10_ with ⟨hc22, h10_⟩ | ⟨hc22, h10_⟩
      ·refine RunC.regionW ?_
       refine zL (r := optr 3 1 0) rfl rfl rfl (LOp.fao und65 rfl siz26 rfl rfl rfl) ?_
       refine ROps.d (r := agg [i64 r2, i64 r3, oref 1 1 0 r4.length]) (fs := []) (Γ' := [⟨1, some [i64 0, i64 0, nilsl, nilsl]⟩, ⟨1, some (r27.map f32)⟩, ⟨1, some (r26.map i64)⟩, ⟨1, some [i64 r2, i64 r3, oref 1 1 0 r4.length, oref 2 1 0 r5.length]⟩, ⟨0, none⟩, ⟨0, none⟩]) rfl rfl rfl (TOp.loadAgg_o rfl agg26 siz26 rfl rfl rfl rfl) rfl ?_
       refine ROps.d (r := b true) (fs := []) (Γ' := [⟨1, some [i64 0, i64 0, nilsl, nilsl]⟩, ⟨1, some (r27.map f32)⟩, ⟨1, some (r26.map i64)⟩, ⟨1, some [i64 r2, i64 r3, oref 1 1 0 r4.length, oref 2 1 0 r5.length]⟩, ⟨0, none⟩, ⟨0, none⟩]) rfl rfl rfl (TOp.eqb (TOp.callB (CallAs.func ent65 rfl rfl) (Bors.cons (Bor.agg (Bors.cons (Bor.pure rfl) (Bors.cons (Bor.pure rfl) (Bors.cons (Bor.own (f := f32) (fun _ => rfl) rfl (of_decide_eq_true hn20)) Bors.nil)))) Bors.nil) rfl rfl (i_ValidMatrix_ok r2 r3 r27 r28 hf21)) hc22) rfl ?_
       refine zL (r := b false) rfl rfl rfl (LOp.eqb (LOp.not rfl rfl) rfl) ?_
       refine zN ?_
       refine RunC.cond_false rfl rfl ?_
       refine RunC.skip ?_
       obtain ⟨x29, hx23, h10_⟩ := olet_some h10_
       refine RunC.regionW ?_
       refine zL (r := i64 x29) rfl rfl rfl (LOp.eqr (LOp.add rfl rfl rfl) (congrArg (ik .i64) hx23)) ?_
       refine zM (r := i64 x29) rfl rfl rfl rfl rfl ?_
       refine zN ?_
       cases Option.some.inj h10_
       exact ⟨_, rfl, (of_decide_eq_true hn20), (of_decide_eq_true hn18), ⟨aR, aR, aR, aR, aR, trivial⟩, ⟨⟨rfl, .inr rfl⟩, ⟨rfl, .inr rfl⟩, ⟨rfl, .inr rfl⟩, ⟨rfl, .inr rfl⟩, ⟨rfl, .inr rfl⟩, ⟨rfl, .inr rfl⟩, trivial⟩⟩
      ·refine RunC.regionW ?_
       refine zL (r := optr 3 1 0) rfl rfl rfl (LOp.fao und65 rfl siz26 rfl rfl rfl) ?_
       refine ROps.d (r := agg [i64 r2, i64 r3, oref 1 1 0 r4.length]) (fs := []) (Γ' := [⟨1, some [i64 0, i64 0, nilsl, nilsl]⟩, ⟨1, some (r27.map f32)⟩, ⟨1, some (r26.map i64)⟩, ⟨1, some [i64 r2, i64 r3, oref 1 1 0 r4.length, oref 2 1 0 r5.length]⟩, ⟨0, none⟩, ⟨0, none⟩]) rfl rfl rfl (TOp.loadAgg_o rfl agg26 siz26 rfl rfl rfl rfl) rfl ?_
       refine ROps.d (r := b false) (fs := []) (Γ' := [⟨1, some [i64 0, i64 0, nilsl, nilsl]⟩, ⟨1, some (r27.map f32)⟩, ⟨1, some (r26.map i64)⟩, ⟨1, some [i64 r2, i64 r3, oref 1 1 0 r4.length, oref 2 1 0 r5.length]⟩, ⟨0, none⟩, ⟨0, none⟩]) rfl rfl rfl (TOp.eqb (TOp.callB (CallAs.func ent65 rfl rfl) (Bors.cons (Bor.agg (Bors.cons (Bor.pure rfl) (Bors.cons (Bor.pure rfl) (Bors.cons (Bor.own (f := f32) (fun _ => rfl) rfl (of_decide_eq_true hn20)) Bors.nil)))) Bors.nil) rfl rfl (i_ValidMatrix_ok r2 r3 r27 r28 hf21)) hc22) rfl ?_
       refine zL (r := b true) rfl rfl rfl (LOp.eqb (LOp.not rfl rfl) rfl) ?_
       refine zN ?_
       refine RunC.cond_true rfl rfl ?_
       refine zQ ?_
       refine zL (r := agg [i64 0, i64 0, nilsl, nilsl]) rfl rfl rfl (LOp.build (qs := []) zer65 zok65 und65 plc65 rfl trivial rfl) ?_
       refine ROps.store_le (r := agg [i64 0, i64 0, nilsl, nilsl]) (l' := [i64 0, i64 0, nilsl, nilsl]) (Γ' := [⟨1, some [i64 0, i64 0, nilsl, nilsl]⟩, ⟨1, some (r27.map f32)⟩, ⟨1, some (r26.map i64)⟩, ⟨1, some [i64 r2, i64 r3, oref 1 1 0 r4.length, oref 2 1 0 r5.length]⟩, ⟨0, none⟩, ⟨0, none⟩]) rfl siz65 rfl rfl rfl aR rfl rfl rfl rfl (Nat.le_of_ble_eq_true rfl) rfl rfl ?_
       refine zA (r := b false) rfl rfl rfl rfl rfl ?_
       refine zN ?_
       refine RunC.nil_cell (l' := [i64 0, i64 0, oref 4 1 0 0, nilsl]) (Γ' := [⟨1, some [i64 0, i64 0, oref 4 1 0 0, nilsl]⟩, ⟨1, some (r27.map f32)⟩, ⟨1, some (r26.map i64)⟩, ⟨1, some [i64 r2, i64 r3, oref 1 1 0 r4.length, oref 2 1 0 r5.length]⟩, ⟨1, some (([] : List F).map f32)⟩, ⟨0, none⟩]) 0 2 4 rfl rfl rfl rfl rfl ?_
       refine RunC.nil_cell (l' := [i64 0, i64 0, oref 4 1 0 0, oref 5 1 0 0]) (Γ' := [⟨1, some [i64 0, i64 0, oref 4 1 0 0, oref 5 1 0 0]⟩, ⟨1, some (r27.map f32)⟩, ⟨1, some (r26.map i64)⟩, ⟨1, some [i64 r2, i64 r3, oref 1 1 0 r4.length, oref 2 1 0 r5.length]⟩, ⟨1, some (([] : List F).map f32)⟩, ⟨1, some (([] : List Int).map i64)⟩]) 0 3 5 rfl rfl rfl rfl rfl ?_
       refine RunC.ret ?_
       cases Option.some.inj h10_
       have hx15_ := hr10 _ rfl
       subst hx15_
       have hq := Option.some.inj h
       obtain ⟨hq0, hq⟩ := Prod.mk.inj hq
       obtain ⟨hq1, hq⟩ := Prod.mk.inj hq
       obtain ⟨hq2, hq⟩ := Prod.mk.inj hq
       obtain ⟨hq3, hq⟩ := Prod.mk.inj hq
       subst q0
       subst q1
       subst q2
       subst q3
       subst q4
       exact bodyQ.mk (r' := tup [agg [i64 0, i64 0, oref 4 1 0 (([] : List F).length), oref 5 1 0 (([] : List Int).length)], b false]) [(4, 1), (5, 1)] (.inr rfl) rfl (show List.Nodup [4, 5] from by decide) rfl rfl (Res.eq (Res.two rfl (RV.cell agg65 siz65 rfl rfl rfl rfl) (RV.tmp rfl)) (by rw [(show ([] : List F).length = 0 from rfl), (show ([] : List Int).length = 0 from rfl)] <;> rfl)) (SelL.arr0 (f := f32) (fun _ => rfl) rfl (SelL.arr0 (f := i64) (fun _ => rfl) rfl trivial))
   ·refine RunC.regionW ?_
    refine zL (r := b false) rfl rfl rfl (LOp.eqb (LOp.lss rfl rfl rfl) hc5) ?_
    refine zN ?_
    refine RunC.seq ?_
    refine RunC.cond_false rfl rfl ?_
    refine RunC.exit ?_
    cases Option.some.inj h10_
    have hx := ho10 _ rfl
    exact ⟨L6, L8, hl7, hl9, ⟨aR, aR, trivial⟩, ⟨⟨rfl, .inr rfl⟩, ⟨rfl, .inr rfl⟩, ⟨rfl, .inr rfl⟩, ⟨rfl, .inr rfl⟩, ⟨rfl, .inr rfl⟩, ⟨rfl, .inr rfl⟩, trivial⟩, hx⟩
  ·rintro τ16 Γ16 ⟨L30, L32, hl31, hl33, hw16, hd16, rfl⟩
   refine RunC.wl hw16 hd16 ?_
   replace h : i_FactorRows_k9 r2 r3 L30 L32 = some (q0, q1, q2, q3, q4) := h
   unfold i_FactorRows_k9 at h
   refine zQ ?_
   refine ROps.d (r := agg [i64 r2, i64 r3, oref 1 1 0 r4.length, oref 2 1 0 r5.length]) (fs := []) (Γ' := [⟨1, some [i64 0, i64 0, nilsl, nilsl]⟩, ⟨1, some (L30.map f32)⟩, ⟨1, some (L32.map i64)⟩, ⟨1, some [i64 r2, i64 r3, oref 1 1 0 r4.length, oref 2 1 0 r5.length]⟩, ⟨0, none⟩, ⟨0, none⟩]) rfl rfl rfl (TOp.loadAgg_o rfl agg65 siz65 rfl rfl rfl rfl) rfl ?_
   refine ROps.store_le (r := agg [i64 r2, i64 r3, oref 1 1 0 r4.length, oref 2 1 0 r5.length]) (l' := [i64 r2, i64 r3, oref 1 1 0 r4.length, oref 2 1 0 r5.length]) (Γ' := [⟨1, some [i64 r2, i64 r3, oref 1 1 0 r4.length, oref 2 1 0 r5.length]⟩, ⟨1, some (L30.map f32)⟩, ⟨1, some (L32.map i64)⟩, ⟨1, some [i64 r2, i64 r3, oref 1 1 0 r4.length, oref 2 1 0 r5.length]⟩, ⟨0, none⟩, ⟨0, none⟩]) rfl siz65 rfl rfl rfl aR rfl rfl rfl rfl (Nat.le_of_ble_eq_true rfl) rfl rfl ?_
   refine zA (r := b true) rfl rfl rfl rfl rfl ?_
   refine zN ?_
   refine RunC.ret ?_
   have hq := Option.some.inj h
   obtain ⟨hq0, hq⟩ := Prod.mk.inj hq
   obtain ⟨hq1, hq⟩ := Prod.mk.inj hq
   obtain ⟨hq2, hq⟩ := Prod.mk.inj hq
   obtain ⟨hq3, hq⟩ := Prod.mk.inj hq
   subst q0
   subst q1
   subst q2
   subst q3
   subst q4
   exact bodyQ.mk (r' := tup [agg [i64 r2, i64 r3, oref 1 1 0 L30.length, oref 2 1 0 L32.length], b true]) [(1, 1), (2, 1)] (.inr rfl) rfl (show List.Nodup [1, 2] from by decide) rfl rfl (Res.eq (Res.two rfl (RV.cell agg65 siz65 rfl rfl rfl rfl) (RV.tmp rfl)) (by rw [(show L30.length = r4.length from hl31), (show L32.length = r5.length from hl33)] <;> rfl)) (SelL.arr0 (f := f32) (fun _ => rfl) rfl (SelL.arr0 (f := i64) (fun _ => rfl) rfl trivial))
 ·refine RunC.regionW ?_
  refine zL (r := agg [i64 a0, i64 a1, sl a2.length (a2.map f32)]) rfl rfl rfl (LOp.loadAgg agg26 siz26 rfl rfl rfl rfl) ?_
  refine ROps.d (r := b false) (fs := []) (Γ' := [⟨1, some [i64 0, i64 0, nilsl, nilsl]⟩, ⟨0, none⟩, ⟨0, none⟩, ⟨0, none⟩, ⟨0, none⟩, ⟨0, none⟩]) rfl rfl rfl (TOp.eqb (TOp.callB (CallAs.func ent82 rfl rfl) (Bors.cons (Bor.agg (Bors.cons (Bor.pure rfl) (Bors.cons (Bor.pure rfl) (Bors.cons (Bor.sl (fun _ => rfl)) Bors.nil)))) Bors.nil) rfl rfl (i_isSquare_ok a0 a1 a2 r1 hf1)) hc2) rfl ?_
  refine zL (r := b true) rfl rfl rfl (LOp.eqb (LOp.not rfl rfl) rfl) ?_
  refine zN ?_
  refine RunC.cond_true rfl rfl ?_
  refine zQ ?_
  refine zL (r := agg [i64 0, i64 0, nilsl, nilsl]) rfl rfl rfl (LOp.build (qs := []) zer65 zok65 und65 plc65 rfl trivial rfl) ?_
  refine ROps.store_le (r := agg [i64 0, i64 0, nilsl, nilsl]) (l' := [i64 0, i64 0, nilsl, nilsl]) (Γ' := [⟨1, some [i64 0, i64 0, nilsl, nilsl]⟩, ⟨0, none⟩, ⟨0, none⟩, ⟨0, none⟩, ⟨0, none⟩, ⟨0, none⟩]) rfl siz65 rfl rfl rfl aR rfl rfl rfl rfl (Nat.le_of_ble_eq_true rfl) rfl rfl ?_
  refine zA (r := b false) rfl rfl rfl rfl rfl ?_
  refine zN ?_
  refine RunC.nil_cell (l' := [i64 0, i64 0, oref 1 1 0 0, nilsl]) (Γ' := [⟨1, some [i64 0, i64 0, oref 1 1 0 0, nilsl]⟩, ⟨1, some (([] : List F).map f32)⟩, ⟨0, none⟩, ⟨0, none⟩, ⟨0, none⟩, ⟨0, none⟩]) 0 2 1 rfl rfl rfl rfl rfl ?_
  refine RunC.nil_cell (l' := [i64 0, i64 0, oref 1 1 0 0, oref 2 1 0 0]) (Γ' := [⟨1, some [i64 0, i64 0, oref 1 1 0 0, oref 2 1 0 0]⟩, ⟨1, some (([] : List F).map f32)⟩, ⟨1, some (([] : List Int).map i64)⟩, ⟨0, none⟩, ⟨0, none⟩, ⟨0, none⟩]) 0 3 2 rfl rfl rfl rfl rfl ?_
  refine RunC.ret ?_
  have hq := Option.some.inj h
  obtain ⟨hq0, hq⟩ := Prod.mk.inj hq
  obtain ⟨hq1, hq⟩ := Prod.mk.inj hq
  obtain ⟨hq2, hq⟩ := Prod.mk.inj hq
  obtain ⟨hq3, hq⟩ := Prod.mk.inj hq
  subst q0
  subst q1
  subst q2
  subst q3
  subst q4
  exact bodyQ.mk (r' := tup [agg [i64 0, i64 0, oref 1 1 0 (([] : List F).length), oref 2 1 0 (([] : List Int).length)], b false]) [(1, 1), (2, 1)] (.inr rfl) rfl (show List.Nodup [1, 2] from by decide) rfl rfl (Res.eq (Res.two rfl (RV.cell agg65 siz65 rfl rfl rfl rfl) (RV.tmp rfl)) (by rw [(show ([] : List F).length = 0 from rfl), (show ([] : List Int).length = 0 from rfl)] <;> rfl)) (SelL.arr0 (f := f32) (fun _ => rfl) rfl (SelL.arr0 (f := i64) (fun _ => rfl) rfl trivial))
noncomputable def i_Matrix_middle_b1 (a0 : Int) (a1 : Int) (a2 : List F) (L3 : List F) (v4 : Int) : Option (LR ((List F) × Int) ((List F)) ((List F))) :=
 bsel (decide (v4 < (imin a0 a1))) (
  obind (i_Matrix_at a0 a1 a2 v4 v4) fun (r5 : F) =>
  need (apok 4 L3.length 1) <|
  olet (IntKind.i64.wrap (v4 + 1)) fun (x6 : Int) =>
  some (LR.next ((L3 ++ ([r5] : List F)), x6))) (
  some (LR.out L3))
noncomputable def i_Matrix_middle_s1 (a0 : Int) (a1 : Int) (a2 : List F) : ((List F) × Int) → Option (LR ((List F) × Int) ((List F)) ((List F))) := fun s => i_Matrix_middle_b1 a0 a1 a2 s.1 s.2
noncomputable def i_Matrix_middle_k1 (L9 : List F) : Option ((List F)) :=
 some L9
noncomputable def i_Matrix_middle (a0 : Int) (a1 : Int) (a2 : List F) : Option ((List F)) :=
 obind (loopM (i_Matrix_middle_s1 a0 a1 a2) (([] : List F), 0)) fun z => osum z (fun e => i_Matrix_middle_k1 e) (fun r => some r)
theorem i_Matrix_middle_ok (a0 : Int) (a1 : Int) (a2 : List F) (q0 : List F) (h : i_Matrix_middle a0 a1 a2 = some q0) : Ev Tryz.prog 122 [agg [i64 a0, i64 a1, sl a2.length (a2.map f32)]] [] (oref 0 0 0 q0.length) [⟨0, some (q0.map f32)⟩] := by
 refine Ev.start Tryz.func122 rfl rfl 2 (τ := [(0, agg [i64 a0, i64 a1, sl a2.length (a2.map f32)])]) rfl (Γ' := [⟨0, none⟩, ⟨0, none⟩]) rfl (n := 47) rfl (g := 0) rfl (fun _ => rfl) ?_
 unfold i_Matrix_middle at h
 refine zQ ?_
 refine ROps.d (r := ptr [i64 a0, i64 a1, sl a2.length (a2.map f32)]) (fs := []) (Γ' := [⟨0, none⟩, ⟨0, none⟩]) rfl rfl rfl (TOp.box_s rfl rfl rfl) rfl ?_
 refine zA (r := nilsl) rfl rfl rfl rfl rfl ?_
 refine zN ?_
 refine zQ ?_
 refine ROps.d (r := oref 0 1 0 0) (fs := [(0, (([] : List F).map f32))]) (Γ' := [⟨1, some (([] : List F).map f32)⟩, ⟨0, none⟩]) rfl rfl rfl (TOp.buildSlice_o (g := ⟨0, none⟩) (za := f32 (some 0)) (qs := []) 0 rfl und22 siz33 zer33 rfl zel33 rfl rfl trivial rfl) rfl ?_
 refine zA (r := oref 0 1 0 0) rfl rfl rfl rfl rfl ?_
 refine zN ?_
 refine RunC.seq ?_
 refine zQ ?_
 refine zL (r := ptr [i64 a0, i64 a1, sl a2.length (a2.map f32)]) rfl rfl rfl (LOp.fap und26 rfl siz2 rfl rfl rfl) ?_
 refine zL (r := i64 a0) rfl rfl rfl (LOp.load1 agg2 rfl rfl) ?_
 refine zL (r := ptr [i64 a1, sl a2.length (a2.map f32)]) rfl rfl rfl (LOp.fap und26 rfl siz2 rfl rfl rfl) ?_
 refine zL (r := i64 a1) rfl rfl rfl (LOp.load1 agg2 rfl rfl) ?_
 refine zL (r := i64 (imin a0 a1)) rfl rfl rfl (LOp.min2 rfl rfl rfl) ?_
 refine zM (r := i64 0) rfl rfl rfl rfl rfl ?_
 refine zN ?_
 obtain ⟨z2, hz_2, h⟩ := obind_some h
 refine RunC.cutN (fun τ Γ => ∃ (L9 : List F) (u7 : Nat) (u8 : Nat), WeakLe τ [(3, oref 0 u7 0 L9.length)] ∧ DeadLe Γ [⟨u7, some (L9.map f32)⟩, ⟨u8, none⟩] ∧ z2 = .inl L9) ?_ ?_
 ·refine RunC.block (RunC.loop (RunL.loopM (x := z2) (i_Matrix_middle_s1 a0 a1 a2) (fun (s : (List F) × Int) τ Γ => ∃ (u1 : Nat) (u2 : Nat), WeakLe τ [(1, ptr [i64 a0, i64 a1, sl a2.length (a2.map f32)]), (3, oref 0 u1 0 s.1.length), (10, i64 (imin a0 a1)), (11, i64 s.2)] ∧ DeadLe Γ [⟨u1, some (s.1.map f32)⟩, ⟨u2, none⟩]) ?_ _ _ _ hz_2 ⟨1, 0, ⟨aR, aR, aR, aR, trivial⟩, ⟨⟨rfl, .inr rfl⟩, ⟨rfl, .inl rfl⟩, trivial⟩⟩))
  rintro ⟨L3, v4⟩ τ2 Γ2 y2_ ⟨u1, u2, hw2, hd2⟩ h2_ ho2 hr2
  refine RunC.wl (τ' := [(1, ptr [i64 a0, i64 a1, sl a2.length (a2.map f32)]), (3, oref 0 u1 0 L3.length), (10, i64 (imin a0 a1)), (11, i64 v4)]) (Γ' := [⟨u1, some (L3.map f32)⟩, ⟨u2, none⟩]) hw2 hd2 ?_
  replace h2_ : i_Matrix_middle_b1 a0 a1 a2 L3 v4 = some y2_ := h2_
  unfold i_Matrix_middle_b1 at h2_
  refine RunC.seq ?_
  rcases bsel_some h2_ with ⟨hc1, h2_⟩ | ⟨hc1, h2_⟩
  ·refine RunC.regionW ?_
   refine zL (r := b true) rfl rfl rfl (LOp.eqb (LOp.lss rfl rfl rfl) hc1) ?_
   refine zN ?_
   refine RunC.seq ?_
   refine RunC.cond_true rfl rfl ?_
   refine RunC.skip ?_
   refine RunC.seq ?_
   refine RunC.block ?_
   refine zQ ?_
   refine zM (r := i64 v4) rfl rfl rfl rfl rfl ?_
   refine zA (r := i64 v4) rfl rfl rfl rfl rfl ?_
   refine zN ?_
   obtain ⟨r5, hf2, h2_⟩ := obind_some h2_
   obtain ⟨hm3, h2_⟩ := need_some h2_
   refine RunC.regionW ?_
   refine zM (r := oref 0 u1 0 L3.length) rfl rfl rfl rfl rfl ?_
   refine zL (r := agg [i64 a0, i64 a1, sl a2.length (a2.map f32)]) rfl rfl rfl (LOp.loadAgg agg26 siz26 rfl rfl rfl rfl) ?_
   refine zM (r := i64 v4) rfl rfl rfl rfl rfl ?_
   refine zM (r := i64 v4) rfl rfl rfl rfl rfl ?_
   refine ROps.d (r := f32 r5) (fs := []) (Γ' := [⟨u1, some (L3.map f32)⟩, ⟨u2, none⟩]) rfl rfl rfl (TOp.callB (CallAs.func ent35 rfl rfl) (Bors.cons (Bor.agg (Bors.cons (Bor.pure rfl) (Bors.cons (Bor.pure rfl) (Bors.cons (Bor.sl (fun _ => rfl)) Bors.nil)))) (Bors.cons (Bor.pure rfl) (Bors.cons (Bor.pure rfl) Bors.nil))) rfl rfl (i_Matrix_at_ok a0 a1 a2 v4 v4 r5 hf2)) rfl ?_
   refine ROps.d (r := oref 1 (u2 + 1) 0 1) (fs := [(1, (([r5] : List F).map f32))]) (Γ' := [⟨u1, some (L3.map f32)⟩, ⟨(u2 + 1), some (([r5] : List F).map f32)⟩]) rfl rfl rfl (TOp.buildSlice_o (g := ⟨u2, none⟩) (za := f32 (some 0)) (qs := [(0, [f32 r5])]) 1 rfl und22 siz33 zer33 rfl zel33 rfl rfl ⟨rfl, ⟨_, ALe.refl _, rfl⟩, trivial⟩ rfl) rfl ?_
   refine ROps.app (f := f32) (xs := L3) (ys := ([r5] : List F)) (Γ' := [⟨(u1 + 1), some ((L3 ++ ([r5] : List F)).map f32)⟩, ⟨(u2 + 1), some (([r5] : List F).map f32)⟩]) rfl pun22 inf33 rfl rfl rfl rfl rfl rfl rfl rfl rfl (by simp) (ReadAs.own rfl (by simp)) (ones_map (fun _ => rfl)) (ap_by hm3) (ap_mx hm3) rfl ?_
   refine zA (r := oref 0 (u1 + 1) 0 (L3.length + 1)) rfl rfl rfl rfl rfl ?_
   refine zN ?_
   refine RunC.wl (τ' := [(1, ptr [i64 a0, i64 a1, sl a2.length (a2.map f32)]), (3, oref 0 (u1 + 1) 0 (L3.length + 1)), (10, i64 (imin a0 a1)), (11, i64 v4)]) (Γ' := [⟨(u1 + 1), some ((L3 ++ ([r5] : List F)).map f32)⟩, ⟨(u2 + 1), none⟩]) ⟨aR, aR, aR, aR, trivial⟩ ⟨⟨rfl, .inr rfl⟩, ⟨rfl, .inl rfl⟩, trivial⟩ ?_
   obtain ⟨x6, hx4, h2_⟩ := olet_some h2_
   refine RunC.regionW ?_
   refine zL (r := i64 x6) rfl rfl rfl (LOp.eqr (LOp.add rfl rfl rfl) (congrArg (ik .i64) hx4)) ?_
   refine zM (r := i64 x6) rfl rfl rfl rfl rfl ?_
   refine zN ?_
   cases Option.some.inj h2_
   exact ⟨_, rfl, (u1 + 1), (u2 + 1), ⟨aR, (ALe.eq (by rw [(app_len rfl rfl)] <;> rfl)), aR, aR, trivial⟩, ⟨⟨rfl, .inr rfl⟩, ⟨rfl, .inl rfl⟩, trivial⟩⟩
  ·refine RunC.regionW ?_
   refine zL (r := b false) rfl rfl rfl (LOp.eqb (LOp.lss rfl rfl rfl) hc1) ?_
   refine zN ?_
   refine RunC.seq ?_
   refine RunC.cond_false rfl rfl ?_
   refine RunC.exit ?_
   cases Option.some.inj h2_
   have hx := ho2 _ rfl
   exact ⟨L3, u1, u2, ⟨aR, trivial⟩, ⟨⟨rfl, .inr rfl⟩, ⟨rfl, .inl rfl⟩, trivial⟩, hx⟩
 ·rintro τ3 Γ3 ⟨L9, u7, u8, hw3, hd3, rfl⟩
  refine RunC.wl hw3 hd3 ?_
  replace h : i_Matrix_middle_k1 L9 = some q0 := h
  unfold i_Matrix_middle_k1 at h
  refine zQ ?_
  refine zM (r := oref 0 u7 0 L9.length) rfl rfl rfl rfl rfl ?_
  refine zA (r := oref 0 u7 0 L9.length) rfl rfl rfl rfl rfl ?_
  refine zN ?_
  refine RunC.ret ?_
  have hq := Option.some.inj h
  subst q0
  exact bodyQ.mk (r' := oref 0 u7 0 L9.length) [(0, u7)] (.inr rfl) rfl (show List.Nodup [0] from by decide) (by simp [ren, rens, sigma]) rfl (Res.one rfl (RV.tmp rfl)) (SelL.arr0 (f := f32) (fun _ => rfl) rfl trivial)
noncomputable def x_slices_Index_float32_float32_b1 (a0 : List F) (a1 : F) (v1 : Int) : Option (LR (Int) (Unit) (Int)) :=
 bsel (decide (v1 < (a0.length : Int))) (
  obind (at? a0 v1) fun (e2 : F) =>
  bsel (feq .f32 a1 e2) (
   some (LR.ret v1)) (
   olet (IntKind.i64.wrap (v1 + 1)) fun (x3 : Int) =>
   some (LR.next x3))) (
  some (LR.out ()))
noncomputable def x_slices_Index_float32_float32_s1 (a0 : List F) (a1 : F) : (Int) → Option (LR (Int) (Unit) (Int)) := fun s => x_slices_Index_float32_float32_b1 a0 a1 s
noncomputable def x_slices_Index_float32_float32_k1  : Option (Int) :=
 some (-1)
noncomputable def x_slices_Index_float32_float32 (a0 : List F) (a1 : F) : Option (Int) :=
 obind (loopM (x_slices_Index_float32_float32_s1 a0 a1) 0) fun z => osum z (fun _ => x_slices_Index_float32_float32_k1) (fun r => some r)
theorem x_slices_Index_float32_float32_ok (a0 : List F) (a1 : F) (q0 : Int) (h : x_slices_Index_float32_float32 a0 a1 = some q0) : Ev Tryz.prog 141 [sl a0.length (a0.map f32), f32 a1] [] (i64 q0) [] := by
 refine Ev.start Tryz.func141 rfl rfl 0 (τ := [(0, sl a0.length (a0.map f32)), (1, f32 a1)]) rfl (Γ' := []) rfl (n := 39) rfl (g := 0) rfl (fun _ => rfl) ?_
 unfold x_slices_Index_float32_float32 at h
 refine zQ ?_
 refine zA (r := i64 0) rfl rfl rfl rfl rfl ?_
 refine zN ?_
 refine RunC.seq ?_
 refine zQ ?_
 refine zM (r := sl a0.length (a0.map f32)) rfl rfl rfl rfl rfl ?_
 refine zL (r := i64 (a0.length : Int)) rfl rfl rfl (LOp.len_sl und22 rfl rfl) ?_
 refine zM (r := i64 0) rfl rfl rfl rfl rfl ?_
 refine zN ?_
 obtain ⟨z2, hz_2, h⟩ := obind_some h
 refine RunC.cutN (fun τ Γ => WeakLe τ [] ∧ DeadLe Γ [] ∧ z2 = .inl ()) ?_ ?_
 ·refine RunC.block (RunC.loop (RunL.loopM (x := z2) (x_slices_Index_float32_float32_s1 a0 a1) (fun (s : Int) τ Γ => WeakLe τ [(0, sl a0.length (a0.map f32)), (1, f32 a1), (7, i64 (a0.length : Int)), (8, i64 s)] ∧ DeadLe Γ []) ?_ _ _ _ hz_2 ⟨⟨aR, aR, aR, aR, trivial⟩, trivial⟩))
  rintro v1 τ2 Γ2 y2_ ⟨hw2, hd2⟩ h2_ ho2 hr2
  refine RunC.wl (τ' := [(0, sl a0.length (a0.map f32)), (1, f32 a1), (7, i64 (a0.length : Int)), (8, i64 v1)]) (Γ' := []) hw2 hd2 ?_
  replace h2_ : x_slices_Index_float32_float32_b1 a0 a1 v1 = some y2_ := h2_
  unfold x_slices_Index_float32_float32_b1 at h2_
  refine RunC.seq ?_
  rcases bsel_some h2_ with ⟨hc1, h2_⟩ | ⟨hc1, h2_⟩
  ·refine RunC.regionW ?_
   refine zL (r := b true) rfl rfl rfl (LOp.eqb (LOp.lss rfl rfl rfl) hc1) ?_
   refine zN ?_
   refine RunC.seq ?_
   refine RunC.cond_true rfl rfl ?_
   refine RunC.skip ?_
   refine RunC.seq ?_
   refine RunC.block ?_
   refine zQ ?_
   refine zM (r := i64 v1) rfl rfl rfl rfl rfl ?_
   refine zA (r := i64 v1) rfl rfl rfl rfl rfl ?_
   refine zN ?_
   refine RunC.seq ?_
   obtain ⟨e2, he2, h2_⟩ := obind_some h2_
   rcases bsel_some h2_ with ⟨hc3, h2_⟩ | ⟨hc3, h2_⟩
   ·refine RunC.regionW ?_
    refine zM (r := f32 a1) rfl rfl rfl rfl rfl ?_
    refine zM (r := sl a0.length (a0.map f32)) rfl rfl rfl rfl rfl ?_
    refine zM (r := i64 v1) rfl rfl rfl rfl rfl ?_
    refine zL (r := ptr [f32 e2]) rfl rfl rfl (LOp.le (LOp.ix (f := f32) und22 siz33 rfl rfl rfl rfl he2) ALe.ptr) ?_
    refine zL (r := f32 e2) rfl rfl rfl (LOp.load1 agg33 rfl rfl) ?_
    refine zL (r := b true) rfl rfl rfl (LOp.eqb (LOp.feq rfl (OpF.tmp rfl) (OpF.tmp rfl)) hc3) ?_
    refine zN ?_
    refine RunC.cond_true rfl rfl ?_
    refine zQ ?_
    refine zM (r := i64 v1) rfl rfl rfl rfl rfl ?_
    refine zA (r := i64 v1) rfl rfl rfl rfl rfl ?_
    refine zN ?_
    refine RunC.ret ?_
    cases Option.some.inj h2_
    have hx3_ := hr2 _ rfl
    subst hx3_
    have hq := Option.some.inj h
    subst q0
    exact bodyQ.pure (.inr rfl) rfl (Res.one rfl (RV.tmp rfl))
   ·refine RunC.regionW ?_
    refine zM (r := f32 a1) rfl rfl rfl rfl rfl ?_
    refine zM (r := sl a0.length (a0.map f32)) rfl rfl rfl rfl rfl ?_
    refine zM (r := i64 v1) rfl rfl rfl rfl rfl ?_
    refine zL (r := ptr [f32 e2]) rfl rfl rfl (LOp.le (LOp.ix (f := f32) und22 siz33 rfl rfl rfl rfl he2) ALe.ptr) ?_
    refine zL (r := f32 e2) rfl rfl rfl (LOp.load1 agg33 rfl rfl) ?_
    refine zL (r := b false) rfl rfl rfl (LOp.eqb (LOp.feq rfl (OpF.tmp rfl) (OpF.tmp rfl)) hc3) ?_
    refine zN ?_
    refine RunC.cond_false rfl rfl ?_
    refine RunC.skip ?_
    obtain ⟨x3, hx4, h2_⟩ := olet_some h2_
    refine RunC.regionW ?_
    refine zL (r := i64 x3) rfl rfl rfl (LOp.eqr (LOp.add rfl rfl rfl) (congrArg (ik .i64) hx4)) ?_
    refine zM (r := i64 x3) rfl rfl rfl rfl rfl ?_
    refine zN ?_
    cases Option.some.inj h2_
    exact ⟨_, rfl, ⟨aR, aR, aR, aR, trivial⟩, trivial⟩
  ·refine RunC.regionW ?_
   refine zL (r := b false) rfl rfl rfl (LOp.eqb (LOp.lss rfl rfl rfl) hc1) ?_
   refine zN ?_
   refine RunC.seq ?_
   refine RunC.cond_false rfl rfl ?_
   refine RunC.exit ?_
   cases Option.some.inj h2_
   have hx := ho2 _ rfl
   exact ⟨trivial, trivial, hx⟩
 ·rintro τ4 Γ4 ⟨hw4, hd4, rfl⟩
  refine RunC.wl hw4 hd4 ?_
  replace h : x_slices_Index_float32_float32_k1 = some q0 := h
  unfold x_slices_Index_float32_float32_k1 at h
  refine zQ ?_
  refine zA (r := i64 (-1)) rfl rfl rfl rfl rfl ?_
  refine zN ?_
  refine RunC.ret ?_
  have hq := Option.some.inj h
  subst q0
  exact bodyQ.pure (.inr rfl) rfl (Res.one rfl (RV.tmp rfl))
noncomputable def x_slices_Contains_float32_float32 (a0 : List F) (a1 : F) : Option (Bool) :=
 obind (x_slices_Index_float32_float32 a0 a1) fun (r1 : Int) =>
 some (decide (0 ≤ r1))
theorem x_slices_Contains_float32_float32_ok (a0 : List F) (a1 : F) (q0 : Bool) (h : x_slices_Contains_float32_float32 a0 a1 = some q0) : Ev Tryz.prog 121 [sl a0.length (a0.map f32), f32 a1] [] (b q0) [] := by
 refine Ev.start Tryz.func121 rfl rfl 0 (τ := [(0, sl a0.length (a0.map f32)), (1, f32 a1)]) rfl (Γ' := []) rfl (n := 19) rfl (g := 0) rfl (fun _ => rfl) ?_
 unfold x_slices_Contains_float32_float32 at h
 refine zQ ?_
 refine zA (r := b false) rfl rfl rfl rfl rfl ?_
 refine zN ?_
 refine RunC.seq ?_
 obtain ⟨r1, hf1, h⟩ := obind_some h
 refine RunC.regionW ?_
 refine zM (r := sl a0.length (a0.map f32)) rfl rfl rfl rfl rfl ?_
 refine zM (r := f32 a1) rfl rfl rfl rfl rfl ?_
 refine ROps.d (r := i64 r1) (fs := []) (Γ' := []) rfl rfl rfl (TOp.callB (CallAs.func ent141 rfl rfl) (Bors.cons (Bor.sl (fun _ => rfl)) (Bors.cons (Bor.pure rfl) Bors.nil)) rfl rfl (x_slices_Index_float32_float32_ok a0 a1 r1 hf1)) rfl ?_
 refine zL (r := b (decide (0 ≤ r1))) rfl rfl rfl (LOp.geq rfl rfl rfl) ?_
 refine zA (r := b (decide (0 ≤ r1))) rfl rfl rfl rfl rfl ?_
 refine zN ?_
 refine RunC.ret ?_
 have hq := Option.some.inj h
 subst q0
 exact bodyQ.pure (.inr rfl) rfl (Res.one rfl (RV.tmp rfl))
noncomputable def i_length_int64 (a0 : List Int) : Option (Int) :=
 some (a0.length : Int)
theorem i_length_int64_ok (a0 : List Int) (q0 : Int) (h : i_length_int64 a0 = some q0) : Ev Tryz.prog 124 [sl a0.length (a0.map i64)] [] (i64 q0) [] := by
 refine Ev.start Tryz.func124 rfl rfl 0 (τ := [(0, sl a0.length (a0.map i64))]) rfl (Γ' := []) rfl (n := 11) rfl (g := 0) rfl (fun _ => rfl) ?_
 unfold i_length_int64 at h
 refine zQ ?_
 refine zA (r := i64 0) rfl rfl rfl rfl rfl ?_
 refine zN ?_
 refine zQ ?_
 refine zM (r := sl a0.length (a0.map i64)) rfl rfl rfl rfl rfl ?_
 refine zL (r := i64 (a0.length : Int)) rfl rfl rfl (LOp.len_sl und53 rfl rfl) ?_
 refine zA (r := i64 (a0.length : Int)) rfl rfl rfl rfl rfl ?_
 refine zN ?_
 refine RunC.ret ?_
 have hq := Option.some.inj h
 subst q0
 exact bodyQ.pure (.inr rfl) rfl (Res.one rfl (RV.tmp rfl))
noncomputable def x_slices_Values_int64_int64 (a0 : List Int) : Option ((List Int)) :=
 some a0
theorem x_slices_Values_int64_int64_ok (a0 : List Int) (q0 : List Int) (h : x_slices_Values_int64_int64 a0 = some q0) : Ev Tryz.prog 149 [sl a0.length (a0.map i64)] [] (fn (.func 151) [] [ptr [sl q0.length (q0.map i64)]]) [] := by
 refine Ev.start Tryz.func149 rfl rfl 0 (τ := [(0, sl a0.length (a0.map i64))]) rfl (Γ' := []) rfl (n := 9) rfl (g := 0) rfl (fun _ => rfl) ?_
 unfold x_slices_Values_int64_int64 at h
 refine zQ ?_
 refine ROps.d (r := ptr [sl a0.length (a0.map i64)]) (fs := []) (Γ' := []) rfl rfl rfl (TOp.box_s rfl rfl rfl) rfl ?_
 refine zA (r := x .nilFunc) rfl rfl rfl rfl rfl ?_
 refine zN ?_
 refine zQ ?_
 refine zL (r := fn (.func 151) [] [ptr [sl a0.length (a0.map i64)]]) rfl rfl rfl (LOp.makeFunc rfl rfl) ?_
 refine zA (r := fn (.func 151) [] [ptr [sl a0.length (a0.map i64)]]) rfl rfl rfl rfl rfl ?_
 refine zN ?_
 refine RunC.ret ?_
 have hq := Option.some.inj h
 subst q0
 exact bodyQ.pure (.inr rfl) (lt_fn lts_nil (lts_cons (lt_ptr (lts_cons (lt_sl (fun _ => rfl)) lts_nil)) lts_nil)) (Res.one rfl (RV.tmp rfl))
noncomputable def x_slices_AppendSeq (a0 : List Int) : Option (List Int) :=
 need (decide ((a0.length : Int) * 8 ≤ 140737488351232)) <|
 some a0
section
open Go.RowKit Go.Shelf
attribute [local go_sem] Oper.semAt_some
set_option maxRecDepth 100000 in
set_option maxHeartbeats 2000000 in
theorem values1_in (F : Fence) (n : Nat) (h7 : F.fn 151) (hro : F.round = none) (hn : 1 ≤ n) (l Bs Bo n₀ b off len cap : Nat) (zs : List Int) (hreach : len * 8 ≤ 140737488351232) (hb : b < n₀) (J Jx : List Int → World → Prop)
  (hY : ∀ pre x W, J pre W → pre.length < len → YieldAt F (n - 1) Tryz.prog l #[.int .i64 x] W fun e W' =>
   (e = .returned (.bool true) ∧ J (pre ++ [x]) W' ∧ Below n₀ W W') ∨ (e = .returned (.bool false) ∧ Jx (pre ++ [x]) W'))
  (W : World) (hBs : W.cell? ⟨Bs, Bo, none⟩ = some (.slice (some ⟨b, off, none⟩) len cap)) (hc : ∀ j, j < len → W.cell? ⟨b, off + j, none⟩ = some (.int .i64 (zs[j]?.getD 0))) (h0 : J [] W) :
  CallsIn F n Tryz.prog 151 #[.func (.yield l) #[] #[], .pointer (some ⟨Bs, Bo, none⟩)] W fun e W' => (∃ v, e = .returned v) ∧
   ((∃ ys, ys = uptoF (fun j => zs[j]?.getD 0) len ∧ J ys W') ∨ (∃ pre, (∃ k, k ≤ len ∧ pre = uptoF (fun j => zs[j]?.getD 0) k) ∧ Jx pre W')) := by
 refine callsIn_of_wp Tryz.func151 rfl h7 ?_ hro
 simp only [Tryz.ntmps151, List.size_toArray, List.length_cons, List.length_nil, Nat.reduceAdd, Nat.reduceSub, Array.replicate_succ, Array.replicate_zero, List.push_toArray, List.append_toArray, List.nil_append, List.cons_append]
 gi_wp2
 gi_loopw [7] (fun i wr => ∃ k : Nat, k ≤ len ∧ i = .int .i64 k ∧ J (uptoF (fun j => zs[j]?.getD 0) k) wr ∧ Below n₀ W wr)
  (fun i _ => len - (intOf i).toNat)
 case atStart => exact ⟨0, Nat.zero_le _, rfl, h0, Below.refl _ _⟩
 case round =>
  obtain ⟨k, hk, rfl, hJs, hnx⟩ := hrel
  have hcx : k < len → wr.cell? ⟨b, off + k, none⟩ = some (.int .i64 (zs[k]?.getD 0)) := fun h => (hnx.cell (p := ⟨b, off + k, none⟩) hb).trans (hc k h)
  by_cases hlt : k < len
  ·obtain ⟨fn, tmps, assign, body, hy, hR⟩ := hY _ (zs[k]?.getD 0) wr hJs (by rw [uptoF_length]; exact hlt)
   have hcx' := hcx hlt
   gi_wp2
   refine hR.mono ?_
   rintro e W3 (⟨rfl, hJ3, hk3⟩ | ⟨rfl, hJx3⟩)
   ·gi_wp2
    go_roundw
    case rel => exact ⟨k + 1, by omega, by simp, by rw [uptoF_succ]; exact hJ3, hnx.trans hk3⟩
    case measure => simp [intOf]; omega
   ·gi_wp2
    refine bodyPost_ret (results_none rfl _ _ _) rfl ?_
    exact ⟨⟨_, rfl⟩, .inr ⟨_, ⟨k + 1, by omega, (uptoF_succ _ _).symm⟩, hJx3⟩⟩
  ·obtain rfl : k = len := by omega
   gi_wp2
   go_end0
   exact ⟨⟨_, rfl⟩, .inl ⟨_, rfl, hJs⟩⟩
set_option maxRecDepth 100000 in
set_option maxHeartbeats 1000000 in
theorem values1_nil_in (F : Fence) (n : Nat) (h7 : F.fn 151) (hro : F.round = none) (l Bs Bo : Nat) (a : Option Addr) (cap : Nat) (J : List Int → World → Prop) (W : World) (hBs : W.cell? ⟨Bs, Bo, none⟩ = some (.slice a 0 cap)) (h0 : J [] W) :
  CallsIn F n Tryz.prog 151 #[.func (.yield l) #[] #[], .pointer (some ⟨Bs, Bo, none⟩)] W fun e W' => (∃ v, e = .returned v) ∧ J [] W' := by
 refine callsIn_of_wp Tryz.func151 rfl h7 ?_ hro
 simp only [Tryz.ntmps151, List.size_toArray, List.length_cons, List.length_nil, Nat.reduceAdd, Nat.reduceSub, Array.replicate_succ, Array.replicate_zero, List.push_toArray, List.append_toArray, List.nil_append, List.cons_append]
 gi_wp2
 gi_loopw [7] (fun i wr => i = .int .i64 0 ∧ J [] wr) (fun _ _ => 0)
 case atStart => exact ⟨rfl, h0⟩
 case round =>
  obtain ⟨rfl, hJs⟩ := hrel
  gi_wp2
  go_end0
  exact ⟨⟨_, rfl⟩, hJs⟩
theorem values_stops (F : Fence) (n : Nat) (h7 : F.fn 151) (hro : F.round = none) (hn : 1 ≤ n) (Bs Bo n₀ : Nat) (sv : Value) (zs : List Int) (hreach : zs.length * 8 ≤ 140737488351232) (w : World) (hBs : Bs < w.heap.size) (hn₀ : n₀ ≤ w.heap.size)
  (hc : w.cell? ⟨Bs, Bo, none⟩ = some sv) (hI : IntsAt n₀ w sv zs) :
  SeqStopsK F n Tryz.prog 151 #[.pointer (some ⟨Bs, Bo, none⟩)] (fun x : Int => #[Value.int .i64 x]) (Below n₀) (fun ys => ys = zs) (fun pre => pre <+: zs) zs.length w := fun l J Jx W hW _ _ hY h0 => by
 have hc' := (hW.cell (p := ⟨Bs, Bo, none⟩) hBs).trans hc
 rcases hI.below (hW.mono hn₀) with ⟨a, cap, rfl, rfl⟩ | ⟨b, off, cap, rfl, hb, hcs⟩
 ·exact (values1_nil_in F n h7 hro l Bs Bo a cap J W hc' h0).mono fun e W' ⟨he, hj⟩ => ⟨he, .inl ⟨_, rfl, hj⟩⟩
 ·refine (values1_in F n h7 hro hn l Bs Bo n₀ b off zs.length cap zs hreach hb J Jx hY W hc' hcs h0).mono ?_
  rintro e W' ⟨he, ⟨ys, rfl, hj⟩ | ⟨pre, ⟨k, hk, rfl⟩, hj⟩⟩
  ·exact ⟨he, .inl ⟨_, uptoF_all zs, hj⟩⟩
  ·exact ⟨he, .inr ⟨_, by rw [uptoF_take zs hk]; exact List.take_prefix _ _, hj⟩⟩
/-- Between two rounds: the box holds a slice that owns what has come. -/
def SeqAt (w : World) (B : Nat) (pre : List Int) (W : World) : Prop :=
 (∃ v, Boxed W B 53 v ∧ W.ownsRow w.heap.size 2 1 v pre.length (pre.map (Value.int .i64)) ∧ True) ∧ Below w.heap.size w W
theorem seqAt_own (w : World) (B D : Nat) (hD : w.heap.size ≤ D) : OwnFrom D (SeqAt w B) :=
 OwnFrom.and (Own.from (holdsRow_own w.heap.size B 53 2 1 (fun s : List Int => s.length) (fun s => s.map (Value.int .i64)) (fun _ _ => True)) _) (ownFrom_below (Nat.le_refl _) hD)
theorem ty53 : Tryz.prog.underlying 53 = some (.slice 2) := by kernel_rfl
theorem info2 : (Tryz.prog.info? 2).map (fun i => (i.zero, i.size, i.bytes)) = some (some (.int .i64 0), 1, 8) := by kernel_rfl
set_option maxRecDepth 100000 in
set_option maxHeartbeats 2000000 in
theorem appendSeq_in (F : Fence) (n : Nat) (h3 : F.fn 152) (h7 : F.fn 151) (hro : F.round = none) (hn : 3 ≤ n) (w : World) (Bs Bo : Nat) (sv : Value) (zs : List Int) (hreach : zs.length * 8 ≤ 140737488351232) (hBs : Bs < w.heap.size)
  (hc : w.cell? ⟨Bs, Bo, none⟩ = some sv) (hI : IntsAt w.heap.size w sv zs) :
  CallsIn F n Tryz.prog 152 #[.slice none 0 0, .func (.func 151) #[] #[.pointer (some ⟨Bs, Bo, none⟩)]] w fun e W' => (∃ v, e = .returned v ∧ W'.ownsRow w.heap.size 2 1 v zs.length (zs.map (Value.int .i64))) ∧ Below w.heap.size w W' := by
 have h1 : 1 ≤ n := by omega
 obtain ⟨i0, hi, hz0, hz1, hz2⟩ := info_parts info2
 refine callsIn_of_wp_marks Tryz.func152 rfl h3 ?_ hro
 simp only [Tryz.ntmps152, List.size_toArray, List.length_cons, List.length_nil, Nat.reduceAdd, Nat.reduceSub, Array.replicate_succ, Array.replicate_zero, List.push_toArray, List.append_toArray, List.nil_append, List.cons_append]
 gi_wp2
 have bS := Boxed.new w 53 (.slice none 0 0)
 have hB0 : Below w.heap.size w (w.alloc (.cells #[.slice none 0 0] 53)) := (Below.refl _ w).alloc (Nat.le_refl _) _
 refine wpIn_rangeFunc_ownG hro h1 (gf := 151) (lb := #[.pointer (some ⟨Bs, Bo, none⟩)]) rfl h7 (enters_of Tryz.func151 (by kernel_rfl) rfl)
  (values_stops F (n - 1) h7 hro (by omega) Bs Bo w.heap.size sv zs hreach w hBs (Nat.le_refl _) hc hI) belowK_t (belowK_b (by simp)) hB0 (fun _ => rfl)
  (SeqAt w w.heap.size)
  (fun _ _ _ => False)
  (seqAt_own w _ _ (by simp))
  (fun _ _ _ _ _ hs _ _ => hs)
  ⟨⟨.slice none 0 0, bS, ⟨rfl, .inl ⟨rfl, rfl⟩⟩, trivial⟩, hB0⟩
  (fun x => { tmps := #[.slice none 0 0, .func (.func 151) #[] #[.pointer (some ⟨Bs, Bo, none⟩)], .pointer (some ⟨w.heap.size, 0, none⟩), undef, .slice none 0 0, .int .i64 x, .func (.func 151) #[] #[.pointer (some ⟨Bs, Bo, none⟩)], .int .i64 x, undef, undef, undef, undef, undef], defers := [] }) ?assign ?body ?done ?stop
 case assign =>
  intro l x W K hK
  gi_wp2
  exact hK
 case body =>
  rintro l pre x W ⟨⟨v, hv, hrow, _⟩, hB⟩ hlen
  have hc2 := hv.cell
  have hf2 := hv.frozen
  gi_wp2_with (first
   | (gi_at_builtin; refine wpListIn_append_own _ rfl _ _ 53 rfl w.heap.size 2 i0 (.int .i64 0) 1 8 ty53 hi hz0 hz1 hz2 rfl (by decide) _ _ _ rfl (hrow.alloc _) ⟨W.heap.size, 0, none⟩ 1 1 [.int .i64 x] rfl rfl ?c1 ?c2 ?c3 ?c4 ?c5 ?_)
   | gi_in)
  case c1 =>
   intro j u hj
   match j, hj with
   | 0, hj => simp at hj; subst hj; simp [Addr.add]
  case c2 => intro u hu; simp at hu; subst hu; rfl
  case c3 => unfold maxLen; omega
  case c4 => omega
  case c5 => have := hB.size; simp; omega
  ·intro v' w1 hown' hgrow _
   obtain ⟨g, cap, rfl⟩ := ownsRow_succ hown'
   obtain ⟨b1, b2, b3, b4, b5⟩ := hv.appended (by decide : (53 : Nat) ≠ 2) hrow hB.size (Nat.le_refl _) hown' hgrow
   have hc1 := b1.cell
   have hf1 := b1.frozen
   clear hgrow hown'
   gi_wp2
   exact ⟨b4.from _, b5, ⟨⟨_, b2, by simpa using b3, trivial⟩, hB.trans b5⟩⟩
 case done =>
  rintro D ys W hD rfl ⟨⟨v, hv, hrow, _⟩, hB⟩ hK
  have hc2 := hv.cell
  have hf2 := hv.frozen
  gi_wp2
  refine ⟨by simp, .inl ⟨_, _, rfl, run_takeDeferred hK, ?_⟩⟩
  exact ⟨_, results_tmp rfl _ _ _, ⟨v, rfl, ownsRow_putObj hrow _ hK rfl⟩, hB.trans (belowK_b (w := w) (Nat.le_refl _) W D _ _ (by simp at hD; omega) hK rfl rfl)⟩
 case stop =>
  rintro D c pre W _ _ h _
  exact h.elim
end
theorem x_slices_AppendSeq_ok (a0 : List Int) (q0 : List Int) (h : x_slices_AppendSeq a0 = some q0) : Ev Tryz.prog 152 [nilsl, fn (.func 151) [] [ptr [sl a0.length (a0.map i64)]]] [] (oref 0 0 0 q0.length) [⟨0, some (q0.map i64)⟩] := by
 unfold x_slices_AppendSeq at h
 cases hd : decide ((a0.length : Int) * 8 ≤ 140737488351232) with
 | false => rw [hd] at h; cases h
 | true =>
  rw [hd] at h
  cases h
  have hb := of_decide_eq_true hd
  refine Ev.ownsRow (t := 2) fun S w vs hw ha => ?_
  obtain ⟨b, off, sv, rfl, h1, h2, h3⟩ := seq_args hw ha
  exact callsIn_wide.1 (appendSeq_in Fence.wide 3 trivial trivial rfl (Nat.le_refl _) w b off sv a0 (by omega) h1 h2 h3)
noncomputable def x_slices_Collect_int64_0Fx_slices_Values_int64_int64_1 (a0 : List Int) : Option ((List Int)) :=
 obind (x_slices_AppendSeq a0) fun (r1 : List Int) =>
 some r1
theorem x_slices_Collect_int64_0Fx_slices_Values_int64_int64_1_ok (a0 : List Int) (q0 : List Int) (h : x_slices_Collect_int64_0Fx_slices_Values_int64_int64_1 a0 = some q0) : Ev Tryz.prog 150 [fn (.func 151) [] [ptr [sl a0.length (a0.map i64)]]] [] (oref 0 0 0 q0.length) [⟨0, some (q0.map i64)⟩] := by
 refine Ev.start Tryz.func150 rfl rfl 1 (τ := [(0, fn (.func 151) [] [ptr [sl a0.length (a0.map i64)]])]) rfl (Γ' := [⟨0, none⟩]) rfl (n := 11) rfl (g := 0) rfl (fun _ => rfl) ?_
 unfold x_slices_Collect_int64_0Fx_slices_Values_int64_int64_1 at h
 refine zQ ?_
 refine zA (r := nilsl) rfl rfl rfl rfl rfl ?_
 refine zN ?_
 refine RunC.seq ?_
 obtain ⟨r1, hf1, h⟩ := obind_some h
 refine RunC.regionW ?_
 refine zM (r := fn (.func 151) [] [ptr [sl a0.length (a0.map i64)]]) rfl rfl rfl rfl rfl ?_
 refine ROps.d (r := oref 0 1 0 r1.length) (fs := [(0, (r1.map i64))]) (Γ' := [⟨1, some (r1.map i64)⟩]) rfl rfl rfl (TOp.callBN (ls := [(r1.map i64)]) [0] (CallAs.func ent152 rfl rfl) (Bors.cons (Bor.pure rfl) (Bors.cons (Bor.fn Bors.nil (Bors.cons (Bor.ptr (Bors.cons (Bor.sl (fun _ => rfl)) Bors.nil)) Bors.nil)) Bors.nil)) rfl (x_slices_AppendSeq_ok a0 r1 hf1) (and_all (lts0_map (f := i64) (fun _ => rfl) _) rfl) (and_all (noss_map (f := i64) (fun _ => rfl) _) rfl) rfl (by decide) (ns_of ⟨⟨_, rfl⟩, trivial⟩)) rfl ?_
 refine zA (r := oref 0 1 0 r1.length) rfl rfl rfl rfl rfl ?_
 refine zN ?_
 refine RunC.ret ?_
 have hq := Option.some.inj h
 subst q0
 exact bodyQ.mk (r' := oref 0 1 0 r1.length) [(0, 1)] (.inr rfl) rfl (show List.Nodup [0] from by decide) rfl rfl (Res.one rfl (RV.tmp rfl)) (SelL.arr0 (f := i64) (fun _ => rfl) rfl trivial)
noncomputable def x_math_bits_Len64 (a0 : Int) : Option (Int) :=
 bsel (decide (4294967296 ≤ a0)) (
  none) (
  bsel (decide (65536 ≤ a0)) (
   none) (
   bsel (decide (256 ≤ a0)) (
    none) (
    olet (IntKind.u8.wrap a0) fun (x1 : Int) =>
    obind (sat? lit_77d67bd0 x1) fun (e2 : Int) =>
    olet (IntKind.i64.wrap e2) fun (x3 : Int) =>
    olet (IntKind.i64.wrap (0 + x3)) fun (x4 : Int) =>
    some x4)))
theorem x_math_bits_Len64_ok (a0 : Int) (q0 : Int) (h : x_math_bits_Len64 a0 = some q0) : Ev Tryz.prog 116 [ik .u64 a0] [] (i64 q0) [] := by
 refine Ev.start Tryz.func116 rfl rfl 0 (τ := [(0, ik .u64 a0)]) rfl (Γ' := []) rfl (n := 51) rfl (g := 0) rfl (fun _ => rfl) ?_
 unfold x_math_bits_Len64 at h
 refine zQ ?_
 refine zA (r := i64 0) rfl rfl rfl rfl rfl ?_
 refine zN ?_
 refine RunC.seq ?_
 refine RunC.seq ?_
 rcases bsel_some h with ⟨hc1, h⟩ | ⟨hc1, h⟩
 ·refine RunC.regionW ?_
  refine zM (r := ik .u64 a0) rfl rfl rfl rfl rfl ?_
  refine zL (r := b true) rfl rfl rfl (LOp.eqb (LOp.geq rfl rfl rfl) hc1) ?_
  refine zN ?_
  refine RunC.cond_true rfl rfl ?_
  refine RunC.seq ?_
  cases h
 ·refine RunC.regionW ?_
  refine zM (r := ik .u64 a0) rfl rfl rfl rfl rfl ?_
  refine zL (r := b false) rfl rfl rfl (LOp.eqb (LOp.geq rfl rfl rfl) hc1) ?_
  refine zN ?_
  refine RunC.cond_false rfl rfl ?_
  refine RunC.skip ?_
  refine RunC.seq ?_
  refine RunC.seq ?_
  rcases bsel_some h with ⟨hc2, h⟩ | ⟨hc2, h⟩
  ·refine RunC.regionW ?_
   refine zM (r := ik .u64 a0) rfl rfl rfl rfl rfl ?_
   refine zL (r := b true) rfl rfl rfl (LOp.eqb (LOp.geq rfl rfl rfl) hc2) ?_
   refine zN ?_
   refine RunC.cond_true rfl rfl ?_
   refine RunC.seq ?_
   cases h
  ·refine RunC.regionW ?_
   refine zM (r := ik .u64 a0) rfl rfl rfl rfl rfl ?_
   refine zL (r := b false) rfl rfl rfl (LOp.eqb (LOp.geq rfl rfl rfl) hc2) ?_
   refine zN ?_
   refine RunC.cond_false rfl rfl ?_
   refine RunC.skip ?_
   refine RunC.seq ?_
   refine RunC.seq ?_
   rcases bsel_some h with ⟨hc3, h⟩ | ⟨hc3, h⟩
   ·refine RunC.regionW ?_
    refine zM (r := ik .u64 a0) rfl rfl rfl rfl rfl ?_
    refine zL (r := b true) rfl rfl rfl (LOp.eqb (LOp.geq rfl rfl rfl) hc3) ?_
    refine zN ?_
    refine RunC.cond_true rfl rfl ?_
    refine RunC.seq ?_
    cases h
   ·refine RunC.regionW ?_
    refine zM (r := ik .u64 a0) rfl rfl rfl rfl rfl ?_
    refine zL (r := b false) rfl rfl rfl (LOp.eqb (LOp.geq rfl rfl rfl) hc3) ?_
    refine zN ?_
    refine RunC.cond_false rfl rfl ?_
    refine RunC.skip ?_
    refine RunC.seq ?_
    obtain ⟨x1, hx4, h⟩ := olet_some h
    obtain ⟨e2, he5, h⟩ := obind_some h
    obtain ⟨x3, hx6, h⟩ := olet_some h
    obtain ⟨x4, hx7, h⟩ := olet_some h
    refine RunC.regionW ?_
    refine zM (r := i64 0) rfl rfl rfl rfl rfl ?_
    refine zM (r := ik .u64 a0) rfl rfl rfl rfl rfl ?_
    refine zL (r := ik .u8 x1) rfl rfl rfl (LOp.eqr (LOp.i2i (src := 121) (dst := 5) ⟨_, pun121⟩ pun5 rfl rfl) (congrArg (ik .u8) hx4)) ?_
    refine zL (r := ik .u8 e2) rfl rfl rfl (LOp.index_str und9 rfl rfl rfl he5) ?_
    refine zL (r := i64 x3) rfl rfl rfl (LOp.eqr (LOp.i2i (src := 5) (dst := 3) ⟨_, pun5⟩ pun3 rfl rfl) (congrArg (ik .i64) hx6)) ?_
    refine zL (r := i64 x4) rfl rfl rfl (LOp.eqr (LOp.add rfl rfl rfl) (congrArg (ik .i64) hx7)) ?_
    refine zA (r := i64 x4) rfl rfl rfl rfl rfl ?_
    refine zN ?_
    refine RunC.ret ?_
    have hq := Option.some.inj h
    subst q0
    exact bodyQ.pure (.inr rfl) rfl (Res.one rfl (RV.tmp rfl))
noncomputable def x_math_bits_Len (a0 : Int) : Option (Int) :=
 obind (x_math_bits_Len64 a0) fun (r1 : Int) =>
 some r1
theorem x_math_bits_Len_ok (a0 : Int) (q0 : Int) (h : x_math_bits_Len a0 = some q0) : Ev Tryz.prog 69 [ik .u64 a0] [] (i64 q0) [] := by
 refine Ev.start Tryz.func69 rfl rfl 0 (τ := [(0, ik .u64 a0)]) rfl (Γ' := []) rfl (n := 17) rfl (g := 0) rfl (fun _ => rfl) ?_
 unfold x_math_bits_Len at h
 refine zQ ?_
 refine zA (r := i64 0) rfl rfl rfl rfl rfl ?_
 refine zN ?_
 refine RunC.seq ?_
 refine RunC.cond_false rfl rfl ?_
 refine RunC.skip ?_
 refine RunC.seq ?_
 obtain ⟨r1, hf1, h⟩ := obind_some h
 refine RunC.regionW ?_
 refine zM (r := ik .u64 a0) rfl rfl rfl rfl rfl ?_
 refine ROps.d (r := i64 r1) (fs := []) (Γ' := []) rfl rfl rfl (TOp.callB (CallAs.func ent116 rfl rfl) (Bors.cons (Bor.pure rfl) Bors.nil) rfl rfl (x_math_bits_Len64_ok a0 r1 hf1)) rfl ?_
 refine zA (r := i64 r1) rfl rfl rfl rfl rfl ?_
 refine zN ?_
 refine RunC.ret ?_
 have hq := Option.some.inj h
 subst q0
 exact bodyQ.pure (.inr rfl) rfl (Res.one rfl (RV.tmp rfl))
noncomputable def x_cmp_isNaN_int64 (a0 : Int) : Option (Bool) :=
 some (!decide (a0 = a0))
theorem x_cmp_isNaN_int64_ok (a0 : Int) (q0 : Bool) (h : x_cmp_isNaN_int64 a0 = some q0) : Ev Tryz.prog 138 [i64 a0] [] (b q0) [] := by
 refine Ev.start Tryz.func138 rfl rfl 0 (τ := [(0, i64 a0)]) rfl (Γ' := []) rfl (n := 13) rfl (g := 0) rfl (fun _ => rfl) ?_
 unfold x_cmp_isNaN_int64 at h
 refine zQ ?_
 refine zA (r := b false) rfl rfl rfl rfl rfl ?_
 refine zN ?_
 refine zQ ?_
 refine zM (r := i64 a0) rfl rfl rfl rfl rfl ?_
 refine zM (r := i64 a0) rfl rfl rfl rfl rfl ?_
 refine zL (r := b (!decide (a0 = a0))) rfl rfl rfl (LOp.neq rfl rfl rfl) ?_
 refine zA (r := b (!decide (a0 = a0))) rfl rfl rfl rfl rfl ?_
 refine zN ?_
 refine RunC.ret ?_
 have hq := Option.some.inj h
 subst q0
 exact bodyQ.pure (.inr rfl) rfl (Res.one rfl (RV.tmp rfl))
noncomputable def x_cmp_Less_int64 (a0 : Int) (a1 : Int) : Option (Bool) :=
 obind (x_cmp_isNaN_int64 a0) fun (r1 : Bool) =>
 bsel r1 (
  obind (x_cmp_isNaN_int64 a1) fun (r2 : Bool) =>
  bsel r2 (
   some (decide (a0 < a1))) (
   some true)) (
  some (decide (a0 < a1)))
theorem x_cmp_Less_int64_ok (a0 : Int) (a1 : Int) (q0 : Bool) (h : x_cmp_Less_int64 a0 a1 = some q0) : Ev Tryz.prog 112 [i64 a0, i64 a1] [] (b q0) [] := by
 refine Ev.start Tryz.func112 rfl rfl 0 (τ := [(0, i64 a0), (1, i64 a1)]) rfl (Γ' := []) rfl (n := 35) rfl (g := 0) rfl (fun _ => rfl) ?_
 unfold x_cmp_Less_int64 at h
 refine zQ ?_
 refine zA (r := b false) rfl rfl rfl rfl rfl ?_
 refine zN ?_
 refine RunC.seq ?_
 obtain ⟨r1, hf1, h⟩ := obind_some h
 rcases bsel_some h with ⟨hc2, h⟩ | ⟨hc2, h⟩
 ·obtain ⟨r2, hf3, h⟩ := obind_some h
  rcases bsel_some h with ⟨hc4, h⟩ | ⟨hc4, h⟩
  ·refine RunC.regionW ?_
   refine zM (r := i64 a0) rfl rfl rfl rfl rfl ?_
   refine ROps.d (r := b true) (fs := []) (Γ' := []) rfl rfl rfl (TOp.eqb (TOp.callB (CallAs.func ent138 rfl rfl) (Bors.cons (Bor.pure rfl) Bors.nil) rfl rfl (x_cmp_isNaN_int64_ok a0 r1 hf1)) hc2) rfl ?_
   refine zM (r := b true) rfl rfl rfl rfl rfl ?_
   refine zM (r := i64 a1) rfl rfl rfl rfl rfl ?_
   refine ROps.d (r := b true) (fs := []) (Γ' := []) rfl rfl rfl (TOp.eqb (TOp.callB (CallAs.func ent138 rfl rfl) (Bors.cons (Bor.pure rfl) Bors.nil) rfl rfl (x_cmp_isNaN_int64_ok a1 r2 hf3)) hc4) rfl ?_
   refine zL (r := b false) rfl rfl rfl (LOp.eqb (LOp.not rfl rfl) rfl) ?_
   refine zL (r := b false) rfl rfl rfl (LOp.pick_true rfl rfl rfl) ?_
   refine zM (r := b false) rfl rfl rfl rfl rfl ?_
   refine zM (r := i64 a0) rfl rfl rfl rfl rfl ?_
   refine zM (r := i64 a1) rfl rfl rfl rfl rfl ?_
   refine zL (r := b (decide (a0 < a1))) rfl rfl rfl (LOp.lss rfl rfl rfl) ?_
   refine zL (r := b (decide (a0 < a1))) rfl rfl rfl (LOp.pick_false rfl rfl rfl) ?_
   refine zA (r := b (decide (a0 < a1))) rfl rfl rfl rfl rfl ?_
   refine zN ?_
   refine RunC.ret ?_
   have hq := Option.some.inj h
   subst q0
   exact bodyQ.pure (.inr rfl) rfl (Res.one rfl (RV.tmp rfl))
  ·refine RunC.regionW ?_
   refine zM (r := i64 a0) rfl rfl rfl rfl rfl ?_
   refine ROps.d (r := b true) (fs := []) (Γ' := []) rfl rfl rfl (TOp.eqb (TOp.callB (CallAs.func ent138 rfl rfl) (Bors.cons (Bor.pure rfl) Bors.nil) rfl rfl (x_cmp_isNaN_int64_ok a0 r1 hf1)) hc2) rfl ?_
   refine zM (r := b true) rfl rfl rfl rfl rfl ?_
   refine zM (r := i64 a1) rfl rfl rfl rfl rfl ?_
   refine ROps.d (r := b false) (fs := []) (Γ' := []) rfl rfl rfl (TOp.eqb (TOp.callB (CallAs.func ent138 rfl rfl) (Bors.cons (Bor.pure rfl) Bors.nil) rfl rfl (x_cmp_isNaN_int64_ok a1 r2 hf3)) hc4) rfl ?_
   refine zL (r := b true) rfl rfl rfl (LOp.eqb (LOp.not rfl rfl) rfl) ?_
   refine zL (r := b true) rfl rfl rfl (LOp.pick_true rfl rfl rfl) ?_
   refine zM (r := b true) rfl rfl rfl rfl rfl ?_
   refine ROps.s rfl rfl rfl ?_
   refine ROps.s rfl rfl rfl ?_
   refine ROps.s rfl rfl rfl ?_
   refine zL (r := b true) rfl rfl rfl (LOp.pick_true rfl rfl rfl) ?_
   refine zA (r := b true) rfl rfl rfl rfl rfl ?_
   refine zN ?_
   refine RunC.ret ?_
   have hq := Option.some.inj h
   subst q0
   exact bodyQ.pure (.inr rfl) rfl (Res.one rfl (RV.tmp rfl))
 ·refine RunC.regionW ?_
  refine zM (r := i64 a0) rfl rfl rfl rfl rfl ?_
  refine ROps.d (r := b false) (fs := []) (Γ' := []) rfl rfl rfl (TOp.eqb (TOp.callB (CallAs.func ent138 rfl rfl) (Bors.cons (Bor.pure rfl) Bors.nil) rfl rfl (x_cmp_isNaN_int64_ok a0 r1 hf1)) hc2) rfl ?_
  refine zM (r := b false) rfl rfl rfl rfl rfl ?_
  refine ROps.s rfl rfl rfl ?_
  refine ROps.s rfl rfl rfl ?_
  refine ROps.s rfl rfl rfl ?_
  refine zL (r := b false) rfl rfl rfl (LOp.pick_false rfl rfl rfl) ?_
  refine zM (r := b false) rfl rfl rfl rfl rfl ?_
  refine zM (r := i64 a0) rfl rfl rfl rfl rfl ?_
  refine zM (r := i64 a1) rfl rfl rfl rfl rfl ?_
  refine zL (r := b (decide (a0 < a1))) rfl rfl rfl (LOp.lss rfl rfl rfl) ?_
  refine zL (r := b (decide (a0 < a1))) rfl rfl rfl (LOp.pick_false rfl rfl rfl) ?_
  refine zA (r := b (decide (a0 < a1))) rfl rfl rfl rfl rfl ?_
  refine zN ?_
  refine RunC.ret ?_
  have hq := Option.some.inj h
  subst q0
  exact bodyQ.pure (.inr rfl) rfl (Res.one rfl (RV.tmp rfl))
noncomputable def x_slices_insertionSortOrdered_int64_0o_b2 (a0 : Int) (L5 : List Int) (v7 : Int) : Option (LR ((List Int) × Int) ((List Int)) ((List Int))) :=
 bsel (decide (a0 < v7)) (
  obind (at? L5 v7) fun (e8 : Int) =>
  olet (IntKind.i64.wrap (v7 - 1)) fun (x9 : Int) =>
  obind (at? L5 x9) fun (e10 : Int) =>
  obind (x_cmp_Less_int64 e8 e10) fun (r11 : Bool) =>
  bsel r11 (
   olet (IntKind.i64.wrap (v7 - 1)) fun (x12 : Int) =>
   olet (IntKind.i64.wrap (v7 - 1)) fun (x13 : Int) =>
   obind (at? L5 x13) fun (e14 : Int) =>
   obind (at? L5 v7) fun (e15 : Int) =>
   obind (setAt? L5 v7 e14) fun (L16 : List Int) =>
   obind (setAt? L16 x12 e15) fun (L17 : List Int) =>
   olet (IntKind.i64.wrap (v7 - 1)) fun (x18 : Int) =>
   some (LR.next (L17, x18))) (
   some (LR.out L5))) (
  some (LR.out L5))
noncomputable def x_slices_insertionSortOrdered_int64_0o_s2 (a0 : Int) : ((List Int) × Int) → Option (LR ((List Int) × Int) ((List Int)) ((List Int))) := fun s => x_slices_insertionSortOrdered_int64_0o_b2 a0 s.1 s.2
noncomputable def x_slices_insertionSortOrdered_int64_0o_k2 (v4 : Int) (L19 : List Int) : Option (LR ((List Int) × Int) ((List Int)) ((List Int))) :=
 olet (IntKind.i64.wrap (v4 + 1)) fun (x21 : Int) =>
 some (LR.next (L19, x21))
noncomputable def x_slices_insertionSortOrdered_int64_0o_b3 (a0 : Int) (a1 : Int) (L2 : List Int) (v4 : Int) : Option (LR ((List Int) × Int) ((List Int)) ((List Int))) :=
 bsel (decide (v4 < a1)) (
  obind (loopM (x_slices_insertionSortOrdered_int64_0o_s2 a0) (L2, v4)) fun z => osum z (fun e => x_slices_insertionSortOrdered_int64_0o_k2 v4 e) (fun r => some (LR.ret r))) (
  some (LR.out L2))
noncomputable def x_slices_insertionSortOrdered_int64_0o_s3 (a0 : Int) (a1 : Int) : ((List Int) × Int) → Option (LR ((List Int) × Int) ((List Int)) ((List Int))) := fun s => x_slices_insertionSortOrdered_int64_0o_b3 a0 a1 s.1 s.2
noncomputable def x_slices_insertionSortOrdered_int64_0o_k3 (L22 : List Int) : Option ((List Int)) :=
 some L22
noncomputable def x_slices_insertionSortOrdered_int64_0o (a0 : Int) (a1 : Int) (a2 : List Int) : Option ((List Int)) :=
 olet (IntKind.i64.wrap (a0 + 1)) fun (x1 : Int) =>
 obind (loopM (x_slices_insertionSortOrdered_int64_0o_s3 a0 a1) (a2, x1)) fun z => osum z (fun e => x_slices_insertionSortOrdered_int64_0o_k3 e) (fun r => some r)
theorem x_slices_insertionSortOrdered_int64_0o_ok (a0 : Int) (a1 : Int) (a2 : List Int) (q0 : List Int) (h : x_slices_insertionSortOrdered_int64_0o a0 a1 a2 = some q0) : Ev Tryz.prog 106 [oref 0 0 0 a2.length, i64 a0, i64 a1] [⟨0, some (a2.map i64)⟩] (tup []) [⟨0, some (q0.map i64)⟩] := by
 refine Ev.start Tryz.func106 rfl rfl 0 (τ := [(0, oref 0 0 0 a2.length), (1, i64 a0), (2, i64 a1)]) rfl (Γ' := [⟨0, some (a2.map i64)⟩]) rfl (n := 98) rfl (g := 1) rfl (by decide) ?_
 unfold x_slices_insertionSortOrdered_int64_0o at h
 refine RunC.seq ?_
 obtain ⟨x1, hx1, h⟩ := olet_some h
 refine RunC.regionW ?_
 refine zM (r := i64 a0) rfl rfl rfl rfl rfl ?_
 refine zL (r := i64 x1) rfl rfl rfl (LOp.eqr (LOp.add rfl rfl rfl) (congrArg (ik .i64) hx1)) ?_
 refine zA (r := i64 x1) rfl rfl rfl rfl rfl ?_
 refine zN ?_
 obtain ⟨z4, hz_4, h⟩ := obind_some h
 refine RunC.cutN (fun τ Γ => ∃ (L22 : List Int), L22.length = a2.length ∧ WeakLe τ [] ∧ DeadLe Γ [⟨0, some (L22.map i64)⟩] ∧ z4 = .inl L22) ?_ ?_
 ·refine RunC.block (RunC.loop (RunL.loopM (x := z4) (x_slices_insertionSortOrdered_int64_0o_s3 a0 a1) (fun (s : (List Int) × Int) τ Γ => s.1.length = a2.length ∧ WeakLe τ [(0, oref 0 0 0 a2.length), (1, i64 a0), (2, i64 a1), (6, i64 s.2)] ∧ DeadLe Γ [⟨0, some (s.1.map i64)⟩]) ?_ _ _ _ hz_4 ⟨rfl, ⟨aR, aR, aR, aR, trivial⟩, ⟨⟨rfl, .inr rfl⟩, trivial⟩⟩))
  rintro ⟨L2, v4⟩ τ4 Γ4 y4_ ⟨hl3, hw4, hd4⟩ h4_ ho4 hr4
  refine RunC.wl (τ' := [(0, oref 0 0 0 a2.length), (1, i64 a0), (2, i64 a1), (6, i64 v4)]) (Γ' := [⟨0, some (L2.map i64)⟩]) hw4 hd4 ?_
  replace hl3 : L2.length = a2.length := hl3
  replace h4_ : x_slices_insertionSortOrdered_int64_0o_b3 a0 a1 L2 v4 = some y4_ := h4_
  unfold x_slices_insertionSortOrdered_int64_0o_b3 at h4_
  refine RunC.seq ?_
  refine RunC.seq ?_
  rcases bsel_some h4_ with ⟨hc2, h4_⟩ | ⟨hc2, h4_⟩
  ·refine RunC.regionW ?_
   refine zM (r := i64 v4) rfl rfl rfl rfl rfl ?_
   refine zM (r := i64 a1) rfl rfl rfl rfl rfl ?_
   refine zL (r := b true) rfl rfl rfl (LOp.eqb (LOp.lss rfl rfl rfl) hc2) ?_
   refine zN ?_
   refine RunC.cond_true rfl rfl ?_
   refine RunC.skip ?_
   refine RunC.seq ?_
   refine RunC.block ?_
   refine zQ ?_
   refine zM (r := i64 v4) rfl rfl rfl rfl rfl ?_
   refine zA (r := i64 v4) rfl rfl rfl rfl rfl ?_
   refine zN ?_
   obtain ⟨z5, hz_5, h4_⟩ := obind_some h4_
   refine RunC.cutN (fun τ Γ => ∃ (L19 : List Int), L19.length = a2.length ∧ WeakLe τ [(0, oref 0 0 0 a2.length), (1, i64 a0), (2, i64 a1), (6, i64 v4)] ∧ DeadLe Γ [⟨0, some (L19.map i64)⟩] ∧ z5 = .inl L19) ?_ ?_
   ·refine RunC.block (RunC.loop (RunL.loopM (x := z5) (x_slices_insertionSortOrdered_int64_0o_s2 a0) (fun (s : (List Int) × Int) τ Γ => s.1.length = a2.length ∧ WeakLe τ [(0, oref 0 0 0 a2.length), (1, i64 a0), (2, i64 a1), (6, i64 v4), (7, i64 s.2)] ∧ DeadLe Γ [⟨0, some (s.1.map i64)⟩]) ?_ _ _ _ hz_5 ⟨hl3, ⟨aR, aR, aR, aR, aR, trivial⟩, ⟨⟨rfl, .inr rfl⟩, trivial⟩⟩))
    rintro ⟨L5, v7⟩ τ5 Γ5 y5_ ⟨hl6, hw5, hd5⟩ h5_ ho5 hr5
    refine RunC.wl (τ' := [(0, oref 0 0 0 a2.length), (1, i64 a0), (2, i64 a1), (6, i64 v4), (7, i64 v7)]) (Γ' := [⟨0, some (L5.map i64)⟩]) hw5 hd5 ?_
    replace hl6 : L5.length = a2.length := hl6
    replace h5_ : x_slices_insertionSortOrdered_int64_0o_b2 a0 L5 v7 = some y5_ := h5_
    unfold x_slices_insertionSortOrdered_int64_0o_b2 at h5_
    refine RunC.seq ?_
    refine RunC.seq ?_
    rcases bsel_some h5_ with ⟨hc3, h5_⟩ | ⟨hc3, h5_⟩
    ·obtain ⟨e8, he4, h5_⟩ := obind_some h5_
     obtain ⟨x9, hx5, h5_⟩ := olet_some h5_
     obtain ⟨e10, he6, h5_⟩ := obind_some h5_
     obtain ⟨r11, hf7, h5_⟩ := obind_some h5_
     rcases bsel_some h5_ with ⟨hc8, h5_⟩ | ⟨hc8, h5_⟩
     ·refine RunC.region_draw (Γ' := [⟨0, some (L5.map i64)⟩]) 15 mixed 
       (TR.l (r := i64 v7) rfl rfl (LOp.move rfl rfl) <|
       (TR.l (r := i64 a0) rfl rfl (LOp.move rfl rfl) <|
       (TR.l (r := b true) rfl rfl (LOp.eqb (LOp.gtr rfl rfl rfl) hc3) <|
       (TR.l (r := b true) rfl rfl (LOp.move rfl rfl) <|
       (TR.l (r := oref 0 0 0 a2.length) rfl rfl (LOp.move rfl rfl) <|
       (TR.l (r := i64 v7) rfl rfl (LOp.move rfl rfl) <|
       (TR.d (r := optr 0 0 v7.toNat) (fs := []) rfl rfl (TOp.ixo und53 siz2 rfl rfl rfl (at_in he4 hl6) rfl) <|
       (TR.d (r := i64 e8) (fs := []) rfl rfl (TOp.load1_o rfl (at_cell he4) agg2 rfl rfl) <|
       (TR.l (r := oref 0 0 0 a2.length) rfl rfl (LOp.move rfl rfl) <|
       (TR.l (r := i64 v7) rfl rfl (LOp.move rfl rfl) <|
       (TR.l (r := i64 x9) rfl rfl (LOp.eqr (LOp.sub rfl rfl rfl) (congrArg (ik .i64) hx5)) <|
       (TR.d (r := optr 0 0 x9.toNat) (fs := []) rfl rfl (TOp.ixo und53 siz2 rfl rfl rfl (at_in he6 hl6) rfl) <|
       (TR.d (r := i64 e10) (fs := []) rfl rfl (TOp.load1_o rfl (at_cell he6) agg2 rfl rfl) <|
       (TR.d (r := b true) (fs := []) rfl rfl (TOp.eqb (TOp.callB (CallAs.func ent112 rfl rfl) (Bors.cons (Bor.pure rfl) (Bors.cons (Bor.pure rfl) Bors.nil)) rfl rfl (x_cmp_Less_int64_ok e8 e10 r11 hf7)) hc8) <|
       (TR.l (r := b true) rfl rfl (LOp.pick_true rfl rfl rfl) <|
       TR.nil))))))))))))))) rfl (by kernel_rfl) rfl fills_nil rfl ?_
      iterate 15 refine ROps.dropS ?_
      refine ROps.drop0 ?_
      refine zN ?_
      refine RunC.cond_true rfl rfl ?_
      refine RunC.skip ?_
      refine RunC.seq ?_
      refine RunC.block ?_
      obtain ⟨x12, hx9, h5_⟩ := olet_some h5_
      obtain ⟨x13, hx10, h5_⟩ := olet_some h5_
      obtain ⟨e14, he11, h5_⟩ := obind_some h5_
      obtain ⟨e15, he12, h5_⟩ := obind_some h5_
      obtain ⟨L16, he13, h5_⟩ := obind_some h5_
      obtain ⟨L17, he14, h5_⟩ := obind_some h5_
      refine RunC.region_draw (Γ' := [⟨0, some (L5.map i64)⟩]) 15 mixed 
       (TR.l (r := oref 0 0 0 a2.length) rfl rfl (LOp.move rfl rfl) <|
       (TR.l (r := i64 v7) rfl rfl (LOp.move rfl rfl) <|
       (TR.loose (r := oref 0 0 0 a2.length) rfl rfl (LOp.move rfl rfl) <|
       (TR.loose (r := i64 v7) rfl rfl (LOp.move rfl rfl) <|
       (TR.loose (r := i64 x12) rfl rfl (LOp.eqr (LOp.sub rfl rfl rfl) (congrArg (ik .i64) hx9)) <|
       (TR.l (r := oref 0 0 0 a2.length) rfl rfl (LOp.move rfl rfl) <|
       (TR.l (r := i64 v7) rfl rfl (LOp.move rfl rfl) <|
       (TR.l (r := i64 x13) rfl rfl (LOp.eqr (LOp.sub rfl rfl rfl) (congrArg (ik .i64) hx10)) <|
       (TR.d (r := optr 0 0 x13.toNat) (fs := []) rfl rfl (TOp.ixo und53 siz2 rfl rfl rfl (at_in he11 hl6) rfl) <|
       (TR.d (r := i64 e14) (fs := []) rfl rfl (TOp.load1_o rfl (at_cell he11) agg2 rfl rfl) <|
       (TR.l (r := oref 0 0 0 a2.length) rfl rfl (LOp.move rfl rfl) <|
       (TR.l (r := i64 v7) rfl rfl (LOp.move rfl rfl) <|
       (TR.d (r := optr 0 0 v7.toNat) (fs := []) rfl rfl (TOp.ixo und53 siz2 rfl rfl rfl (at_in he12 hl6) rfl) <|
       (TR.d (r := i64 e15) (fs := []) rfl rfl (TOp.load1_o rfl (at_cell he12) agg2 rfl rfl) <|
       (TR.d (r := optr 0 0 v7.toNat) (fs := []) rfl rfl (TOp.ixo und53 siz2 rfl rfl rfl (set_in he13 hl6) rfl) <|
       TR.nil))))))))))))))) rfl (by kernel_rfl) rfl fills_nil rfl ?_
      iterate 15 refine ROps.dropS ?_
      refine ROps.drop0 ?_
      refine ROps.st (f := i64) (i := v7) (Γ' := [⟨0, some (L16.map i64)⟩]) rfl siz2 rfl rfl rfl aR rfl rfl rfl he13 rfl ?_
      refine ROps.d (r := optr 0 0 x12.toNat) (fs := []) (Γ' := [⟨0, some (L16.map i64)⟩]) rfl rfl rfl (TOp.ixo und53 siz2 rfl rfl rfl (set_in he14 ((setAt?_len he13).trans hl6)) rfl) rfl ?_
      refine ROps.st (f := i64) (i := x12) (Γ' := [⟨0, some (L17.map i64)⟩]) rfl siz2 rfl rfl rfl aR rfl rfl rfl he14 rfl ?_
      refine zN ?_
      refine RunC.wl (τ' := [(0, oref 0 0 0 a2.length), (1, i64 a0), (2, i64 a1), (6, i64 v4), (7, i64 v7), (20, oref 0 0 0 a2.length), (21, i64 v7), (22, optr 0 0 v7.toNat), (23, i64 e8), (24, oref 0 0 0 a2.length), (25, i64 v7), (26, i64 x9), (27, optr 0 0 x9.toNat), (28, i64 e10), (29, b true)]) (Γ' := [⟨0, some (L17.map i64)⟩]) ⟨aR, aR, aR, aR, aR, aR, aR, aR, aR, aR, aR, aR, aR, aR, aR, trivial⟩ ⟨⟨rfl, .inr rfl⟩, trivial⟩ ?_
      obtain ⟨x18, hx15, h5_⟩ := olet_some h5_
      refine RunC.regionW ?_
      refine zM (r := i64 v7) rfl rfl rfl rfl rfl ?_
      refine zL (r := i64 x18) rfl rfl rfl (LOp.eqr (LOp.sub rfl rfl rfl) (congrArg (ik .i64) hx15)) ?_
      refine zA (r := i64 x18) rfl rfl rfl rfl rfl ?_
      refine zN ?_
      cases Option.some.inj h5_
      exact ⟨_, rfl, ((setAt?_len he14).trans ((setAt?_len he13).trans hl6)), ⟨aR, aR, aR, aR, aR, trivial⟩, ⟨⟨rfl, .inr rfl⟩, trivial⟩⟩
     ·refine RunC.region_draw (Γ' := [⟨0, some (L5.map i64)⟩]) 15 mixed 
       (TR.l (r := i64 v7) rfl rfl (LOp.move rfl rfl) <|
       (TR.l (r := i64 a0) rfl rfl (LOp.move rfl rfl) <|
       (TR.l (r := b true) rfl rfl (LOp.eqb (LOp.gtr rfl rfl rfl) hc3) <|
       (TR.l (r := b true) rfl rfl (LOp.move rfl rfl) <|
       (TR.l (r := oref 0 0 0 a2.length) rfl rfl (LOp.move rfl rfl) <|
       (TR.l (r := i64 v7) rfl rfl (LOp.move rfl rfl) <|
       (TR.d (r := optr 0 0 v7.toNat) (fs := []) rfl rfl (TOp.ixo und53 siz2 rfl rfl rfl (at_in he4 hl6) rfl) <|
       (TR.d (r := i64 e8) (fs := []) rfl rfl (TOp.load1_o rfl (at_cell he4) agg2 rfl rfl) <|
       (TR.l (r := oref 0 0 0 a2.length) rfl rfl (LOp.move rfl rfl) <|
       (TR.l (r := i64 v7) rfl rfl (LOp.move rfl rfl) <|
       (TR.l (r := i64 x9) rfl rfl (LOp.eqr (LOp.sub rfl rfl rfl) (congrArg (ik .i64) hx5)) <|
       (TR.d (r := optr 0 0 x9.toNat) (fs := []) rfl rfl (TOp.ixo und53 siz2 rfl rfl rfl (at_in he6 hl6) rfl) <|
       (TR.d (r := i64 e10) (fs := []) rfl rfl (TOp.load1_o rfl (at_cell he6) agg2 rfl rfl) <|
       (TR.d (r := b false) (fs := []) rfl rfl (TOp.eqb (TOp.callB (CallAs.func ent112 rfl rfl) (Bors.cons (Bor.pure rfl) (Bors.cons (Bor.pure rfl) Bors.nil)) rfl rfl (x_cmp_Less_int64_ok e8 e10 r11 hf7)) hc8) <|
       (TR.l (r := b false) rfl rfl (LOp.pick_true rfl rfl rfl) <|
       TR.nil))))))))))))))) rfl (by kernel_rfl) rfl fills_nil rfl ?_
      iterate 15 refine ROps.dropS ?_
      refine ROps.drop0 ?_
      refine zN ?_
      refine RunC.cond_false rfl rfl ?_
      refine RunC.exit ?_
      cases Option.some.inj h5_
      have hx := ho5 _ rfl
      exact ⟨L5, hl6, ⟨aR, aR, aR, aR, trivial⟩, ⟨⟨rfl, .inr rfl⟩, trivial⟩, hx⟩
    ·refine RunC.region_draw (Γ' := [⟨0, some (L5.map i64)⟩]) 15 mixed 
      (TR.l (r := i64 v7) rfl rfl (LOp.move rfl rfl) <|
      (TR.l (r := i64 a0) rfl rfl (LOp.move rfl rfl) <|
      (TR.l (r := b false) rfl rfl (LOp.eqb (LOp.gtr rfl rfl rfl) hc3) <|
      (TR.l (r := b false) rfl rfl (LOp.move rfl rfl) <|
      (TR.s rfl rfl <|
      (TR.s rfl rfl <|
      (TR.s rfl rfl <|
      (TR.s rfl rfl <|
      (TR.s rfl rfl <|
      (TR.s rfl rfl <|
      (TR.s rfl rfl <|
      (TR.s rfl rfl <|
      (TR.s rfl rfl <|
      (TR.s rfl rfl <|
      (TR.l (r := b false) rfl rfl (LOp.pick_false rfl rfl rfl) <|
      TR.nil))))))))))))))) rfl (by kernel_rfl) rfl fills_nil rfl ?_
     iterate 15 refine ROps.dropS ?_
     refine ROps.drop0 ?_
     refine zN ?_
     refine RunC.cond_false rfl rfl ?_
     refine RunC.exit ?_
     cases Option.some.inj h5_
     have hx := ho5 _ rfl
     exact ⟨L5, hl6, ⟨aR, aR, aR, aR, trivial⟩, ⟨⟨rfl, .inr rfl⟩, trivial⟩, hx⟩
   ·rintro τ6 Γ6 ⟨L19, hl20, hw6, hd6, rfl⟩
    refine RunC.wl hw6 hd6 ?_
    replace h4_ : x_slices_insertionSortOrdered_int64_0o_k2 v4 L19 = some y4_ := h4_
    unfold x_slices_insertionSortOrdered_int64_0o_k2 at h4_
    obtain ⟨x21, hx16, h4_⟩ := olet_some h4_
    refine RunC.regionW ?_
    refine zM (r := i64 v4) rfl rfl rfl rfl rfl ?_
    refine zL (r := i64 x21) rfl rfl rfl (LOp.eqr (LOp.add rfl rfl rfl) (congrArg (ik .i64) hx16)) ?_
    refine zA (r := i64 x21) rfl rfl rfl rfl rfl ?_
    refine zN ?_
    cases Option.some.inj h4_
    exact ⟨_, rfl, hl20, ⟨aR, aR, aR, aR, trivial⟩, ⟨⟨rfl, .inr rfl⟩, trivial⟩⟩
  ·refine RunC.regionW ?_
   refine zM (r := i64 v4) rfl rfl rfl rfl rfl ?_
   refine zM (r := i64 a1) rfl rfl rfl rfl rfl ?_
   refine zL (r := b false) rfl rfl rfl (LOp.eqb (LOp.lss rfl rfl rfl) hc2) ?_
   refine zN ?_
   refine RunC.cond_false rfl rfl ?_
   refine RunC.exit ?_
   cases Option.some.inj h4_
   have hx := ho4 _ rfl
   exact ⟨L2, hl3, trivial, ⟨⟨rfl, .inr rfl⟩, trivial⟩, hx⟩
 ·rintro τ7 Γ7 ⟨L22, hl23, hw7, hd7, rfl⟩
  replace h : x_slices_insertionSortOrdered_int64_0o_k3 L22 = some q0 := h
  unfold x_slices_insertionSortOrdered_int64_0o_k3 at h
  refine bodyQ.wl hw7 hd7 ?_
  have hq := Option.some.inj h
  subst q0
  exact bodyQ.mk (r' := tup []) [(0, 0)] (.inl rfl) rfl (show List.Nodup [0] from by decide) rfl rfl (Res.zero rfl) (SelL.arr (f := i64) (fun _ => rfl) rfl trivial)
noncomputable def x_slices_pdqsortOrdered_int64_0o_b1 (a0 : Int) (a1 : Int) (a2 : Int) (a3 : List Int) : Option (LR (Unit) (Unit) ((List Int))) :=
 olet (IntKind.i64.wrap (a1 - a0)) fun (x1 : Int) =>
 bsel (decide (x1 ≤ 12)) (
  obind (x_slices_insertionSortOrdered_int64_0o a0 a1 a3) fun (r2 : List Int) =>
  need (decide (r2.length = a3.length)) <|
  some (LR.ret r2)) (
  bsel (decide (a2 = 0)) (
   none) (
   none))
noncomputable def x_slices_pdqsortOrdered_int64_0o_s1 (a0 : Int) (a1 : Int) (a2 : Int) (a3 : List Int) : (Unit) → Option (LR (Unit) (Unit) ((List Int))) := fun s => x_slices_pdqsortOrdered_int64_0o_b1 a0 a1 a2 a3
noncomputable def x_slices_pdqsortOrdered_int64_0o (a0 : Int) (a1 : Int) (a2 : Int) (a3 : List Int) : Option ((List Int)) :=
 obind (loopM (x_slices_pdqsortOrdered_int64_0o_s1 a0 a1 a2 a3) ()) fun z => osum z (fun _ => none) (fun r => some r)
theorem x_slices_pdqsortOrdered_int64_0o_ok (a0 : Int) (a1 : Int) (a2 : Int) (a3 : List Int) (q0 : List Int) (h : x_slices_pdqsortOrdered_int64_0o a0 a1 a2 a3 = some q0) : Ev Tryz.prog 68 [oref 0 0 0 a3.length, i64 a0, i64 a1, i64 a2] [⟨0, some (a3.map i64)⟩] (tup []) [⟨0, some (q0.map i64)⟩] := by
 refine Ev.start Tryz.func68 rfl rfl 0 (τ := [(0, oref 0 0 0 a3.length), (1, i64 a0), (2, i64 a1), (3, i64 a2)]) rfl (Γ' := [⟨0, some (a3.map i64)⟩]) rfl (n := 268) rfl (g := 1) rfl (by decide) ?_
 unfold x_slices_pdqsortOrdered_int64_0o at h
 refine zQ ?_
 refine zA (r := b true) rfl rfl rfl rfl rfl ?_
 refine zN ?_
 refine zQ ?_
 refine zA (r := b true) rfl rfl rfl rfl rfl ?_
 refine zN ?_
 obtain ⟨z2, hz_2, h⟩ := obind_some h
 refine RunC.block (RunC.loop (RunL.loopM (x := z2) (x_slices_pdqsortOrdered_int64_0o_s1 a0 a1 a2 a3) (fun (s : Unit) τ Γ => WeakLe τ [(0, oref 0 0 0 a3.length), (1, i64 a0), (2, i64 a1), (3, i64 a2), (8, b true), (9, b true)] ∧ DeadLe Γ [⟨0, some (a3.map i64)⟩]) ?_ _ _ _ hz_2 ⟨⟨aR, aR, aR, aR, aR, aR, trivial⟩, ⟨⟨rfl, .inr rfl⟩, trivial⟩⟩))
 rintro ⟨⟩ τ2 Γ2 y2_ ⟨hw2, hd2⟩ h2_ ho2 hr2
 refine RunC.wl (τ' := [(0, oref 0 0 0 a3.length), (1, i64 a0), (2, i64 a1), (3, i64 a2), (8, b true), (9, b true)]) (Γ' := [⟨0, some (a3.map i64)⟩]) hw2 hd2 ?_
 replace h2_ : x_slices_pdqsortOrdered_int64_0o_b1 a0 a1 a2 a3 = some y2_ := h2_
 unfold x_slices_pdqsortOrdered_int64_0o_b1 at h2_
 refine RunC.block ?_
 refine RunC.seq ?_
 obtain ⟨x1, hx1, h2_⟩ := olet_some h2_
 refine RunC.regionW ?_
 refine zM (r := i64 a1) rfl rfl rfl rfl rfl ?_
 refine zM (r := i64 a0) rfl rfl rfl rfl rfl ?_
 refine zL (r := i64 x1) rfl rfl rfl (LOp.eqr (LOp.sub rfl rfl rfl) (congrArg (ik .i64) hx1)) ?_
 refine zA (r := i64 x1) rfl rfl rfl rfl rfl ?_
 refine zN ?_
 refine RunC.seq ?_
 refine RunC.seq ?_
 rcases bsel_some h2_ with ⟨hc2, h2_⟩ | ⟨hc2, h2_⟩
 ·refine RunC.regionW ?_
  refine zM (r := i64 x1) rfl rfl rfl rfl rfl ?_
  refine zL (r := b true) rfl rfl rfl (LOp.eqb (LOp.leq rfl rfl rfl) hc2) ?_
  refine zN ?_
  refine RunC.cond_true rfl rfl ?_
  refine RunC.seq ?_
  obtain ⟨r2, hf3, h2_⟩ := obind_some h2_
  obtain ⟨hn4, h2_⟩ := need_some h2_
  refine RunC.regionW ?_
  refine zM (r := oref 0 0 0 a3.length) rfl rfl rfl rfl rfl ?_
  refine zM (r := i64 a0) rfl rfl rfl rfl rfl ?_
  refine zM (r := i64 a1) rfl rfl rfl rfl rfl ?_
  refine ROps.callO (A := [oref 0 0 0 a3.length, i64 a0, i64 a1]) (args := [oref 0 0 0 a3.length, i64 a0, i64 a1]) (Γc := [⟨0, some (a3.map i64)⟩]) (Γc' := [⟨0, some (r2.map i64)⟩]) (r' := tup []) (Γ' := [⟨0, some (r2.map i64)⟩]) [(0, 0)] [] rfl (CallAs.func ent106 rfl rfl) rfl rfl (SelOk.of (show List.Nodup [0] from by decide) (SelL.arr0 (f := i64) (fun _ => rfl) rfl trivial)) (live_of ⟨⟨_, _, rfl⟩, trivial⟩) (by simp [ren, rens, sigma, rens_f32, rens_f64, rens_i64, rens_ik, rens_str, rens_cp]) rfl (x_slices_insertionSortOrdered_int64_0o_ok a0 a1 a3 r2 hf3) rfl (news_of trivial) (show List.Nodup [0] from by decide) (by simp [ren, rens, sigma, of_decide_eq_true hn4]) (by simp [backOb, sigma, ren, rens, rens_f32, rens_f64, rens_i64, rens_ik, rens_str, rens_cp]) ?_
  refine zN ?_
  refine RunC.ret ?_
  cases Option.some.inj h2_
  have hx3_ := hr2 _ rfl
  subst hx3_
  have hq := Option.some.inj h
  subst q0
  exact bodyQ.mk (r' := tup []) [(0, 0)] (.inr rfl) rfl (show List.Nodup [0] from by decide) rfl rfl (Res.zero rfl) (SelL.arr (f := i64) (fun _ => rfl) rfl trivial)
 ·refine RunC.regionW ?_
  refine zM (r := i64 x1) rfl rfl rfl rfl rfl ?_
  refine zL (r := b false) rfl rfl rfl (LOp.eqb (LOp.leq rfl rfl rfl) hc2) ?_
  refine zN ?_
  refine RunC.cond_false rfl rfl ?_
  refine RunC.skip ?_
  refine RunC.seq ?_
  refine RunC.seq ?_
  rcases bsel_some h2_ with ⟨hc5, h2_⟩ | ⟨hc5, h2_⟩
  ·refine RunC.regionW ?_
   refine zM (r := i64 a2) rfl rfl rfl rfl rfl ?_
   refine zL (r := b true) rfl rfl rfl (LOp.eqb (LOp.eql rfl rfl rfl) hc5) ?_
   refine zN ?_
   refine RunC.cond_true rfl rfl ?_
   refine RunC.seq ?_
   cases h2_
  ·refine RunC.regionW ?_
   refine zM (r := i64 a2) rfl rfl rfl rfl rfl ?_
   refine zL (r := b false) rfl rfl rfl (LOp.eqb (LOp.eql rfl rfl rfl) hc5) ?_
   refine zN ?_
   refine RunC.cond_false rfl rfl ?_
   refine RunC.skip ?_
   refine RunC.seq ?_
   refine zQ ?_
   refine zM (r := b true) rfl rfl rfl rfl rfl ?_
   refine zL (r := b false) rfl rfl rfl (LOp.eqb (LOp.not rfl rfl) rfl) ?_
   refine zN ?_
   refine RunC.cond_false rfl rfl ?_
   refine RunC.skip ?_
   refine RunC.seq ?_
   cases h2_
noncomputable def x_slices_Sort_int64_int64_0o (a0 : List Int) : Option ((List Int)) :=
 olet (IntKind.u64.wrap ((a0.length : Nat) : Int)) fun (x1 : Int) =>
 obind (x_math_bits_Len x1) fun (r2 : Int) =>
 obind (x_slices_pdqsortOrdered_int64_0o 0 ((a0.length : Nat) : Int) r2 a0) fun (r3 : List Int) =>
 need (decide (r3.length = a0.length)) <|
 some r3
theorem x_slices_Sort_int64_int64_0o_ok (a0 : List Int) (q0 : List Int) (h : x_slices_Sort_int64_int64_0o a0 = some q0) : Ev Tryz.prog 31 [oref 0 0 0 a0.length] [⟨0, some (a0.map i64)⟩] (tup []) [⟨0, some (q0.map i64)⟩] := by
 refine Ev.start Tryz.func31 rfl rfl 0 (τ := [(0, oref 0 0 0 a0.length)]) rfl (Γ' := [⟨0, some (a0.map i64)⟩]) rfl (n := 22) rfl (g := 1) rfl (by decide) ?_
 unfold x_slices_Sort_int64_int64_0o at h
 refine zQ ?_
 refine zM (r := oref 0 0 0 a0.length) rfl rfl rfl rfl rfl ?_
 refine zL (r := i64 ((a0.length : Nat) : Int)) rfl rfl rfl (LOp.len_oref und53 rfl rfl) ?_
 refine zA (r := i64 ((a0.length : Nat) : Int)) rfl rfl rfl rfl rfl ?_
 refine zN ?_
 obtain ⟨x1, hx1, h⟩ := olet_some h
 obtain ⟨r2, hf2, h⟩ := obind_some h
 obtain ⟨r3, hf3, h⟩ := obind_some h
 obtain ⟨hn4, h⟩ := need_some h
 refine RunC.regionW ?_
 refine zM (r := oref 0 0 0 a0.length) rfl rfl rfl rfl rfl ?_
 refine zM (r := i64 ((a0.length : Nat) : Int)) rfl rfl rfl rfl rfl ?_
 refine zM (r := i64 ((a0.length : Nat) : Int)) rfl rfl rfl rfl rfl ?_
 refine zL (r := ik .u64 x1) rfl rfl rfl (LOp.eqr (LOp.i2i (src := 3) (dst := 89) ⟨_, pun3⟩ pun89 rfl rfl) (congrArg (ik .u64) hx1)) ?_
 refine ROps.d (r := i64 r2) (fs := []) (Γ' := [⟨0, some (a0.map i64)⟩]) rfl rfl rfl (TOp.callB (CallAs.func ent69 rfl rfl) (Bors.cons (Bor.pure rfl) Bors.nil) rfl rfl (x_math_bits_Len_ok x1 r2 hf2)) rfl ?_
 refine ROps.callO (A := [oref 0 0 0 a0.length, i64 0, i64 ((a0.length : Nat) : Int), i64 r2]) (args := [oref 0 0 0 a0.length, i64 0, i64 ((a0.length : Nat) : Int), i64 r2]) (Γc := [⟨0, some (a0.map i64)⟩]) (Γc' := [⟨0, some (r3.map i64)⟩]) (r' := tup []) (Γ' := [⟨0, some (r3.map i64)⟩]) [(0, 0)] [] rfl (CallAs.func ent68 rfl rfl) rfl rfl (SelOk.of (show List.Nodup [0] from by decide) (SelL.arr0 (f := i64) (fun _ => rfl) rfl trivial)) (live_of ⟨⟨_, _, rfl⟩, trivial⟩) (by simp [ren, rens, sigma, rens_f32, rens_f64, rens_i64, rens_ik, rens_str, rens_cp]) rfl (x_slices_pdqsortOrdered_int64_0o_ok 0 ((a0.length : Nat) : Int) r2 a0 r3 hf3) rfl (news_of trivial) (show List.Nodup [0] from by decide) (by simp [ren, rens, sigma, of_decide_eq_true hn4]) (by simp [backOb, sigma, ren, rens, rens_f32, rens_f64, rens_i64, rens_ik, rens_str, rens_cp]) ?_
 refine zN ?_
 have hq := Option.some.inj h
 subst q0
 exact bodyQ.mk (r' := tup []) [(0, 0)] (.inl rfl) rfl (show List.Nodup [0] from by decide) rfl rfl (Res.zero rfl) (SelL.arr (f := i64) (fun _ => rfl) rfl trivial)
noncomputable def x_slices_Sorted_int64_0Fx_slices_Values_int64_int64_1 (a0 : List Int) : Option ((List Int)) :=
 obind (x_slices_Collect_int64_0Fx_slices_Values_int64_int64_1 a0) fun (r1 : List Int) =>
 obind (x_slices_Sort_int64_int64_0o r1) fun (r2 : List Int) =>
 need (decide (r2.length = r1.length)) <|
 some r2
theorem x_slices_Sorted_int64_0Fx_slices_Values_int64_int64_1_ok (a0 : List Int) (q0 : List Int) (h : x_slices_Sorted_int64_0Fx_slices_Values_int64_int64_1 a0 = some q0) : Ev Tryz.prog 148 [fn (.func 151) [] [ptr [sl a0.length (a0.map i64)]]] [] (oref 0 0 0 q0.length) [⟨0, some (q0.map i64)⟩] := by
 refine Ev.start Tryz.func148 rfl rfl 1 (τ := [(0, fn (.func 151) [] [ptr [sl a0.length (a0.map i64)]])]) rfl (Γ' := [⟨0, none⟩]) rfl (n := 19) rfl (g := 0) rfl (fun _ => rfl) ?_
 unfold x_slices_Sorted_int64_0Fx_slices_Values_int64_int64_1 at h
 refine zQ ?_
 refine zA (r := nilsl) rfl rfl rfl rfl rfl ?_
 refine zN ?_
 refine RunC.seq ?_
 obtain ⟨r1, hf1, h⟩ := obind_some h
 refine RunC.regionW ?_
 refine zM (r := fn (.func 151) [] [ptr [sl a0.length (a0.map i64)]]) rfl rfl rfl rfl rfl ?_
 refine ROps.d (r := oref 0 1 0 r1.length) (fs := [(0, (r1.map i64))]) (Γ' := [⟨1, some (r1.map i64)⟩]) rfl rfl rfl (TOp.callBN (ls := [(r1.map i64)]) [0] (CallAs.func ent150 rfl rfl) (Bors.cons (Bor.fn Bors.nil (Bors.cons (Bor.ptr (Bors.cons (Bor.sl (fun _ => rfl)) Bors.nil)) Bors.nil)) Bors.nil) rfl (x_slices_Collect_int64_0Fx_slices_Values_int64_int64_1_ok a0 r1 hf1) (and_all (lts0_map (f := i64) (fun _ => rfl) _) rfl) (and_all (noss_map (f := i64) (fun _ => rfl) _) rfl) rfl (by decide) (ns_of ⟨⟨_, rfl⟩, trivial⟩)) rfl ?_
 refine zA (r := oref 0 1 0 r1.length) rfl rfl rfl rfl rfl ?_
 refine zN ?_
 refine RunC.seq ?_
 obtain ⟨r2, hf2, h⟩ := obind_some h
 obtain ⟨hn3, h⟩ := need_some h
 refine RunC.regionW ?_
 refine zM (r := oref 0 1 0 r1.length) rfl rfl rfl rfl rfl ?_
 refine ROps.callO (A := [oref 0 1 0 r1.length]) (args := [oref 0 0 0 r1.length]) (Γc := [⟨0, some (r1.map i64)⟩]) (Γc' := [⟨0, some (r2.map i64)⟩]) (r' := tup []) (Γ' := [⟨1, some (r2.map i64)⟩]) [(0, 1)] [] rfl (CallAs.func ent31 rfl rfl) rfl rfl (SelOk.of (show List.Nodup [0] from by decide) (SelL.arr0 (f := i64) (fun _ => rfl) rfl trivial)) (live_of ⟨⟨_, _, rfl⟩, trivial⟩) (by simp [ren, rens, sigma, rens_f32, rens_f64, rens_i64, rens_ik, rens_str, rens_cp]) rfl (x_slices_Sort_int64_int64_0o_ok r1 r2 hf2) rfl (news_of trivial) (show List.Nodup [0] from by decide) (by simp [ren, rens, sigma, of_decide_eq_true hn3]) (by simp [backOb, sigma, ren, rens, rens_f32, rens_f64, rens_i64, rens_ik, rens_str, rens_cp]) ?_
 refine zN ?_
 refine zQ ?_
 refine zM (r := oref 0 1 0 r1.length) rfl rfl rfl rfl rfl ?_
 refine zA (r := oref 0 1 0 r1.length) rfl rfl rfl rfl rfl ?_
 refine zN ?_
 refine RunC.ret ?_
 have hq := Option.some.inj h
 subst q0
 exact bodyQ.mk (r' := oref 0 1 0 r2.length) [(0, 1)] (.inr rfl) rfl (show List.Nodup [0] from by decide) rfl rfl (Res.eq (Res.one rfl (RV.tmp rfl)) (by rw [(show r2.length = r1.length from (of_decide_eq_true hn3))] <;> rfl)) (SelL.arr0 (f := i64) (fun _ => rfl) rfl trivial)
end Go.Proofs.YtcoookgeialmnaaGreat
