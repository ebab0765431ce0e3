/- Generated. -/
import Derived.Test.YtkdociaoknmgbaaG1
namespace Go.Proofs.Ytkdociaoknmgbaa
open Go Go.AM Go.AM.AV
set_option maxRecDepth 20000
set_option maxHeartbeats 4000000
set_option linter.unusedVariables false
set_option linter.unusedSimpArgs false
noncomputable section
def s_B10Thirds_k4 (r1 : List Int) (L8 : List F) (L9 : List F) (L10 : List F) (v13 : Int) (r21 : Int) (r22 : Int) (y26 : F) (y31 : F) : Option (LR ((List F) × (List F) × (List F) × Int × Int × Int) ((List F) × (List F) × (List F)) ((List F) × (List F) × (List F))) :=
 need (apok 4 L8.length 1) <|
 need (apok 4 L10.length 1) <|
 obind3 (s_l00Src_pick_0p0_C0 9 r1 r21 r22) fun (r41 : Int) (r42 : Int) (r43 : Int) =>
 olet (IntKind.i64.wrap (20 + r41)) fun (x44 : Int) =>
 olet (fint .f32 x44) fun (x45 : F) =>
 olet (fop .quo .f32 x45 (some 1082130432)) fun (x46 : F) =>
 need (apok 4 L9.length 1) <|
 olet (IntKind.i64.wrap (v13 + 1)) fun (x47 : Int) =>
 some (LR.next ((L8 ++ ([y26] : List F)), (L9 ++ ([x46] : List F)), (L10 ++ ([y31] : List F)), r42, r43, x47))
def s_B10Thirds_k3 (a1 : Int) (r1 : List Int) (L8 : List F) (L9 : List F) (L10 : List F) (v13 : Int) (r21 : Int) (r22 : Int) (x25 : F) (y26 : F) : Option (LR ((List F) × (List F) × (List F) × Int × Int × Int) ((List F) × (List F) × (List F)) ((List F) × (List F) × (List F))) :=
 olet (IntKind.i64.wrap (a1 - 1)) fun (x30 : Int) =>
 bsel (decide (v13 = x30)) (
  s_B10Thirds_k4 r1 L8 L9 L10 v13 r21 r22 y26 (some 0)) (
  s_B10Thirds_k4 r1 L8 L9 L10 v13 r21 r22 y26 x25)
def s_B10Thirds_b5 (a1 : Int) (r1 : List Int) (L8 : List F) (L9 : List F) (L10 : List F) (v11 : Int) (v12 : Int) (v13 : Int) : Option (LR ((List F) × (List F) × (List F) × Int × Int × Int) ((List F) × (List F) × (List F)) ((List F) × (List F) × (List F))) :=
 bsel (decide (v13 < a1)) (
  obind3 (s_l00Src_pick_0p0_C0 9 r1 v11 v12) fun (r14 : Int) (r15 : Int) (r16 : Int) =>
  olet (IntKind.i64.wrap (r14 - 4)) fun (x17 : Int) =>
  olet (fint .f32 x17) fun (x18 : F) =>
  olet (fop .quo .f32 x18 (some 1082130432)) fun (x19 : F) =>
  obind3 (s_l00Src_pick_0p0_C0 9 r1 r15 r16) fun (r20 : Int) (r21 : Int) (r22 : Int) =>
  olet (IntKind.i64.wrap (r20 - 4)) fun (x23 : Int) =>
  olet (fint .f32 x23) fun (x24 : F) =>
  olet (fop .quo .f32 x24 (some 1082130432)) fun (x25 : F) =>
  bsel (decide (v13 = 0)) (
   s_B10Thirds_k3 a1 r1 L8 L9 L10 v13 r21 r22 x25 (some 0)) (
   s_B10Thirds_k3 a1 r1 L8 L9 L10 v13 r21 r22 x25 x19)) (
  some (LR.out (L8, L9, L10)))
def s_B10Thirds_s5 (a1 : Int) (r1 : List Int) : ((List F) × (List F) × (List F) × Int × Int × Int) → Option (LR ((List F) × (List F) × (List F) × Int × Int × Int) ((List F) × (List F) × (List F)) ((List F) × (List F) × (List F))) := fun s => s_B10Thirds_b5 a1 r1 s.1 s.2.1 s.2.2.1 s.2.2.2.1 s.2.2.2.2.1 s.2.2.2.2.2
def s_B10Thirds_k5 (L55 : List F) (L56 : List F) (L57 : List F) : Option ((List F) × (List F) × (List F)) :=
 some (L55, L56, L57)
def s_B10Thirds (a0 : List Int) (a1 : Int) : Option ((List F) × (List F) × (List F)) :=
 obind3 (s_l00From a0) fun (r1 : List Int) (r2 : Int) (r3 : Int) =>
 obind (loopM (s_B10Thirds_s5 a1 r1) (([] : List F), ([] : List F), ([] : List F), r2, r3, 0)) fun z => osum z (fun e => s_B10Thirds_k5 e.1 e.2.1 e.2.2) (fun r => some r)
theorem s_B10Thirds_ok (a0 : List Int) (a1 : Int) (q0 : List F) (q1 : List F) (q2 : List F) (h : s_B10Thirds a0 a1 = some (q0, q1, q2)) : Ev Try.prog 23 [sl a0.length (a0.map (ik .u8)), i64 a1] [] (agg [oref 0 0 0 q0.length, oref 1 0 0 q1.length, oref 2 0 0 q2.length]) [⟨0, some (q0.map f32)⟩, ⟨0, some (q1.map f32)⟩, ⟨0, some (q2.map f32)⟩] := by
 refine yE Try.func23 10 115 0 [(0, sl a0.length (a0.map (ik .u8))), (1, i64 a1)] [⟨0, none⟩, ⟨0, none⟩, ⟨0, none⟩, ⟨0, none⟩, ⟨0, none⟩, ⟨0, none⟩, ⟨0, none⟩, ⟨0, none⟩, ⟨0, none⟩, ⟨0, none⟩] rfl ?_
 unfold s_B10Thirds at h
 refine zQ<|ye rfl (optr 0 1 0) ([⟨1, some [nilsl, nilsl, nilsl]⟩, ⟨0, none⟩, ⟨0, none⟩, ⟨0, none⟩, ⟨0, none⟩, ⟨0, none⟩, ⟨0, none⟩, ⟨0, none⟩, ⟨0, none⟩, ⟨0, none⟩]) (TOp.alloc_o (g := ⟨0, none⟩) 0 rfl zer47 zok47 rfl)<|zN ?_
 refine yS ?_
 obtain ⟨r1, r2, r3, hf1, h⟩ := obind3_some h
 refine yW<|ym rfl (sl a0.length (a0.map (ik .u8)))<|ye rfl (optr 1 1 0) ([⟨1, some [nilsl, nilsl, nilsl]⟩, ⟨1, some [sl r1.length (r1.map (ik .u8)), i64 r2, ik .u64 r3]⟩, ⟨0, none⟩, ⟨0, none⟩, ⟨0, none⟩, ⟨0, none⟩, ⟨0, none⟩, ⟨0, none⟩, ⟨0, none⟩, ⟨0, none⟩]) (TOp.callN (A := [sl a0.length (a0.map (ik .u8))]) (ls := [[sl r1.length (r1.map (ik .u8)), i64 r2, ik .u64 r3]]) [1] (by exact (CallAs.func ent71 rfl rfl)) (lts_cons (lt_sl (fun _ => rfl)) lts_nil) (s_l00From_ok a0 r1 r2 r3 hf1) (and_all (lts_cons (lt_sl (fun _ => rfl)) (lts_cons rfl (lts_cons rfl lts_nil))) rfl) rfl (by decide) (ns_of ⟨⟨_, rfl⟩, trivial⟩))<|ya rfl (optr 1 1 0)<|zN ?_
 refine zQ<|yl rfl (agg [nilsl, nilsl, nilsl]) (LOp.build (qs := []) zer47 zok47 und47 plc47 rfl trivial rfl)<|ye rfl (optr 2 1 0) ([⟨1, some [nilsl, nilsl, nilsl]⟩, ⟨1, some [sl r1.length (r1.map (ik .u8)), i64 r2, ik .u64 r3]⟩, ⟨1, some [nilsl, nilsl, nilsl]⟩, ⟨0, none⟩, ⟨0, none⟩, ⟨0, none⟩, ⟨0, none⟩, ⟨0, none⟩, ⟨0, none⟩, ⟨0, none⟩]) (TOp.alloc_o (g := ⟨0, none⟩) 2 rfl zer47 zok47 rfl)<|ys (agg [nilsl, nilsl, nilsl]) [nilsl, nilsl, nilsl] ([⟨1, some [nilsl, nilsl, nilsl]⟩, ⟨1, some [sl r1.length (r1.map (ik .u8)), i64 r2, ik .u64 r3]⟩, ⟨1, some [nilsl, nilsl, nilsl]⟩, ⟨0, none⟩, ⟨0, none⟩, ⟨0, none⟩, ⟨0, none⟩, ⟨0, none⟩, ⟨0, none⟩, ⟨0, none⟩]) siz47<|zN ?_
 refine yS<|zQ<|ya rfl (i64 0)<|zN ?_
 refine RunC.nil_cell (l' := [oref 3 1 0 0, nilsl, nilsl]) (Γ' := [⟨1, some [oref 3 1 0 0, nilsl, nilsl]⟩, ⟨1, some [sl r1.length (r1.map (ik .u8)), i64 r2, ik .u64 r3]⟩, ⟨1, some [nilsl, nilsl, nilsl]⟩, ⟨1, some (([] : List F).map f32)⟩, ⟨0, none⟩, ⟨0, none⟩, ⟨0, none⟩, ⟨0, none⟩, ⟨0, none⟩, ⟨0, none⟩]) 0 0 3 rfl rfl rfl rfl rfl<|RunC.nil_cell (l' := [oref 3 1 0 0, oref 4 1 0 0, nilsl]) (Γ' := [⟨1, some [oref 3 1 0 0, oref 4 1 0 0, nilsl]⟩, ⟨1, some [sl r1.length (r1.map (ik .u8)), i64 r2, ik .u64 r3]⟩, ⟨1, some [nilsl, nilsl, nilsl]⟩, ⟨1, some (([] : List F).map f32)⟩, ⟨1, some (([] : List F).map f32)⟩, ⟨0, none⟩, ⟨0, none⟩, ⟨0, none⟩, ⟨0, none⟩, ⟨0, none⟩]) 0 1 4 rfl rfl rfl rfl rfl<|RunC.nil_cell (l' := [oref 3 1 0 0, oref 4 1 0 0, oref 5 1 0 0]) (Γ' := [⟨1, some [oref 3 1 0 0, oref 4 1 0 0, oref 5 1 0 0]⟩, ⟨1, some [sl r1.length (r1.map (ik .u8)), i64 r2, ik .u64 r3]⟩, ⟨1, some [nilsl, nilsl, nilsl]⟩, ⟨1, some (([] : List F).map f32)⟩, ⟨1, some (([] : List F).map f32)⟩, ⟨1, some (([] : List F).map f32)⟩, ⟨0, none⟩, ⟨0, none⟩, ⟨0, none⟩, ⟨0, none⟩]) 0 2 5 rfl rfl rfl rfl rfl<|RunC.nil_cell (l' := [oref 6 1 0 0, nilsl, nilsl]) (Γ' := [⟨1, some [oref 3 1 0 0, oref 4 1 0 0, oref 5 1 0 0]⟩, ⟨1, some [sl r1.length (r1.map (ik .u8)), i64 r2, ik .u64 r3]⟩, ⟨1, some [oref 6 1 0 0, nilsl, nilsl]⟩, ⟨1, some (([] : List F).map f32)⟩, ⟨1, some (([] : List F).map f32)⟩, ⟨1, some (([] : List F).map f32)⟩, ⟨1, some (([] : List F).map f32)⟩, ⟨0, none⟩, ⟨0, none⟩, ⟨0, none⟩]) 2 0 6 rfl rfl rfl rfl rfl<|RunC.nil_cell (l' := [oref 6 1 0 0, oref 7 1 0 0, nilsl]) (Γ' := [⟨1, some [oref 3 1 0 0, oref 4 1 0 0, oref 5 1 0 0]⟩, ⟨1, some [sl r1.length (r1.map (ik .u8)), i64 r2, ik .u64 r3]⟩, ⟨1, some [oref 6 1 0 0, oref 7 1 0 0, nilsl]⟩, ⟨1, some (([] : List F).map f32)⟩, ⟨1, some (([] : List F).map f32)⟩, ⟨1, some (([] : List F).map f32)⟩, ⟨1, some (([] : List F).map f32)⟩, ⟨1, some (([] : List F).map f32)⟩, ⟨0, none⟩, ⟨0, none⟩]) 2 1 7 rfl rfl rfl rfl rfl<|RunC.nil_cell (l' := [oref 6 1 0 0, oref 7 1 0 0, oref 8 1 0 0]) (Γ' := [⟨1, some [oref 3 1 0 0, oref 4 1 0 0, oref 5 1 0 0]⟩, ⟨1, some [sl r1.length (r1.map (ik .u8)), i64 r2, ik .u64 r3]⟩, ⟨1, some [oref 6 1 0 0, oref 7 1 0 0, oref 8 1 0 0]⟩, ⟨1, some (([] : List F).map f32)⟩, ⟨1, some (([] : List F).map f32)⟩, ⟨1, some (([] : List F).map f32)⟩, ⟨1, some (([] : List F).map f32)⟩, ⟨1, some (([] : List F).map f32)⟩, ⟨1, some (([] : List F).map f32)⟩, ⟨0, none⟩]) 2 2 8 rfl rfl rfl rfl rfl ?_
 obtain ⟨z6, hz_6, h⟩ := oS h
 refine RunC.cutN (fun τ Γ => ∃ (L55 : List F) (L56 : List F) (L57 : List F) (u48 : Nat) (u49 : Nat) (u50 : Nat) (u51 : Nat), ([] : List F).length = 0 ∧ ([] : List F).length = 0 ∧ ([] : List F).length = 0 ∧ WeakLe τ [(4, optr 0 1 0), (6, optr 2 1 0)] ∧ DeadLe Γ [⟨1, some [oref 3 1 0 0, oref 4 1 0 0, oref 5 1 0 0]⟩, ⟨1, none⟩, ⟨1, some [oref 6 u48 0 L55.length, oref 7 u49 0 L56.length, oref 8 u50 0 L57.length]⟩, ⟨1, some (([] : List F).map f32)⟩, ⟨1, some (([] : List F).map f32)⟩, ⟨1, some (([] : List F).map f32)⟩, ⟨u48, some (L55.map f32)⟩, ⟨u49, some (L56.map f32)⟩, ⟨u50, some (L57.map f32)⟩, ⟨u51, none⟩] ∧ z6 = .inl (L55, L56, L57)) ?_ ?_
 ·refine RunC.block (RunC.loop (RunL.loopM (x := z6) (s_B10Thirds_s5 a1 r1) (fun (s : (List F) × (List F) × (List F) × Int × Int × Int) τ Γ => ∃ (u4 : Nat) (u5 : Nat) (u6 : Nat) (u7 : Nat), WeakLe τ [(1, i64 a1), (4, optr 0 1 0), (5, optr 1 1 0), (6, optr 2 1 0), (7, i64 s.2.2.2.2.2)] ∧ DeadLe Γ [⟨1, some [oref 3 1 0 0, oref 4 1 0 0, oref 5 1 0 0]⟩, ⟨1, some [sl r1.length (r1.map (ik .u8)), i64 s.2.2.2.1, ik .u64 s.2.2.2.2.1]⟩, ⟨1, some [oref 6 u4 0 s.1.length, oref 7 u5 0 s.2.1.length, oref 8 u6 0 s.2.2.1.length]⟩, ⟨1, some (([] : List F).map f32)⟩, ⟨1, some (([] : List F).map f32)⟩, ⟨1, some (([] : List F).map f32)⟩, ⟨u4, some (s.1.map f32)⟩, ⟨u5, some (s.2.1.map f32)⟩, ⟨u6, some (s.2.2.1.map f32)⟩, ⟨u7, none⟩]) ?_ _ _ _ hz_6 ⟨1, 1, 1, 0, ⟨aR, aR, aR, aR, aR, trivial⟩, ⟨⟨rfl, .inr rfl⟩, ⟨rfl, .inr rfl⟩, ⟨rfl, .inr (by first | rfl | simp)⟩, ⟨rfl, .inr rfl⟩, ⟨rfl, .inr rfl⟩, ⟨rfl, .inr rfl⟩, ⟨rfl, .inr rfl⟩, ⟨rfl, .inr rfl⟩, ⟨rfl, .inr rfl⟩, ⟨rfl, .inl rfl⟩, trivial⟩⟩))
  rintro ⟨L8, L9, L10, v11, v12, v13⟩ τ6 Γ6 y6_ ⟨u4, u5, u6, u7, hw6, hd6⟩ h6_ ho6 hr6
  refine RunC.wl (τ' := [(1, i64 a1), (4, optr 0 1 0), (5, optr 1 1 0), (6, optr 2 1 0), (7, i64 v13)]) (Γ' := [⟨1, some [oref 3 1 0 0, oref 4 1 0 0, oref 5 1 0 0]⟩, ⟨1, some [sl r1.length (r1.map (ik .u8)), i64 v11, ik .u64 v12]⟩, ⟨1, some [oref 6 u4 0 L8.length, oref 7 u5 0 L9.length, oref 8 u6 0 L10.length]⟩, ⟨1, some (([] : List F).map f32)⟩, ⟨1, some (([] : List F).map f32)⟩, ⟨1, some (([] : List F).map f32)⟩, ⟨u4, some (L8.map f32)⟩, ⟨u5, some (L9.map f32)⟩, ⟨u6, some (L10.map f32)⟩, ⟨u7, none⟩]) hw6 hd6 ?_
  replace h6_ : s_B10Thirds_b5 a1 r1 L8 L9 L10 v11 v12 v13 = some y6_ := h6_
  unfold s_B10Thirds_b5 at h6_
  refine yS<|yS ?_
  rcases oB h6_ with ⟨hc2, h6_⟩ | ⟨hc2, h6_⟩
  ·refine yW<|ym rfl (i64 v13)<|ym rfl (i64 a1)<|yl rfl (b true) (LOp.eqb (LOp.lss rfl rfl rfl) hc2)<|zN ?_
   refine yT<|RunC.skip<|yS<|RunC.block<|yS ?_
   obtain ⟨r14, r15, r16, hf3, h6_⟩ := obind3_some h6_
   obtain ⟨x17, hx4, h6_⟩ := oL h6_
   obtain ⟨x18, hx5, h6_⟩ := oL h6_
   obtain ⟨x19, hx6, h6_⟩ := oL h6_
   refine yW<|ym rfl (optr 1 1 0)<|ROps.callO (A := [optr 1 1 0, i64 9]) (args := [optr 0 0 0, i64 9]) (Γc := [⟨0, some [sl r1.length (r1.map (ik .u8)), i64 v11, ik .u64 v12]⟩]) (Γc' := [⟨0, some [sl r1.length (r1.map (ik .u8)), i64 r15, ik .u64 r16]⟩]) (r' := i64 r14) (Γ' := [⟨1, some [oref 3 1 0 0, oref 4 1 0 0, oref 5 1 0 0]⟩, ⟨1, some [sl r1.length (r1.map (ik .u8)), i64 r15, ik .u64 r16]⟩, ⟨1, some [oref 6 u4 0 L8.length, oref 7 u5 0 L9.length, oref 8 u6 0 L10.length]⟩, ⟨1, some (([] : List F).map f32)⟩, ⟨1, some (([] : List F).map f32)⟩, ⟨1, some (([] : List F).map f32)⟩, ⟨u4, some (L8.map f32)⟩, ⟨u5, some (L9.map f32)⟩, ⟨u6, some (L10.map f32)⟩, ⟨u7, none⟩]) [(1, 1)] [] rfl (CallAs.func ent72 rfl rfl) rfl rfl (SelOk.of (ndB_ok rfl) (SelL.cells0 rfl (by simp [ren, rens, sigma, rens_f32, rens_f64, rens_i64, rens_ik, rens_str, rens_cp]) (lts_cons (lt_slk (fun _ => rfl)) (lts_cons rfl (lts_cons rfl lts_nil))) trivial)) (live_of ⟨⟨_, _, rfl⟩, trivial⟩) (by simp [ren, rens, sigma, rens_f32, rens_f64, rens_i64, rens_ik, rens_str, rens_cp]) rfl (s_l00Src_pick_0p0_C0_ok 9 r1 v11 v12 r14 r15 r16 hf3) rfl (news_of trivial) (ndB_ok rfl) (by simp [ren, rens, sigma]) (by simp [backOb, sigma, ren, rens, rens_f32, rens_f64, rens_i64, rens_ik, rens_str, rens_cp] <;> omega)<|yl rfl (i64 x17) (LOp.eqr (LOp.sub rfl rfl rfl) (congrArg (ik .i64) hx4))<|yl rfl (f32 x18) (LOp.eqr (LOp.i2f (src := 2) (dst := 28) ⟨_, pun2⟩ pun28 rfl rfl) (congrArg (f .f32) hx5))<|yd rfl (f32 x19) (TOp.eqr (TOp.fop (.inr (.inr (.inr rfl))) rfl (OpF.tmp rfl) (OpF.const rfl (by kernel_rfl) (by kernel_rfl))) (congrArg (f .f32) hx6))<|ya rfl (f32 x19)<|zN ?_
   refine yS ?_
   obtain ⟨r20, r21, r22, hf7, h6_⟩ := obind3_some h6_
   obtain ⟨x23, hx8, h6_⟩ := oL h6_
   obtain ⟨x24, hx9, h6_⟩ := oL h6_
   obtain ⟨x25, hx10, h6_⟩ := oL h6_
   refine yW<|ym rfl (optr 1 1 0)<|ROps.callO (A := [optr 1 1 0, i64 9]) (args := [optr 0 0 0, i64 9]) (Γc := [⟨0, some [sl r1.length (r1.map (ik .u8)), i64 r15, ik .u64 r16]⟩]) (Γc' := [⟨0, some [sl r1.length (r1.map (ik .u8)), i64 r21, ik .u64 r22]⟩]) (r' := i64 r20) (Γ' := [⟨1, some [oref 3 1 0 0, oref 4 1 0 0, oref 5 1 0 0]⟩, ⟨1, some [sl r1.length (r1.map (ik .u8)), i64 r21, ik .u64 r22]⟩, ⟨1, some [oref 6 u4 0 L8.length, oref 7 u5 0 L9.length, oref 8 u6 0 L10.length]⟩, ⟨1, some (([] : List F).map f32)⟩, ⟨1, some (([] : List F).map f32)⟩, ⟨1, some (([] : List F).map f32)⟩, ⟨u4, some (L8.map f32)⟩, ⟨u5, some (L9.map f32)⟩, ⟨u6, some (L10.map f32)⟩, ⟨u7, none⟩]) [(1, 1)] [] rfl (CallAs.func ent72 rfl rfl) rfl rfl (SelOk.of (ndB_ok rfl) (SelL.cells0 rfl (by simp [ren, rens, sigma, rens_f32, rens_f64, rens_i64, rens_ik, rens_str, rens_cp]) (lts_cons (lt_slk (fun _ => rfl)) (lts_cons rfl (lts_cons rfl lts_nil))) trivial)) (live_of ⟨⟨_, _, rfl⟩, trivial⟩) (by simp [ren, rens, sigma, rens_f32, rens_f64, rens_i64, rens_ik, rens_str, rens_cp]) rfl (s_l00Src_pick_0p0_C0_ok 9 r1 r15 r16 r20 r21 r22 hf7) rfl (news_of trivial) (ndB_ok rfl) (by simp [ren, rens, sigma]) (by simp [backOb, sigma, ren, rens, rens_f32, rens_f64, rens_i64, rens_ik, rens_str, rens_cp] <;> omega)<|yl rfl (i64 x23) (LOp.eqr (LOp.sub rfl rfl rfl) (congrArg (ik .i64) hx8))<|yl rfl (f32 x24) (LOp.eqr (LOp.i2f (src := 2) (dst := 28) ⟨_, pun2⟩ pun28 rfl rfl) (congrArg (f .f32) hx9))<|yd rfl (f32 x25) (TOp.eqr (TOp.fop (.inr (.inr (.inr rfl))) rfl (OpF.tmp rfl) (OpF.const rfl (by kernel_rfl) (by kernel_rfl))) (congrArg (f .f32) hx10))<|ya rfl (f32 x25)<|zN ?_
   refine RunC.wl (τ' := [(1, i64 a1), (4, optr 0 1 0), (5, optr 1 1 0), (6, optr 2 1 0), (7, i64 v13), (8, f32 x19), (9, f32 x25)]) (Γ' := [⟨1, some [oref 3 1 0 0, oref 4 1 0 0, oref 5 1 0 0]⟩, ⟨1, some [sl r1.length (r1.map (ik .u8)), i64 r21, ik .u64 r22]⟩, ⟨1, some [oref 6 u4 0 L8.length, oref 7 u5 0 L9.length, oref 8 u6 0 L10.length]⟩, ⟨1, some (([] : List F).map f32)⟩, ⟨1, some (([] : List F).map f32)⟩, ⟨1, some (([] : List F).map f32)⟩, ⟨u4, some (L8.map f32)⟩, ⟨u5, some (L9.map f32)⟩, ⟨u6, some (L10.map f32)⟩, ⟨u7, none⟩]) ⟨aR, aR, aR, aR, aR, aR, aR, trivial⟩ ⟨⟨rfl, .inr rfl⟩, ⟨rfl, .inr rfl⟩, ⟨rfl, .inr rfl⟩, ⟨rfl, .inr rfl⟩, ⟨rfl, .inr rfl⟩, ⟨rfl, .inr rfl⟩, ⟨rfl, .inr rfl⟩, ⟨rfl, .inr rfl⟩, ⟨rfl, .inr rfl⟩, ⟨rfl, .inl rfl⟩, trivial⟩<|yS<|RunC.cutN (fun τ Γ => ∃ (y26 : F), ([] : List F).length = 0 ∧ ([] : List F).length = 0 ∧ ([] : List F).length = 0 ∧ WeakLe τ [(1, i64 a1), (4, optr 0 1 0), (5, optr 1 1 0), (6, optr 2 1 0), (7, i64 v13), (8, f32 y26), (9, f32 x25)] ∧ DeadLe Γ [⟨1, some [oref 3 1 0 0, oref 4 1 0 0, oref 5 1 0 0]⟩, ⟨1, some [sl r1.length (r1.map (ik .u8)), i64 r21, ik .u64 r22]⟩, ⟨1, some [oref 6 u4 0 L8.length, oref 7 u5 0 L9.length, oref 8 u6 0 L10.length]⟩, ⟨1, some (([] : List F).map f32)⟩, ⟨1, some (([] : List F).map f32)⟩, ⟨1, some (([] : List F).map f32)⟩, ⟨u4, some (L8.map f32)⟩, ⟨u5, some (L9.map f32)⟩, ⟨u6, some (L10.map f32)⟩, ⟨u7, none⟩] ∧ s_B10Thirds_k3 a1 r1 L8 L9 L10 v13 r21 r22 x25 y26 = some y6_) ?_ ?_
   ·refine yS ?_
    rcases oB h6_ with ⟨hc11, h6_⟩ | ⟨hc11, h6_⟩
    ·refine yW<|ym rfl (i64 v13)<|yl rfl (b true) (LOp.eqb (LOp.eql rfl rfl rfl) hc11)<|zN ?_
     refine yT<|yW<|yl rfl (f32 (some 0)) (LOp.le (LOp.assign rfl rfl) (ALe.fl (by kernel_rfl) (by kernel_rfl)))<|zN ?_
     exact ⟨some 0, rfl, rfl, rfl, ⟨aR, aR, aR, aR, aR, aR, aR, trivial⟩, ⟨⟨rfl, .inr rfl⟩, ⟨rfl, .inr rfl⟩, ⟨rfl, .inr rfl⟩, ⟨rfl, .inr rfl⟩, ⟨rfl, .inr rfl⟩, ⟨rfl, .inr rfl⟩, ⟨rfl, .inr rfl⟩, ⟨rfl, .inr rfl⟩, ⟨rfl, .inr rfl⟩, ⟨rfl, .inl rfl⟩, trivial⟩, h6_⟩
    ·refine yW<|ym rfl (i64 v13)<|yl rfl (b false) (LOp.eqb (LOp.eql rfl rfl rfl) hc11)<|zN ?_
     refine yF<|RunC.skip ?_
     exact ⟨x19, rfl, rfl, rfl, ⟨aR, aR, aR, aR, aR, aR, aR, trivial⟩, ⟨⟨rfl, .inr rfl⟩, ⟨rfl, .inr rfl⟩, ⟨rfl, .inr rfl⟩, ⟨rfl, .inr rfl⟩, ⟨rfl, .inr rfl⟩, ⟨rfl, .inr rfl⟩, ⟨rfl, .inr rfl⟩, ⟨rfl, .inr rfl⟩, ⟨rfl, .inr rfl⟩, ⟨rfl, .inl rfl⟩, trivial⟩, h6_⟩
   ·rintro τ7 Γ7 ⟨y26, hl27, hl28, hl29, hw7, hd7, h6_⟩
    refine RunC.wl hw7 hd7 ?_
    unfold s_B10Thirds_k3 at h6_
    refine yS<|RunC.cutN (fun τ Γ => ∃ (y31 : F), ([] : List F).length = 0 ∧ ([] : List F).length = 0 ∧ ([] : List F).length = 0 ∧ WeakLe τ [(1, i64 a1), (4, optr 0 1 0), (5, optr 1 1 0), (6, optr 2 1 0), (7, i64 v13), (8, f32 y26), (9, f32 y31)] ∧ DeadLe Γ [⟨1, some [oref 3 1 0 0, oref 4 1 0 0, oref 5 1 0 0]⟩, ⟨1, some [sl r1.length (r1.map (ik .u8)), i64 r21, ik .u64 r22]⟩, ⟨1, some [oref 6 u4 0 L8.length, oref 7 u5 0 L9.length, oref 8 u6 0 L10.length]⟩, ⟨1, some (([] : List F).map f32)⟩, ⟨1, some (([] : List F).map f32)⟩, ⟨1, some (([] : List F).map f32)⟩, ⟨u4, some (L8.map f32)⟩, ⟨u5, some (L9.map f32)⟩, ⟨u6, some (L10.map f32)⟩, ⟨u7, none⟩] ∧ s_B10Thirds_k4 r1 L8 L9 L10 v13 r21 r22 y26 y31 = some y6_) ?_ ?_
    ·refine yS ?_
     obtain ⟨x30, hx12, h6_⟩ := oL h6_
     rcases oB h6_ with ⟨hc13, h6_⟩ | ⟨hc13, h6_⟩
     ·refine yW<|ym rfl (i64 v13)<|ym rfl (i64 a1)<|yl rfl (i64 x30) (LOp.eqr (LOp.sub rfl rfl rfl) (congrArg (ik .i64) hx12))<|yl rfl (b true) (LOp.eqb (LOp.eql rfl rfl rfl) hc13)<|zN ?_
      refine yT<|yW<|yl rfl (f32 (some 0)) (LOp.le (LOp.assign rfl rfl) (ALe.fl (by kernel_rfl) (by kernel_rfl)))<|zN ?_
      exact ⟨some 0, hl27, hl28, hl29, ⟨aR, aR, aR, aR, aR, aR, aR, trivial⟩, ⟨⟨rfl, .inr rfl⟩, ⟨rfl, .inr rfl⟩, ⟨rfl, .inr rfl⟩, ⟨rfl, .inr rfl⟩, ⟨rfl, .inr rfl⟩, ⟨rfl, .inr rfl⟩, ⟨rfl, .inr rfl⟩, ⟨rfl, .inr rfl⟩, ⟨rfl, .inr rfl⟩, ⟨rfl, .inl rfl⟩, trivial⟩, h6_⟩
     ·refine yW<|ym rfl (i64 v13)<|ym rfl (i64 a1)<|yl rfl (i64 x30) (LOp.eqr (LOp.sub rfl rfl rfl) (congrArg (ik .i64) hx12))<|yl rfl (b false) (LOp.eqb (LOp.eql rfl rfl rfl) hc13)<|zN ?_
      refine yF<|RunC.skip ?_
      exact ⟨x25, hl27, hl28, hl29, ⟨aR, aR, aR, aR, aR, aR, aR, trivial⟩, ⟨⟨rfl, .inr rfl⟩, ⟨rfl, .inr rfl⟩, ⟨rfl, .inr rfl⟩, ⟨rfl, .inr rfl⟩, ⟨rfl, .inr rfl⟩, ⟨rfl, .inr rfl⟩, ⟨rfl, .inr rfl⟩, ⟨rfl, .inr rfl⟩, ⟨rfl, .inr rfl⟩, ⟨rfl, .inl rfl⟩, trivial⟩, h6_⟩
    ·rintro τ8 Γ8 ⟨y31, hl32, hl33, hl34, hw8, hd8, h6_⟩
     refine RunC.wl hw8 hd8 ?_
     unfold s_B10Thirds_k4 at h6_
     refine yS ?_
     obtain ⟨hm14, h6_⟩ := need_some h6_
     refine yW<|yl rfl (optr 2 1 0) (LOp.fao und47 rfl siz26 rfl rfl rfl)<|yd rfl (oref 6 u4 0 L8.length) (TOp.load1_o rfl rfl agg26 rfl rfl)<|ym rfl (f32 y26)<|ye rfl (oref 9 (u7 + 1) 0 1) ([⟨1, some [oref 3 1 0 0, oref 4 1 0 0, oref 5 1 0 0]⟩, ⟨1, some [sl r1.length (r1.map (ik .u8)), i64 r21, ik .u64 r22]⟩, ⟨1, some [oref 6 u4 0 L8.length, oref 7 u5 0 L9.length, oref 8 u6 0 L10.length]⟩, ⟨1, some (([] : List F).map f32)⟩, ⟨1, some (([] : List F).map f32)⟩, ⟨1, some (([] : List F).map f32)⟩, ⟨u4, some (L8.map f32)⟩, ⟨u5, some (L9.map f32)⟩, ⟨u6, some (L10.map f32)⟩, ⟨(u7 + 1), some (([y26] : List F).map f32)⟩]) (TOp.buildSlice_o (g := ⟨u7, none⟩) (za := f32 (some 0)) (qs := [(0, [f32 y26])]) 9 rfl und26 siz28 zer28 rfl zel28 rfl rfl ⟨rfl, ⟨_, ALe.refl _, rfl⟩, trivial⟩ rfl)<|ROps.app (f := f32) (xs := L8) (ys := ([y26] : List F)) (Γ' := [⟨1, some [oref 3 1 0 0, oref 4 1 0 0, oref 5 1 0 0]⟩, ⟨1, some [sl r1.length (r1.map (ik .u8)), i64 r21, ik .u64 r22]⟩, ⟨1, some [oref 6 u4 0 L8.length, oref 7 u5 0 L9.length, oref 8 u6 0 L10.length]⟩, ⟨1, some (([] : List F).map f32)⟩, ⟨1, some (([] : List F).map f32)⟩, ⟨1, some (([] : List F).map f32)⟩, ⟨(u4 + 1), some ((L8 ++ ([y26] : List F)).map f32)⟩, ⟨u5, some (L9.map f32)⟩, ⟨u6, some (L10.map f32)⟩, ⟨(u7 + 1), some (([y26] : List F).map f32)⟩]) rfl pun26 inf28 rfl rfl rfl rfl rfl rfl rfl rfl rfl (by simp) (ReadAs.own rfl (by simp)) (ones_map (fun _ => rfl)) (ap_by hm14) (ap_mx hm14) rfl<|yl rfl (optr 2 1 0) (LOp.fao und47 rfl siz26 rfl rfl rfl)<|ys (oref 6 (u4 + 1) 0 (L8.length + 1)) [oref 6 (u4 + 1) 0 (L8.length + 1), oref 7 u5 0 L9.length, oref 8 u6 0 L10.length] ([⟨1, some [oref 3 1 0 0, oref 4 1 0 0, oref 5 1 0 0]⟩, ⟨1, some [sl r1.length (r1.map (ik .u8)), i64 r21, ik .u64 r22]⟩, ⟨1, some [oref 6 (u4 + 1) 0 (L8.length + 1), oref 7 u5 0 L9.length, oref 8 u6 0 L10.length]⟩, ⟨1, some (([] : List F).map f32)⟩, ⟨1, some (([] : List F).map f32)⟩, ⟨1, some (([] : List F).map f32)⟩, ⟨(u4 + 1), some ((L8 ++ ([y26] : List F)).map f32)⟩, ⟨u5, some (L9.map f32)⟩, ⟨u6, some (L10.map f32)⟩, ⟨(u7 + 1), some (([y26] : List F).map f32)⟩]) siz26<|zN ?_
     refine RunC.wl (τ' := [(1, i64 a1), (4, optr 0 1 0), (5, optr 1 1 0), (6, optr 2 1 0), (7, i64 v13), (9, f32 y31)]) (Γ' := [⟨1, some [oref 3 1 0 0, oref 4 1 0 0, oref 5 1 0 0]⟩, ⟨1, some [sl r1.length (r1.map (ik .u8)), i64 r21, ik .u64 r22]⟩, ⟨1, some [oref 6 (u4 + 1) 0 (L8.length + 1), oref 7 u5 0 L9.length, oref 8 u6 0 L10.length]⟩, ⟨1, some (([] : List F).map f32)⟩, ⟨1, some (([] : List F).map f32)⟩, ⟨1, some (([] : List F).map f32)⟩, ⟨(u4 + 1), some ((L8 ++ ([y26] : List F)).map f32)⟩, ⟨u5, some (L9.map f32)⟩, ⟨u6, some (L10.map f32)⟩, ⟨(u7 + 1), none⟩]) ⟨aR, aR, aR, aR, aR, aR, trivial⟩ ⟨⟨rfl, .inr rfl⟩, ⟨rfl, .inr rfl⟩, ⟨rfl, .inr rfl⟩, ⟨rfl, .inr rfl⟩, ⟨rfl, .inr rfl⟩, ⟨rfl, .inr rfl⟩, ⟨rfl, .inr rfl⟩, ⟨rfl, .inr rfl⟩, ⟨rfl, .inr rfl⟩, ⟨rfl, .inl rfl⟩, trivial⟩<|yS ?_
     obtain ⟨hm15, h6_⟩ := need_some h6_
     refine yW<|yl rfl (optr 2 1 2) (LOp.fao und47 rfl siz26 rfl rfl rfl)<|yd rfl (oref 8 u6 0 L10.length) (TOp.load1_o rfl rfl agg26 rfl rfl)<|ym rfl (f32 y31)<|ye rfl (oref 9 (u7 + 2) 0 1) ([⟨1, some [oref 3 1 0 0, oref 4 1 0 0, oref 5 1 0 0]⟩, ⟨1, some [sl r1.length (r1.map (ik .u8)), i64 r21, ik .u64 r22]⟩, ⟨1, some [oref 6 (u4 + 1) 0 (L8.length + 1), oref 7 u5 0 L9.length, oref 8 u6 0 L10.length]⟩, ⟨1, some (([] : List F).map f32)⟩, ⟨1, some (([] : List F).map f32)⟩, ⟨1, some (([] : List F).map f32)⟩, ⟨(u4 + 1), some ((L8 ++ ([y26] : List F)).map f32)⟩, ⟨u5, some (L9.map f32)⟩, ⟨u6, some (L10.map f32)⟩, ⟨(u7 + 2), some (([y31] : List F).map f32)⟩]) (TOp.buildSlice_o (g := ⟨(u7 + 1), none⟩) (za := f32 (some 0)) (qs := [(0, [f32 y31])]) 9 rfl und26 siz28 zer28 rfl zel28 rfl rfl ⟨rfl, ⟨_, ALe.refl _, rfl⟩, trivial⟩ rfl)<|ROps.app (f := f32) (xs := L10) (ys := ([y31] : List F)) (Γ' := [⟨1, some [oref 3 1 0 0, oref 4 1 0 0, oref 5 1 0 0]⟩, ⟨1, some [sl r1.length (r1.map (ik .u8)), i64 r21, ik .u64 r22]⟩, ⟨1, some [oref 6 (u4 + 1) 0 (L8.length + 1), oref 7 u5 0 L9.length, oref 8 u6 0 L10.length]⟩, ⟨1, some (([] : List F).map f32)⟩, ⟨1, some (([] : List F).map f32)⟩, ⟨1, some (([] : List F).map f32)⟩, ⟨(u4 + 1), some ((L8 ++ ([y26] : List F)).map f32)⟩, ⟨u5, some (L9.map f32)⟩, ⟨(u6 + 1), some ((L10 ++ ([y31] : List F)).map f32)⟩, ⟨(u7 + 2), some (([y31] : List F).map f32)⟩]) rfl pun26 inf28 rfl rfl rfl rfl rfl rfl rfl rfl rfl (by simp) (ReadAs.own rfl (by simp)) (ones_map (fun _ => rfl)) (ap_by hm15) (ap_mx hm15) rfl<|yl rfl (optr 2 1 2) (LOp.fao und47 rfl siz26 rfl rfl rfl)<|ys (oref 8 (u6 + 1) 0 (L10.length + 1)) [oref 6 (u4 + 1) 0 (L8.length + 1), oref 7 u5 0 L9.length, oref 8 (u6 + 1) 0 (L10.length + 1)] ([⟨1, some [oref 3 1 0 0, oref 4 1 0 0, oref 5 1 0 0]⟩, ⟨1, some [sl r1.length (r1.map (ik .u8)), i64 r21, ik .u64 r22]⟩, ⟨1, some [oref 6 (u4 + 1) 0 (L8.length + 1), oref 7 u5 0 L9.length, oref 8 (u6 + 1) 0 (L10.length + 1)]⟩, ⟨1, some (([] : List F).map f32)⟩, ⟨1, some (([] : List F).map f32)⟩, ⟨1, some (([] : List F).map f32)⟩, ⟨(u4 + 1), some ((L8 ++ ([y26] : List F)).map f32)⟩, ⟨u5, some (L9.map f32)⟩, ⟨(u6 + 1), some ((L10 ++ ([y31] : List F)).map f32)⟩, ⟨(u7 + 2), some (([y31] : List F).map f32)⟩]) siz26<|zN ?_
     refine RunC.wl (τ' := [(1, i64 a1), (4, optr 0 1 0), (5, optr 1 1 0), (6, optr 2 1 0), (7, i64 v13)]) (Γ' := [⟨1, some [oref 3 1 0 0, oref 4 1 0 0, oref 5 1 0 0]⟩, ⟨1, some [sl r1.length (r1.map (ik .u8)), i64 r21, ik .u64 r22]⟩, ⟨1, some [oref 6 (u4 + 1) 0 (L8.length + 1), oref 7 u5 0 L9.length, oref 8 (u6 + 1) 0 (L10.length + 1)]⟩, ⟨1, some (([] : List F).map f32)⟩, ⟨1, some (([] : List F).map f32)⟩, ⟨1, some (([] : List F).map f32)⟩, ⟨(u4 + 1), some ((L8 ++ ([y26] : List F)).map f32)⟩, ⟨u5, some (L9.map f32)⟩, ⟨(u6 + 1), some ((L10 ++ ([y31] : List F)).map f32)⟩, ⟨(u7 + 2), none⟩]) ⟨aR, aR, aR, aR, aR, trivial⟩ ⟨⟨rfl, .inr rfl⟩, ⟨rfl, .inr rfl⟩, ⟨rfl, .inr rfl⟩, ⟨rfl, .inr rfl⟩, ⟨rfl, .inr rfl⟩, ⟨rfl, .inr rfl⟩, ⟨rfl, .inr rfl⟩, ⟨rfl, .inr rfl⟩, ⟨rfl, .inr rfl⟩, ⟨rfl, .inl rfl⟩, trivial⟩ ?_
     obtain ⟨r41, r42, r43, hf21, h6_⟩ := obind3_some h6_
     obtain ⟨x44, hx22, h6_⟩ := oL h6_
     obtain ⟨x45, hx23, h6_⟩ := oL h6_
     obtain ⟨x46, hx24, h6_⟩ := oL h6_
     obtain ⟨hm25, h6_⟩ := need_some h6_
     refine RunC.cutN (fun τ Γ => WeakLe τ [(1, i64 a1), (4, optr 0 1 0), (5, optr 1 1 0), (6, optr 2 1 0), (7, i64 v13), (46, optr 2 1 1), (47, oref 7 u5 0 L9.length), (48, optr 1 1 0), (49, i64 r41), (50, i64 x44), (51, f32 x45), (52, f32 x46), (53, oref 9 (u7 + 3) 0 1), (54, oref 7 (u5 + 1) 0 (L9.length + 1)), (55, optr 2 1 1)] ∧ DeadLe Γ [⟨1, some [oref 3 1 0 0, oref 4 1 0 0, oref 5 1 0 0]⟩, ⟨1, some [sl r1.length (r1.map (ik .u8)), i64 r42, ik .u64 r43]⟩, ⟨1, some [oref 6 (u4 + 1) 0 (L8.length + 1), oref 7 (u5 + 1) 0 (L9.length + 1), oref 8 (u6 + 1) 0 (L10.length + 1)]⟩, ⟨1, some (([] : List F).map f32)⟩, ⟨1, some (([] : List F).map f32)⟩, ⟨1, some (([] : List F).map f32)⟩, ⟨(u4 + 1), some ((L8 ++ ([y26] : List F)).map f32)⟩, ⟨(u5 + 1), some ((L9 ++ ([x46] : List F)).map f32)⟩, ⟨(u6 + 1), some ((L10 ++ ([y31] : List F)).map f32)⟩, ⟨(u7 + 3), some (([x46] : List F).map f32)⟩]) ?_ ?_
     ·refine RunC.any (n := 11) rfl mixed ?_
      refine RAny.more (i0 := 0) (l := [2]) (by kernel_rfl) (RAnys.cons rfl ?_ (RAnys.cons rfl ?_ RAnys.nil))
      ·refine yl rfl (optr 2 1 1) (LOp.fao und47 rfl siz26 rfl rfl rfl)<|zN ?_
       refine RAny.more (i0 := 1) (l := [2]) (by kernel_rfl) (RAnys.cons rfl ?_ (RAnys.cons rfl ?_ RAnys.nil))
       ·refine yd rfl (oref 7 u5 0 L9.length) (TOp.load1_o rfl rfl agg26 rfl rfl)<|zN ?_
        refine RAny.more (i0 := 2) (l := []) (by kernel_rfl) (RAnys.cons rfl ?_ RAnys.nil)
        refine ym rfl (optr 1 1 0)<|zN ?_
        refine RAny.more (i0 := 3) (l := []) (by kernel_rfl) (RAnys.cons rfl ?_ RAnys.nil)
        refine ROps.callO (A := [optr 1 1 0, i64 9]) (args := [optr 0 0 0, i64 9]) (Γc := [⟨0, some [sl r1.length (r1.map (ik .u8)), i64 r21, ik .u64 r22]⟩]) (Γc' := [⟨0, some [sl r1.length (r1.map (ik .u8)), i64 r42, ik .u64 r43]⟩]) (r' := i64 r41) (Γ' := [⟨1, some [oref 3 1 0 0, oref 4 1 0 0, oref 5 1 0 0]⟩, ⟨1, some [sl r1.length (r1.map (ik .u8)), i64 r42, ik .u64 r43]⟩, ⟨1, some [oref 6 (u4 + 1) 0 (L8.length + 1), oref 7 u5 0 L9.length, oref 8 (u6 + 1) 0 (L10.length + 1)]⟩, ⟨1, some (([] : List F).map f32)⟩, ⟨1, some (([] : List F).map f32)⟩, ⟨1, some (([] : List F).map f32)⟩, ⟨(u4 + 1), some ((L8 ++ ([y26] : List F)).map f32)⟩, ⟨u5, some (L9.map f32)⟩, ⟨(u6 + 1), some ((L10 ++ ([y31] : List F)).map f32)⟩, ⟨(u7 + 2), none⟩]) [(1, 1)] [] rfl (CallAs.func ent72 rfl rfl) rfl rfl (SelOk.of (ndB_ok rfl) (SelL.cells0 rfl (by simp [ren, rens, sigma, rens_f32, rens_f64, rens_i64, rens_ik, rens_str, rens_cp]) (lts_cons (lt_slk (fun _ => rfl)) (lts_cons rfl (lts_cons rfl lts_nil))) trivial)) (live_of ⟨⟨_, _, rfl⟩, trivial⟩) (by simp [ren, rens, sigma, rens_f32, rens_f64, rens_i64, rens_ik, rens_str, rens_cp]) rfl (s_l00Src_pick_0p0_C0_ok 9 r1 r21 r22 r41 r42 r43 hf21) rfl (news_of trivial) (ndB_ok rfl) (by simp [ren, rens, sigma]) (by simp [backOb, sigma, ren, rens, rens_f32, rens_f64, rens_i64, rens_ik, rens_str, rens_cp] <;> omega)<|zN ?_
        refine RAny.more (i0 := 4) (l := []) (by kernel_rfl) (RAnys.cons rfl ?_ RAnys.nil)
        refine yl rfl (i64 x44) (LOp.eqr (LOp.add rfl rfl rfl) (congrArg (ik .i64) hx22))<|zN ?_
        refine RAny.more (i0 := 5) (l := []) (by kernel_rfl) (RAnys.cons rfl ?_ RAnys.nil)
        refine yl rfl (f32 x45) (LOp.eqr (LOp.i2f (src := 2) (dst := 28) ⟨_, pun2⟩ pun28 rfl rfl) (congrArg (f .f32) hx23))<|zN ?_
        refine RAny.more (i0 := 6) (l := []) (by kernel_rfl) (RAnys.cons rfl ?_ RAnys.nil)
        refine yd rfl (f32 x46) (TOp.eqr (TOp.fop (.inr (.inr (.inr rfl))) rfl (OpF.tmp rfl) (OpF.const rfl (by kernel_rfl) (by kernel_rfl))) (congrArg (f .f32) hx24))<|zN ?_
        refine RAny.more (i0 := 7) (l := []) (by kernel_rfl) (RAnys.cons rfl ?_ RAnys.nil)
        refine ye rfl (oref 9 (u7 + 3) 0 1) ([⟨1, some [oref 3 1 0 0, oref 4 1 0 0, oref 5 1 0 0]⟩, ⟨1, some [sl r1.length (r1.map (ik .u8)), i64 r42, ik .u64 r43]⟩, ⟨1, some [oref 6 (u4 + 1) 0 (L8.length + 1), oref 7 u5 0 L9.length, oref 8 (u6 + 1) 0 (L10.length + 1)]⟩, ⟨1, some (([] : List F).map f32)⟩, ⟨1, some (([] : List F).map f32)⟩, ⟨1, some (([] : List F).map f32)⟩, ⟨(u4 + 1), some ((L8 ++ ([y26] : List F)).map f32)⟩, ⟨u5, some (L9.map f32)⟩, ⟨(u6 + 1), some ((L10 ++ ([y31] : List F)).map f32)⟩, ⟨(u7 + 3), some (([x46] : List F).map f32)⟩]) (TOp.buildSlice_o (g := ⟨(u7 + 2), none⟩) (za := f32 (some 0)) (qs := [(0, [f32 x46])]) 9 rfl und26 siz28 zer28 rfl zel28 rfl rfl ⟨rfl, ⟨_, ALe.refl _, rfl⟩, trivial⟩ rfl)<|zN ?_
        refine RAny.more (i0 := 8) (l := []) (by kernel_rfl) (RAnys.cons rfl ?_ RAnys.nil)
        refine ROps.app (f := f32) (xs := L9) (ys := ([x46] : List F)) (Γ' := [⟨1, some [oref 3 1 0 0, oref 4 1 0 0, oref 5 1 0 0]⟩, ⟨1, some [sl r1.length (r1.map (ik .u8)), i64 r42, ik .u64 r43]⟩, ⟨1, some [oref 6 (u4 + 1) 0 (L8.length + 1), oref 7 u5 0 L9.length, oref 8 (u6 + 1) 0 (L10.length + 1)]⟩, ⟨1, some (([] : List F).map f32)⟩, ⟨1, some (([] : List F).map f32)⟩, ⟨1, some (([] : List F).map f32)⟩, ⟨(u4 + 1), some ((L8 ++ ([y26] : List F)).map f32)⟩, ⟨(u5 + 1), some ((L9 ++ ([x46] : List F)).map f32)⟩, ⟨(u6 + 1), some ((L10 ++ ([y31] : List F)).map f32)⟩, ⟨(u7 + 3), some (([x46] : List F).map f32)⟩]) rfl pun26 inf28 rfl rfl rfl rfl rfl rfl rfl rfl rfl (by simp) (ReadAs.own rfl (by simp)) (ones_map (fun _ => rfl)) (ap_by hm25) (ap_mx hm25) rfl<|zN ?_
        refine RAny.more (i0 := 9) (l := []) (by kernel_rfl) (RAnys.cons rfl ?_ RAnys.nil)
        refine yl rfl (optr 2 1 1) (LOp.fao und47 rfl siz26 rfl rfl rfl)<|zN ?_
        refine RAny.more (i0 := 10) (l := []) (by kernel_rfl) (RAnys.cons rfl ?_ RAnys.nil)
        refine ys (oref 7 (u5 + 1) 0 (L9.length + 1)) [oref 6 (u4 + 1) 0 (L8.length + 1), oref 7 (u5 + 1) 0 (L9.length + 1), oref 8 (u6 + 1) 0 (L10.length + 1)] ([⟨1, some [oref 3 1 0 0, oref 4 1 0 0, oref 5 1 0 0]⟩, ⟨1, some [sl r1.length (r1.map (ik .u8)), i64 r42, ik .u64 r43]⟩, ⟨1, some [oref 6 (u4 + 1) 0 (L8.length + 1), oref 7 (u5 + 1) 0 (L9.length + 1), oref 8 (u6 + 1) 0 (L10.length + 1)]⟩, ⟨1, some (([] : List F).map f32)⟩, ⟨1, some (([] : List F).map f32)⟩, ⟨1, some (([] : List F).map f32)⟩, ⟨(u4 + 1), some ((L8 ++ ([y26] : List F)).map f32)⟩, ⟨(u5 + 1), some ((L9 ++ ([x46] : List F)).map f32)⟩, ⟨(u6 + 1), some ((L10 ++ ([y31] : List F)).map f32)⟩, ⟨(u7 + 3), some (([x46] : List F).map f32)⟩]) siz26<|zN ?_
        refine RAny.done (by kernel_rfl) ?_
        exact ⟨⟨aR, aR, aR, aR, aR, aR, aR, aR, aR, aR, aR, aR, aR, aR, aR, trivial⟩, ⟨⟨rfl, .inr rfl⟩, ⟨rfl, .inr rfl⟩, ⟨rfl, .inr rfl⟩, ⟨rfl, .inr rfl⟩, ⟨rfl, .inr rfl⟩, ⟨rfl, .inr rfl⟩, ⟨rfl, .inr rfl⟩, ⟨rfl, .inr rfl⟩, ⟨rfl, .inr rfl⟩, ⟨rfl, .inr rfl⟩, trivial⟩⟩
       ·refine ym rfl (optr 1 1 0)<|zN ?_
        refine RAny.more (i0 := 1) (l := [3]) (by kernel_rfl) (RAnys.cons rfl ?_ (RAnys.cons rfl ?_ RAnys.nil))
        ·refine yd rfl (oref 7 u5 0 L9.length) (TOp.load1_o rfl rfl agg26 rfl rfl)<|zN ?_
         refine RAny.more (i0 := 3) (l := []) (by kernel_rfl) (RAnys.cons rfl ?_ RAnys.nil)
         refine ROps.callO (A := [optr 1 1 0, i64 9]) (args := [optr 0 0 0, i64 9]) (Γc := [⟨0, some [sl r1.length (r1.map (ik .u8)), i64 r21, ik .u64 r22]⟩]) (Γc' := [⟨0, some [sl r1.length (r1.map (ik .u8)), i64 r42, ik .u64 r43]⟩]) (r' := i64 r41) (Γ' := [⟨1, some [oref 3 1 0 0, oref 4 1 0 0, oref 5 1 0 0]⟩, ⟨1, some [sl r1.length (r1.map (ik .u8)), i64 r42, ik .u64 r43]⟩, ⟨1, some [oref 6 (u4 + 1) 0 (L8.length + 1), oref 7 u5 0 L9.length, oref 8 (u6 + 1) 0 (L10.length + 1)]⟩, ⟨1, some (([] : List F).map f32)⟩, ⟨1, some (([] : List F).map f32)⟩, ⟨1, some (([] : List F).map f32)⟩, ⟨(u4 + 1), some ((L8 ++ ([y26] : List F)).map f32)⟩, ⟨u5, some (L9.map f32)⟩, ⟨(u6 + 1), some ((L10 ++ ([y31] : List F)).map f32)⟩, ⟨(u7 + 2), none⟩]) [(1, 1)] [] rfl (CallAs.func ent72 rfl rfl) rfl rfl (SelOk.of (ndB_ok rfl) (SelL.cells0 rfl (by simp [ren, rens, sigma, rens_f32, rens_f64, rens_i64, rens_ik, rens_str, rens_cp]) (lts_cons (lt_slk (fun _ => rfl)) (lts_cons rfl (lts_cons rfl lts_nil))) trivial)) (live_of ⟨⟨_, _, rfl⟩, trivial⟩) (by simp [ren, rens, sigma, rens_f32, rens_f64, rens_i64, rens_ik, rens_str, rens_cp]) rfl (s_l00Src_pick_0p0_C0_ok 9 r1 r21 r22 r41 r42 r43 hf21) rfl (news_of trivial) (ndB_ok rfl) (by simp [ren, rens, sigma]) (by simp [backOb, sigma, ren, rens, rens_f32, rens_f64, rens_i64, rens_ik, rens_str, rens_cp] <;> omega)<|zN ?_
         refine RAny.more (i0 := 4) (l := []) (by kernel_rfl) (RAnys.cons rfl ?_ RAnys.nil)
         refine yl rfl (i64 x44) (LOp.eqr (LOp.add rfl rfl rfl) (congrArg (ik .i64) hx22))<|zN ?_
         refine RAny.more (i0 := 5) (l := []) (by kernel_rfl) (RAnys.cons rfl ?_ RAnys.nil)
         refine yl rfl (f32 x45) (LOp.eqr (LOp.i2f (src := 2) (dst := 28) ⟨_, pun2⟩ pun28 rfl rfl) (congrArg (f .f32) hx23))<|zN ?_
         refine RAny.more (i0 := 6) (l := []) (by kernel_rfl) (RAnys.cons rfl ?_ RAnys.nil)
         refine yd rfl (f32 x46) (TOp.eqr (TOp.fop (.inr (.inr (.inr rfl))) rfl (OpF.tmp rfl) (OpF.const rfl (by kernel_rfl) (by kernel_rfl))) (congrArg (f .f32) hx24))<|zN ?_
         refine RAny.more (i0 := 7) (l := []) (by kernel_rfl) (RAnys.cons rfl ?_ RAnys.nil)
         refine ye rfl (oref 9 (u7 + 3) 0 1) ([⟨1, some [oref 3 1 0 0, oref 4 1 0 0, oref 5 1 0 0]⟩, ⟨1, some [sl r1.length (r1.map (ik .u8)), i64 r42, ik .u64 r43]⟩, ⟨1, some [oref 6 (u4 + 1) 0 (L8.length + 1), oref 7 u5 0 L9.length, oref 8 (u6 + 1) 0 (L10.length + 1)]⟩, ⟨1, some (([] : List F).map f32)⟩, ⟨1, some (([] : List F).map f32)⟩, ⟨1, some (([] : List F).map f32)⟩, ⟨(u4 + 1), some ((L8 ++ ([y26] : List F)).map f32)⟩, ⟨u5, some (L9.map f32)⟩, ⟨(u6 + 1), some ((L10 ++ ([y31] : List F)).map f32)⟩, ⟨(u7 + 3), some (([x46] : List F).map f32)⟩]) (TOp.buildSlice_o (g := ⟨(u7 + 2), none⟩) (za := f32 (some 0)) (qs := [(0, [f32 x46])]) 9 rfl und26 siz28 zer28 rfl zel28 rfl rfl ⟨rfl, ⟨_, ALe.refl _, rfl⟩, trivial⟩ rfl)<|zN ?_
         refine RAny.more (i0 := 8) (l := []) (by kernel_rfl) (RAnys.cons rfl ?_ RAnys.nil)
         refine ROps.app (f := f32) (xs := L9) (ys := ([x46] : List F)) (Γ' := [⟨1, some [oref 3 1 0 0, oref 4 1 0 0, oref 5 1 0 0]⟩, ⟨1, some [sl r1.length (r1.map (ik .u8)), i64 r42, ik .u64 r43]⟩, ⟨1, some [oref 6 (u4 + 1) 0 (L8.length + 1), oref 7 u5 0 L9.length, oref 8 (u6 + 1) 0 (L10.length + 1)]⟩, ⟨1, some (([] : List F).map f32)⟩, ⟨1, some (([] : List F).map f32)⟩, ⟨1, some (([] : List F).map f32)⟩, ⟨(u4 + 1), some ((L8 ++ ([y26] : List F)).map f32)⟩, ⟨(u5 + 1), some ((L9 ++ ([x46] : List F)).map f32)⟩, ⟨(u6 + 1), some ((L10 ++ ([y31] : List F)).map f32)⟩, ⟨(u7 + 3), some (([x46] : List F).map f32)⟩]) rfl pun26 inf28 rfl rfl rfl rfl rfl rfl rfl rfl rfl (by simp) (ReadAs.own rfl (by simp)) (ones_map (fun _ => rfl)) (ap_by hm25) (ap_mx hm25) rfl<|zN ?_
         refine RAny.more (i0 := 9) (l := []) (by kernel_rfl) (RAnys.cons rfl ?_ RAnys.nil)
         refine yl rfl (optr 2 1 1) (LOp.fao und47 rfl siz26 rfl rfl rfl)<|zN ?_
         refine RAny.more (i0 := 10) (l := []) (by kernel_rfl) (RAnys.cons rfl ?_ RAnys.nil)
         refine ys (oref 7 (u5 + 1) 0 (L9.length + 1)) [oref 6 (u4 + 1) 0 (L8.length + 1), oref 7 (u5 + 1) 0 (L9.length + 1), oref 8 (u6 + 1) 0 (L10.length + 1)] ([⟨1, some [oref 3 1 0 0, oref 4 1 0 0, oref 5 1 0 0]⟩, ⟨1, some [sl r1.length (r1.map (ik .u8)), i64 r42, ik .u64 r43]⟩, ⟨1, some [oref 6 (u4 + 1) 0 (L8.length + 1), oref 7 (u5 + 1) 0 (L9.length + 1), oref 8 (u6 + 1) 0 (L10.length + 1)]⟩, ⟨1, some (([] : List F).map f32)⟩, ⟨1, some (([] : List F).map f32)⟩, ⟨1, some (([] : List F).map f32)⟩, ⟨(u4 + 1), some ((L8 ++ ([y26] : List F)).map f32)⟩, ⟨(u5 + 1), some ((L9 ++ ([x46] : List F)).map f32)⟩, ⟨(u6 + 1), some ((L10 ++ ([y31] : List F)).map f32)⟩, ⟨(u7 + 3), some (([x46] : List F).map f32)⟩]) siz26<|zN ?_
         refine RAny.done (by kernel_rfl) ?_
         exact ⟨⟨aR, aR, aR, aR, aR, aR, aR, aR, aR, aR, aR, aR, aR, aR, aR, trivial⟩, ⟨⟨rfl, .inr rfl⟩, ⟨rfl, .inr rfl⟩, ⟨rfl, .inr rfl⟩, ⟨rfl, .inr rfl⟩, ⟨rfl, .inr rfl⟩, ⟨rfl, .inr rfl⟩, ⟨rfl, .inr rfl⟩, ⟨rfl, .inr rfl⟩, ⟨rfl, .inr rfl⟩, ⟨rfl, .inr rfl⟩, trivial⟩⟩
        ·refine ROps.callO (A := [optr 1 1 0, i64 9]) (args := [optr 0 0 0, i64 9]) (Γc := [⟨0, some [sl r1.length (r1.map (ik .u8)), i64 r21, ik .u64 r22]⟩]) (Γc' := [⟨0, some [sl r1.length (r1.map (ik .u8)), i64 r42, ik .u64 r43]⟩]) (r' := i64 r41) (Γ' := [⟨1, some [oref 3 1 0 0, oref 4 1 0 0, oref 5 1 0 0]⟩, ⟨1, some [sl r1.length (r1.map (ik .u8)), i64 r42, ik .u64 r43]⟩, ⟨1, some [oref 6 (u4 + 1) 0 (L8.length + 1), oref 7 u5 0 L9.length, oref 8 (u6 + 1) 0 (L10.length + 1)]⟩, ⟨1, some (([] : List F).map f32)⟩, ⟨1, some (([] : List F).map f32)⟩, ⟨1, some (([] : List F).map f32)⟩, ⟨(u4 + 1), some ((L8 ++ ([y26] : List F)).map f32)⟩, ⟨u5, some (L9.map f32)⟩, ⟨(u6 + 1), some ((L10 ++ ([y31] : List F)).map f32)⟩, ⟨(u7 + 2), none⟩]) [(1, 1)] [] rfl (CallAs.func ent72 rfl rfl) rfl rfl (SelOk.of (ndB_ok rfl) (SelL.cells0 rfl (by simp [ren, rens, sigma, rens_f32, rens_f64, rens_i64, rens_ik, rens_str, rens_cp]) (lts_cons (lt_slk (fun _ => rfl)) (lts_cons rfl (lts_cons rfl lts_nil))) trivial)) (live_of ⟨⟨_, _, rfl⟩, trivial⟩) (by simp [ren, rens, sigma, rens_f32, rens_f64, rens_i64, rens_ik, rens_str, rens_cp]) rfl (s_l00Src_pick_0p0_C0_ok 9 r1 r21 r22 r41 r42 r43 hf21) rfl (news_of trivial) (ndB_ok rfl) (by simp [ren, rens, sigma]) (by simp [backOb, sigma, ren, rens, rens_f32, rens_f64, rens_i64, rens_ik, rens_str, rens_cp] <;> omega)<|zN ?_
         refine RAny.more (i0 := 1) (l := [4]) (by kernel_rfl) (RAnys.cons rfl ?_ (RAnys.cons rfl ?_ RAnys.nil))
         ·refine yd rfl (oref 7 u5 0 L9.length) (TOp.load1_o rfl rfl agg26 rfl rfl)<|zN ?_
          refine RAny.more (i0 := 4) (l := []) (by kernel_rfl) (RAnys.cons rfl ?_ RAnys.nil)
          refine yl rfl (i64 x44) (LOp.eqr (LOp.add rfl rfl rfl) (congrArg (ik .i64) hx22))<|zN ?_
          refine RAny.more (i0 := 5) (l := []) (by kernel_rfl) (RAnys.cons rfl ?_ RAnys.nil)
          refine yl rfl (f32 x45) (LOp.eqr (LOp.i2f (src := 2) (dst := 28) ⟨_, pun2⟩ pun28 rfl rfl) (congrArg (f .f32) hx23))<|zN ?_
          refine RAny.more (i0 := 6) (l := []) (by kernel_rfl) (RAnys.cons rfl ?_ RAnys.nil)
          refine yd rfl (f32 x46) (TOp.eqr (TOp.fop (.inr (.inr (.inr rfl))) rfl (OpF.tmp rfl) (OpF.const rfl (by kernel_rfl) (by kernel_rfl))) (congrArg (f .f32) hx24))<|zN ?_
          refine RAny.more (i0 := 7) (l := []) (by kernel_rfl) (RAnys.cons rfl ?_ RAnys.nil)
          refine ye rfl (oref 9 (u7 + 3) 0 1) ([⟨1, some [oref 3 1 0 0, oref 4 1 0 0, oref 5 1 0 0]⟩, ⟨1, some [sl r1.length (r1.map (ik .u8)), i64 r42, ik .u64 r43]⟩, ⟨1, some [oref 6 (u4 + 1) 0 (L8.length + 1), oref 7 u5 0 L9.length, oref 8 (u6 + 1) 0 (L10.length + 1)]⟩, ⟨1, some (([] : List F).map f32)⟩, ⟨1, some (([] : List F).map f32)⟩, ⟨1, some (([] : List F).map f32)⟩, ⟨(u4 + 1), some ((L8 ++ ([y26] : List F)).map f32)⟩, ⟨u5, some (L9.map f32)⟩, ⟨(u6 + 1), some ((L10 ++ ([y31] : List F)).map f32)⟩, ⟨(u7 + 3), some (([x46] : List F).map f32)⟩]) (TOp.buildSlice_o (g := ⟨(u7 + 2), none⟩) (za := f32 (some 0)) (qs := [(0, [f32 x46])]) 9 rfl und26 siz28 zer28 rfl zel28 rfl rfl ⟨rfl, ⟨_, ALe.refl _, rfl⟩, trivial⟩ rfl)<|zN ?_
          refine RAny.more (i0 := 8) (l := []) (by kernel_rfl) (RAnys.cons rfl ?_ RAnys.nil)
          refine ROps.app (f := f32) (xs := L9) (ys := ([x46] : List F)) (Γ' := [⟨1, some [oref 3 1 0 0, oref 4 1 0 0, oref 5 1 0 0]⟩, ⟨1, some [sl r1.length (r1.map (ik .u8)), i64 r42, ik .u64 r43]⟩, ⟨1, some [oref 6 (u4 + 1) 0 (L8.length + 1), oref 7 u5 0 L9.length, oref 8 (u6 + 1) 0 (L10.length + 1)]⟩, ⟨1, some (([] : List F).map f32)⟩, ⟨1, some (([] : List F).map f32)⟩, ⟨1, some (([] : List F).map f32)⟩, ⟨(u4 + 1), some ((L8 ++ ([y26] : List F)).map f32)⟩, ⟨(u5 + 1), some ((L9 ++ ([x46] : List F)).map f32)⟩, ⟨(u6 + 1), some ((L10 ++ ([y31] : List F)).map f32)⟩, ⟨(u7 + 3), some (([x46] : List F).map f32)⟩]) rfl pun26 inf28 rfl rfl rfl rfl rfl rfl rfl rfl rfl (by simp) (ReadAs.own rfl (by simp)) (ones_map (fun _ => rfl)) (ap_by hm25) (ap_mx hm25) rfl<|zN ?_
          refine RAny.more (i0 := 9) (l := []) (by kernel_rfl) (RAnys.cons rfl ?_ RAnys.nil)
          refine yl rfl (optr 2 1 1) (LOp.fao und47 rfl siz26 rfl rfl rfl)<|zN ?_
          refine RAny.more (i0 := 10) (l := []) (by kernel_rfl) (RAnys.cons rfl ?_ RAnys.nil)
          refine ys (oref 7 (u5 + 1) 0 (L9.length + 1)) [oref 6 (u4 + 1) 0 (L8.length + 1), oref 7 (u5 + 1) 0 (L9.length + 1), oref 8 (u6 + 1) 0 (L10.length + 1)] ([⟨1, some [oref 3 1 0 0, oref 4 1 0 0, oref 5 1 0 0]⟩, ⟨1, some [sl r1.length (r1.map (ik .u8)), i64 r42, ik .u64 r43]⟩, ⟨1, some [oref 6 (u4 + 1) 0 (L8.length + 1), oref 7 (u5 + 1) 0 (L9.length + 1), oref 8 (u6 + 1) 0 (L10.length + 1)]⟩, ⟨1, some (([] : List F).map f32)⟩, ⟨1, some (([] : List F).map f32)⟩, ⟨1, some (([] : List F).map f32)⟩, ⟨(u4 + 1), some ((L8 ++ ([y26] : List F)).map f32)⟩, ⟨(u5 + 1), some ((L9 ++ ([x46] : List F)).map f32)⟩, ⟨(u6 + 1), some ((L10 ++ ([y31] : List F)).map f32)⟩, ⟨(u7 + 3), some (([x46] : List F).map f32)⟩]) siz26<|zN ?_
          refine RAny.done (by kernel_rfl) ?_
          exact ⟨⟨aR, aR, aR, aR, aR, aR, aR, aR, aR, aR, aR, aR, aR, aR, aR, trivial⟩, ⟨⟨rfl, .inr rfl⟩, ⟨rfl, .inr rfl⟩, ⟨rfl, .inr rfl⟩, ⟨rfl, .inr rfl⟩, ⟨rfl, .inr rfl⟩, ⟨rfl, .inr rfl⟩, ⟨rfl, .inr rfl⟩, ⟨rfl, .inr rfl⟩, ⟨rfl, .inr rfl⟩, ⟨rfl, .inr rfl⟩, trivial⟩⟩
         ·refine yl rfl (i64 x44) (LOp.eqr (LOp.add rfl rfl rfl) (congrArg (ik .i64) hx22))<|zN ?_
          refine RAny.more (i0 := 1) (l := [5]) (by kernel_rfl) (RAnys.cons rfl ?_ (RAnys.cons rfl ?_ RAnys.nil))
          ·refine yd rfl (oref 7 u5 0 L9.length) (TOp.load1_o rfl rfl agg26 rfl rfl)<|zN ?_
           refine RAny.more (i0 := 5) (l := []) (by kernel_rfl) (RAnys.cons rfl ?_ RAnys.nil)
           refine yl rfl (f32 x45) (LOp.eqr (LOp.i2f (src := 2) (dst := 28) ⟨_, pun2⟩ pun28 rfl rfl) (congrArg (f .f32) hx23))<|zN ?_
           refine RAny.more (i0 := 6) (l := []) (by kernel_rfl) (RAnys.cons rfl ?_ RAnys.nil)
           refine yd rfl (f32 x46) (TOp.eqr (TOp.fop (.inr (.inr (.inr rfl))) rfl (OpF.tmp rfl) (OpF.const rfl (by kernel_rfl) (by kernel_rfl))) (congrArg (f .f32) hx24))<|zN ?_
           refine RAny.more (i0 := 7) (l := []) (by kernel_rfl) (RAnys.cons rfl ?_ RAnys.nil)
           refine ye rfl (oref 9 (u7 + 3) 0 1) ([⟨1, some [oref 3 1 0 0, oref 4 1 0 0, oref 5 1 0 0]⟩, ⟨1, some [sl r1.length (r1.map (ik .u8)), i64 r42, ik .u64 r43]⟩, ⟨1, some [oref 6 (u4 + 1) 0 (L8.length + 1), oref 7 u5 0 L9.length, oref 8 (u6 + 1) 0 (L10.length + 1)]⟩, ⟨1, some (([] : List F).map f32)⟩, ⟨1, some (([] : List F).map f32)⟩, ⟨1, some (([] : List F).map f32)⟩, ⟨(u4 + 1), some ((L8 ++ ([y26] : List F)).map f32)⟩, ⟨u5, some (L9.map f32)⟩, ⟨(u6 + 1), some ((L10 ++ ([y31] : List F)).map f32)⟩, ⟨(u7 + 3), some (([x46] : List F).map f32)⟩]) (TOp.buildSlice_o (g := ⟨(u7 + 2), none⟩) (za := f32 (some 0)) (qs := [(0, [f32 x46])]) 9 rfl und26 siz28 zer28 rfl zel28 rfl rfl ⟨rfl, ⟨_, ALe.refl _, rfl⟩, trivial⟩ rfl)<|zN ?_
           refine RAny.more (i0 := 8) (l := []) (by kernel_rfl) (RAnys.cons rfl ?_ RAnys.nil)
           refine ROps.app (f := f32) (xs := L9) (ys := ([x46] : List F)) (Γ' := [⟨1, some [oref 3 1 0 0, oref 4 1 0 0, oref 5 1 0 0]⟩, ⟨1, some [sl r1.length (r1.map (ik .u8)), i64 r42, ik .u64 r43]⟩, ⟨1, some [oref 6 (u4 + 1) 0 (L8.length + 1), oref 7 u5 0 L9.length, oref 8 (u6 + 1) 0 (L10.length + 1)]⟩, ⟨1, some (([] : List F).map f32)⟩, ⟨1, some (([] : List F).map f32)⟩, ⟨1, some (([] : List F).map f32)⟩, ⟨(u4 + 1), some ((L8 ++ ([y26] : List F)).map f32)⟩, ⟨(u5 + 1), some ((L9 ++ ([x46] : List F)).map f32)⟩, ⟨(u6 + 1), some ((L10 ++ ([y31] : List F)).map f32)⟩, ⟨(u7 + 3), some (([x46] : List F).map f32)⟩]) rfl pun26 inf28 rfl rfl rfl rfl rfl rfl rfl rfl rfl (by simp) (ReadAs.own rfl (by simp)) (ones_map (fun _ => rfl)) (ap_by hm25) (ap_mx hm25) rfl<|zN ?_
           refine RAny.more (i0 := 9) (l := []) (by kernel_rfl) (RAnys.cons rfl ?_ RAnys.nil)
           refine yl rfl (optr 2 1 1) (LOp.fao und47 rfl siz26 rfl rfl rfl)<|zN ?_
           refine RAny.more (i0 := 10) (l := []) (by kernel_rfl) (RAnys.cons rfl ?_ RAnys.nil)
           refine ys (oref 7 (u5 + 1) 0 (L9.length + 1)) [oref 6 (u4 + 1) 0 (L8.length + 1), oref 7 (u5 + 1) 0 (L9.length + 1), oref 8 (u6 + 1) 0 (L10.length + 1)] ([⟨1, some [oref 3 1 0 0, oref 4 1 0 0, oref 5 1 0 0]⟩, ⟨1, some [sl r1.length (r1.map (ik .u8)), i64 r42, ik .u64 r43]⟩, ⟨1, some [oref 6 (u4 + 1) 0 (L8.length + 1), oref 7 (u5 + 1) 0 (L9.length + 1), oref 8 (u6 + 1) 0 (L10.length + 1)]⟩, ⟨1, some (([] : List F).map f32)⟩, ⟨1, some (([] : List F).map f32)⟩, ⟨1, some (([] : List F).map f32)⟩, ⟨(u4 + 1), some ((L8 ++ ([y26] : List F)).map f32)⟩, ⟨(u5 + 1), some ((L9 ++ ([x46] : List F)).map f32)⟩, ⟨(u6 + 1), some ((L10 ++ ([y31] : List F)).map f32)⟩, ⟨(u7 + 3), some (([x46] : List F).map f32)⟩]) siz26<|zN ?_
           refine RAny.done (by kernel_rfl) ?_
           exact ⟨⟨aR, aR, aR, aR, aR, aR, aR, aR, aR, aR, aR, aR, aR, aR, aR, trivial⟩, ⟨⟨rfl, .inr rfl⟩, ⟨rfl, .inr rfl⟩, ⟨rfl, .inr rfl⟩, ⟨rfl, .inr rfl⟩, ⟨rfl, .inr rfl⟩, ⟨rfl, .inr rfl⟩, ⟨rfl, .inr rfl⟩, ⟨rfl, .inr rfl⟩, ⟨rfl, .inr rfl⟩, ⟨rfl, .inr rfl⟩, trivial⟩⟩
          ·refine yl rfl (f32 x45) (LOp.eqr (LOp.i2f (src := 2) (dst := 28) ⟨_, pun2⟩ pun28 rfl rfl) (congrArg (f .f32) hx23))<|zN ?_
           refine RAny.more (i0 := 1) (l := [6]) (by kernel_rfl) (RAnys.cons rfl ?_ (RAnys.cons rfl ?_ RAnys.nil))
           ·refine yd rfl (oref 7 u5 0 L9.length) (TOp.load1_o rfl rfl agg26 rfl rfl)<|zN ?_
            refine RAny.more (i0 := 6) (l := []) (by kernel_rfl) (RAnys.cons rfl ?_ RAnys.nil)
            refine yd rfl (f32 x46) (TOp.eqr (TOp.fop (.inr (.inr (.inr rfl))) rfl (OpF.tmp rfl) (OpF.const rfl (by kernel_rfl) (by kernel_rfl))) (congrArg (f .f32) hx24))<|zN ?_
            refine RAny.more (i0 := 7) (l := []) (by kernel_rfl) (RAnys.cons rfl ?_ RAnys.nil)
            refine ye rfl (oref 9 (u7 + 3) 0 1) ([⟨1, some [oref 3 1 0 0, oref 4 1 0 0, oref 5 1 0 0]⟩, ⟨1, some [sl r1.length (r1.map (ik .u8)), i64 r42, ik .u64 r43]⟩, ⟨1, some [oref 6 (u4 + 1) 0 (L8.length + 1), oref 7 u5 0 L9.length, oref 8 (u6 + 1) 0 (L10.length + 1)]⟩, ⟨1, some (([] : List F).map f32)⟩, ⟨1, some (([] : List F).map f32)⟩, ⟨1, some (([] : List F).map f32)⟩, ⟨(u4 + 1), some ((L8 ++ ([y26] : List F)).map f32)⟩, ⟨u5, some (L9.map f32)⟩, ⟨(u6 + 1), some ((L10 ++ ([y31] : List F)).map f32)⟩, ⟨(u7 + 3), some (([x46] : List F).map f32)⟩]) (TOp.buildSlice_o (g := ⟨(u7 + 2), none⟩) (za := f32 (some 0)) (qs := [(0, [f32 x46])]) 9 rfl und26 siz28 zer28 rfl zel28 rfl rfl ⟨rfl, ⟨_, ALe.refl _, rfl⟩, trivial⟩ rfl)<|zN ?_
            refine RAny.more (i0 := 8) (l := []) (by kernel_rfl) (RAnys.cons rfl ?_ RAnys.nil)
            refine ROps.app (f := f32) (xs := L9) (ys := ([x46] : List F)) (Γ' := [⟨1, some [oref 3 1 0 0, oref 4 1 0 0, oref 5 1 0 0]⟩, ⟨1, some [sl r1.length (r1.map (ik .u8)), i64 r42, ik .u64 r43]⟩, ⟨1, some [oref 6 (u4 + 1) 0 (L8.length + 1), oref 7 u5 0 L9.length, oref 8 (u6 + 1) 0 (L10.length + 1)]⟩, ⟨1, some (([] : List F).map f32)⟩, ⟨1, some (([] : List F).map f32)⟩, ⟨1, some (([] : List F).map f32)⟩, ⟨(u4 + 1), some ((L8 ++ ([y26] : List F)).map f32)⟩, ⟨(u5 + 1), some ((L9 ++ ([x46] : List F)).map f32)⟩, ⟨(u6 + 1), some ((L10 ++ ([y31] : List F)).map f32)⟩, ⟨(u7 + 3), some (([x46] : List F).map f32)⟩]) rfl pun26 inf28 rfl rfl rfl rfl rfl rfl rfl rfl rfl (by simp) (ReadAs.own rfl (by simp)) (ones_map (fun _ => rfl)) (ap_by hm25) (ap_mx hm25) rfl<|zN ?_
            refine RAny.more (i0 := 9) (l := []) (by kernel_rfl) (RAnys.cons rfl ?_ RAnys.nil)
            refine yl rfl (optr 2 1 1) (LOp.fao und47 rfl siz26 rfl rfl rfl)<|zN ?_
            refine RAny.more (i0 := 10) (l := []) (by kernel_rfl) (RAnys.cons rfl ?_ RAnys.nil)
            refine ys (oref 7 (u5 + 1) 0 (L9.length + 1)) [oref 6 (u4 + 1) 0 (L8.length + 1), oref 7 (u5 + 1) 0 (L9.length + 1), oref 8 (u6 + 1) 0 (L10.length + 1)] ([⟨1, some [oref 3 1 0 0, oref 4 1 0 0, oref 5 1 0 0]⟩, ⟨1, some [sl r1.length (r1.map (ik .u8)), i64 r42, ik .u64 r43]⟩, ⟨1, some [oref 6 (u4 + 1) 0 (L8.length + 1), oref 7 (u5 + 1) 0 (L9.length + 1), oref 8 (u6 + 1) 0 (L10.length + 1)]⟩, ⟨1, some (([] : List F).map f32)⟩, ⟨1, some (([] : List F).map f32)⟩, ⟨1, some (([] : List F).map f32)⟩, ⟨(u4 + 1), some ((L8 ++ ([y26] : List F)).map f32)⟩, ⟨(u5 + 1), some ((L9 ++ ([x46] : List F)).map f32)⟩, ⟨(u6 + 1), some ((L10 ++ ([y31] : List F)).map f32)⟩, ⟨(u7 + 3), some (([x46] : List F).map f32)⟩]) siz26<|zN ?_
            refine RAny.done (by kernel_rfl) ?_
            exact ⟨⟨aR, aR, aR, aR, aR, aR, aR, aR, aR, aR, aR, aR, aR, aR, aR, trivial⟩, ⟨⟨rfl, .inr rfl⟩, ⟨rfl, .inr rfl⟩, ⟨rfl, .inr rfl⟩, ⟨rfl, .inr rfl⟩, ⟨rfl, .inr rfl⟩, ⟨rfl, .inr rfl⟩, ⟨rfl, .inr rfl⟩, ⟨rfl, .inr rfl⟩, ⟨rfl, .inr rfl⟩, ⟨rfl, .inr rfl⟩, trivial⟩⟩
           ·refine yd rfl (f32 x46) (TOp.eqr (TOp.fop (.inr (.inr (.inr rfl))) rfl (OpF.tmp rfl) (OpF.const rfl (by kernel_rfl) (by kernel_rfl))) (congrArg (f .f32) hx24))<|zN ?_
            refine RAny.more (i0 := 1) (l := [7]) (by kernel_rfl) (RAnys.cons rfl ?_ (RAnys.cons rfl ?_ RAnys.nil))
            ·refine yd rfl (oref 7 u5 0 L9.length) (TOp.load1_o rfl rfl agg26 rfl rfl)<|zN ?_
             refine RAny.more (i0 := 7) (l := []) (by kernel_rfl) (RAnys.cons rfl ?_ RAnys.nil)
             refine ye rfl (oref 9 (u7 + 3) 0 1) ([⟨1, some [oref 3 1 0 0, oref 4 1 0 0, oref 5 1 0 0]⟩, ⟨1, some [sl r1.length (r1.map (ik .u8)), i64 r42, ik .u64 r43]⟩, ⟨1, some [oref 6 (u4 + 1) 0 (L8.length + 1), oref 7 u5 0 L9.length, oref 8 (u6 + 1) 0 (L10.length + 1)]⟩, ⟨1, some (([] : List F).map f32)⟩, ⟨1, some (([] : List F).map f32)⟩, ⟨1, some (([] : List F).map f32)⟩, ⟨(u4 + 1), some ((L8 ++ ([y26] : List F)).map f32)⟩, ⟨u5, some (L9.map f32)⟩, ⟨(u6 + 1), some ((L10 ++ ([y31] : List F)).map f32)⟩, ⟨(u7 + 3), some (([x46] : List F).map f32)⟩]) (TOp.buildSlice_o (g := ⟨(u7 + 2), none⟩) (za := f32 (some 0)) (qs := [(0, [f32 x46])]) 9 rfl und26 siz28 zer28 rfl zel28 rfl rfl ⟨rfl, ⟨_, ALe.refl _, rfl⟩, trivial⟩ rfl)<|zN ?_
             refine RAny.more (i0 := 8) (l := []) (by kernel_rfl) (RAnys.cons rfl ?_ RAnys.nil)
             refine ROps.app (f := f32) (xs := L9) (ys := ([x46] : List F)) (Γ' := [⟨1, some [oref 3 1 0 0, oref 4 1 0 0, oref 5 1 0 0]⟩, ⟨1, some [sl r1.length (r1.map (ik .u8)), i64 r42, ik .u64 r43]⟩, ⟨1, some [oref 6 (u4 + 1) 0 (L8.length + 1), oref 7 u5 0 L9.length, oref 8 (u6 + 1) 0 (L10.length + 1)]⟩, ⟨1, some (([] : List F).map f32)⟩, ⟨1, some (([] : List F).map f32)⟩, ⟨1, some (([] : List F).map f32)⟩, ⟨(u4 + 1), some ((L8 ++ ([y26] : List F)).map f32)⟩, ⟨(u5 + 1), some ((L9 ++ ([x46] : List F)).map f32)⟩, ⟨(u6 + 1), some ((L10 ++ ([y31] : List F)).map f32)⟩, ⟨(u7 + 3), some (([x46] : List F).map f32)⟩]) rfl pun26 inf28 rfl rfl rfl rfl rfl rfl rfl rfl rfl (by simp) (ReadAs.own rfl (by simp)) (ones_map (fun _ => rfl)) (ap_by hm25) (ap_mx hm25) rfl<|zN ?_
             refine RAny.more (i0 := 9) (l := []) (by kernel_rfl) (RAnys.cons rfl ?_ RAnys.nil)
             refine yl rfl (optr 2 1 1) (LOp.fao und47 rfl siz26 rfl rfl rfl)<|zN ?_
             refine RAny.more (i0 := 10) (l := []) (by kernel_rfl) (RAnys.cons rfl ?_ RAnys.nil)
             refine ys (oref 7 (u5 + 1) 0 (L9.length + 1)) [oref 6 (u4 + 1) 0 (L8.length + 1), oref 7 (u5 + 1) 0 (L9.length + 1), oref 8 (u6 + 1) 0 (L10.length + 1)] ([⟨1, some [oref 3 1 0 0, oref 4 1 0 0, oref 5 1 0 0]⟩, ⟨1, some [sl r1.length (r1.map (ik .u8)), i64 r42, ik .u64 r43]⟩, ⟨1, some [oref 6 (u4 + 1) 0 (L8.length + 1), oref 7 (u5 + 1) 0 (L9.length + 1), oref 8 (u6 + 1) 0 (L10.length + 1)]⟩, ⟨1, some (([] : List F).map f32)⟩, ⟨1, some (([] : List F).map f32)⟩, ⟨1, some (([] : List F).map f32)⟩, ⟨(u4 + 1), some ((L8 ++ ([y26] : List F)).map f32)⟩, ⟨(u5 + 1), some ((L9 ++ ([x46] : List F)).map f32)⟩, ⟨(u6 + 1), some ((L10 ++ ([y31] : List F)).map f32)⟩, ⟨(u7 + 3), some (([x46] : List F).map f32)⟩]) siz26<|zN ?_
             refine RAny.done (by kernel_rfl) ?_
             exact ⟨⟨aR, aR, aR, aR, aR, aR, aR, aR, aR, aR, aR, aR, aR, aR, aR, trivial⟩, ⟨⟨rfl, .inr rfl⟩, ⟨rfl, .inr rfl⟩, ⟨rfl, .inr rfl⟩, ⟨rfl, .inr rfl⟩, ⟨rfl, .inr rfl⟩, ⟨rfl, .inr rfl⟩, ⟨rfl, .inr rfl⟩, ⟨rfl, .inr rfl⟩, ⟨rfl, .inr rfl⟩, ⟨rfl, .inr rfl⟩, trivial⟩⟩
            ·refine ye rfl (oref 9 (u7 + 3) 0 1) ([⟨1, some [oref 3 1 0 0, oref 4 1 0 0, oref 5 1 0 0]⟩, ⟨1, some [sl r1.length (r1.map (ik .u8)), i64 r42, ik .u64 r43]⟩, ⟨1, some [oref 6 (u4 + 1) 0 (L8.length + 1), oref 7 u5 0 L9.length, oref 8 (u6 + 1) 0 (L10.length + 1)]⟩, ⟨1, some (([] : List F).map f32)⟩, ⟨1, some (([] : List F).map f32)⟩, ⟨1, some (([] : List F).map f32)⟩, ⟨(u4 + 1), some ((L8 ++ ([y26] : List F)).map f32)⟩, ⟨u5, some (L9.map f32)⟩, ⟨(u6 + 1), some ((L10 ++ ([y31] : List F)).map f32)⟩, ⟨(u7 + 3), some (([x46] : List F).map f32)⟩]) (TOp.buildSlice_o (g := ⟨(u7 + 2), none⟩) (za := f32 (some 0)) (qs := [(0, [f32 x46])]) 9 rfl und26 siz28 zer28 rfl zel28 rfl rfl ⟨rfl, ⟨_, ALe.refl _, rfl⟩, trivial⟩ rfl)<|zN ?_
             refine RAny.more (i0 := 1) (l := []) (by kernel_rfl) (RAnys.cons rfl ?_ RAnys.nil)
             refine yd rfl (oref 7 u5 0 L9.length) (TOp.load1_o rfl rfl agg26 rfl rfl)<|zN ?_
             refine RAny.more (i0 := 8) (l := []) (by kernel_rfl) (RAnys.cons rfl ?_ RAnys.nil)
             refine ROps.app (f := f32) (xs := L9) (ys := ([x46] : List F)) (Γ' := [⟨1, some [oref 3 1 0 0, oref 4 1 0 0, oref 5 1 0 0]⟩, ⟨1, some [sl r1.length (r1.map (ik .u8)), i64 r42, ik .u64 r43]⟩, ⟨1, some [oref 6 (u4 + 1) 0 (L8.length + 1), oref 7 u5 0 L9.length, oref 8 (u6 + 1) 0 (L10.length + 1)]⟩, ⟨1, some (([] : List F).map f32)⟩, ⟨1, some (([] : List F).map f32)⟩, ⟨1, some (([] : List F).map f32)⟩, ⟨(u4 + 1), some ((L8 ++ ([y26] : List F)).map f32)⟩, ⟨(u5 + 1), some ((L9 ++ ([x46] : List F)).map f32)⟩, ⟨(u6 + 1), some ((L10 ++ ([y31] : List F)).map f32)⟩, ⟨(u7 + 3), some (([x46] : List F).map f32)⟩]) rfl pun26 inf28 rfl rfl rfl rfl rfl rfl rfl rfl rfl (by simp) (ReadAs.own rfl (by simp)) (ones_map (fun _ => rfl)) (ap_by hm25) (ap_mx hm25) rfl<|zN ?_
             refine RAny.more (i0 := 9) (l := []) (by kernel_rfl) (RAnys.cons rfl ?_ RAnys.nil)
             refine yl rfl (optr 2 1 1) (LOp.fao und47 rfl siz26 rfl rfl rfl)<|zN ?_
             refine RAny.more (i0 := 10) (l := []) (by kernel_rfl) (RAnys.cons rfl ?_ RAnys.nil)
             refine ys (oref 7 (u5 + 1) 0 (L9.length + 1)) [oref 6 (u4 + 1) 0 (L8.length + 1), oref 7 (u5 + 1) 0 (L9.length + 1), oref 8 (u6 + 1) 0 (L10.length + 1)] ([⟨1, some [oref 3 1 0 0, oref 4 1 0 0, oref 5 1 0 0]⟩, ⟨1, some [sl r1.length (r1.map (ik .u8)), i64 r42, ik .u64 r43]⟩, ⟨1, some [oref 6 (u4 + 1) 0 (L8.length + 1), oref 7 (u5 + 1) 0 (L9.length + 1), oref 8 (u6 + 1) 0 (L10.length + 1)]⟩, ⟨1, some (([] : List F).map f32)⟩, ⟨1, some (([] : List F).map f32)⟩, ⟨1, some (([] : List F).map f32)⟩, ⟨(u4 + 1), some ((L8 ++ ([y26] : List F)).map f32)⟩, ⟨(u5 + 1), some ((L9 ++ ([x46] : List F)).map f32)⟩, ⟨(u6 + 1), some ((L10 ++ ([y31] : List F)).map f32)⟩, ⟨(u7 + 3), some (([x46] : List F).map f32)⟩]) siz26<|zN ?_
             refine RAny.done (by kernel_rfl) ?_
             exact ⟨⟨aR, aR, aR, aR, aR, aR, aR, aR, aR, aR, aR, aR, aR, aR, aR, trivial⟩, ⟨⟨rfl, .inr rfl⟩, ⟨rfl, .inr rfl⟩, ⟨rfl, .inr rfl⟩, ⟨rfl, .inr rfl⟩, ⟨rfl, .inr rfl⟩, ⟨rfl, .inr rfl⟩, ⟨rfl, .inr rfl⟩, ⟨rfl, .inr rfl⟩, ⟨rfl, .inr rfl⟩, ⟨rfl, .inr rfl⟩, trivial⟩⟩
      ·refine ym rfl (optr 1 1 0)<|zN ?_
       refine RAny.more (i0 := 0) (l := [3]) (by kernel_rfl) (RAnys.cons rfl ?_ (RAnys.cons rfl ?_ RAnys.nil))
       ·refine yl rfl (optr 2 1 1) (LOp.fao und47 rfl siz26 rfl rfl rfl)<|zN ?_
        refine RAny.more (i0 := 1) (l := [3]) (by kernel_rfl) (RAnys.cons rfl ?_ (RAnys.cons rfl ?_ RAnys.nil))
        ·refine yd rfl (oref 7 u5 0 L9.length) (TOp.load1_o rfl rfl agg26 rfl rfl)<|zN ?_
         refine RAny.more (i0 := 3) (l := []) (by kernel_rfl) (RAnys.cons rfl ?_ RAnys.nil)
         refine ROps.callO (A := [optr 1 1 0, i64 9]) (args := [optr 0 0 0, i64 9]) (Γc := [⟨0, some [sl r1.length (r1.map (ik .u8)), i64 r21, ik .u64 r22]⟩]) (Γc' := [⟨0, some [sl r1.length (r1.map (ik .u8)), i64 r42, ik .u64 r43]⟩]) (r' := i64 r41) (Γ' := [⟨1, some [oref 3 1 0 0, oref 4 1 0 0, oref 5 1 0 0]⟩, ⟨1, some [sl r1.length (r1.map (ik .u8)), i64 r42, ik .u64 r43]⟩, ⟨1, some [oref 6 (u4 + 1) 0 (L8.length + 1), oref 7 u5 0 L9.length, oref 8 (u6 + 1) 0 (L10.length + 1)]⟩, ⟨1, some (([] : List F).map f32)⟩, ⟨1, some (([] : List F).map f32)⟩, ⟨1, some (([] : List F).map f32)⟩, ⟨(u4 + 1), some ((L8 ++ ([y26] : List F)).map f32)⟩, ⟨u5, some (L9.map f32)⟩, ⟨(u6 + 1), some ((L10 ++ ([y31] : List F)).map f32)⟩, ⟨(u7 + 2), none⟩]) [(1, 1)] [] rfl (CallAs.func ent72 rfl rfl) rfl rfl (SelOk.of (ndB_ok rfl) (SelL.cells0 rfl (by simp [ren, rens, sigma, rens_f32, rens_f64, rens_i64, rens_ik, rens_str, rens_cp]) (lts_cons (lt_slk (fun _ => rfl)) (lts_cons rfl (lts_cons rfl lts_nil))) trivial)) (live_of ⟨⟨_, _, rfl⟩, trivial⟩) (by simp [ren, rens, sigma, rens_f32, rens_f64, rens_i64, rens_ik, rens_str, rens_cp]) rfl (s_l00Src_pick_0p0_C0_ok 9 r1 r21 r22 r41 r42 r43 hf21) rfl (news_of trivial) (ndB_ok rfl) (by simp [ren, rens, sigma]) (by simp [backOb, sigma, ren, rens, rens_f32, rens_f64, rens_i64, rens_ik, rens_str, rens_cp] <;> omega)<|zN ?_
         refine RAny.more (i0 := 4) (l := []) (by kernel_rfl) (RAnys.cons rfl ?_ RAnys.nil)
         refine yl rfl (i64 x44) (LOp.eqr (LOp.add rfl rfl rfl) (congrArg (ik .i64) hx22))<|zN ?_
         refine RAny.more (i0 := 5) (l := []) (by kernel_rfl) (RAnys.cons rfl ?_ RAnys.nil)
         refine yl rfl (f32 x45) (LOp.eqr (LOp.i2f (src := 2) (dst := 28) ⟨_, pun2⟩ pun28 rfl rfl) (congrArg (f .f32) hx23))<|zN ?_
         refine RAny.more (i0 := 6) (l := []) (by kernel_rfl) (RAnys.cons rfl ?_ RAnys.nil)
         refine yd rfl (f32 x46) (TOp.eqr (TOp.fop (.inr (.inr (.inr rfl))) rfl (OpF.tmp rfl) (OpF.const rfl (by kernel_rfl) (by kernel_rfl))) (congrArg (f .f32) hx24))<|zN ?_
         refine RAny.more (i0 := 7) (l := []) (by kernel_rfl) (RAnys.cons rfl ?_ RAnys.nil)
         refine ye rfl (oref 9 (u7 + 3) 0 1) ([⟨1, some [oref 3 1 0 0, oref 4 1 0 0, oref 5 1 0 0]⟩, ⟨1, some [sl r1.length (r1.map (ik .u8)), i64 r42, ik .u64 r43]⟩, ⟨1, some [oref 6 (u4 + 1) 0 (L8.length + 1), oref 7 u5 0 L9.length, oref 8 (u6 + 1) 0 (L10.length + 1)]⟩, ⟨1, some (([] : List F).map f32)⟩, ⟨1, some (([] : List F).map f32)⟩, ⟨1, some (([] : List F).map f32)⟩, ⟨(u4 + 1), some ((L8 ++ ([y26] : List F)).map f32)⟩, ⟨u5, some (L9.map f32)⟩, ⟨(u6 + 1), some ((L10 ++ ([y31] : List F)).map f32)⟩, ⟨(u7 + 3), some (([x46] : List F).map f32)⟩]) (TOp.buildSlice_o (g := ⟨(u7 + 2), none⟩) (za := f32 (some 0)) (qs := [(0, [f32 x46])]) 9 rfl und26 siz28 zer28 rfl zel28 rfl rfl ⟨rfl, ⟨_, ALe.refl _, rfl⟩, trivial⟩ rfl)<|zN ?_
         refine RAny.more (i0 := 8) (l := []) (by kernel_rfl) (RAnys.cons rfl ?_ RAnys.nil)
         refine ROps.app (f := f32) (xs := L9) (ys := ([x46] : List F)) (Γ' := [⟨1, some [oref 3 1 0 0, oref 4 1 0 0, oref 5 1 0 0]⟩, ⟨1, some [sl r1.length (r1.map (ik .u8)), i64 r42, ik .u64 r43]⟩, ⟨1, some [oref 6 (u4 + 1) 0 (L8.length + 1), oref 7 u5 0 L9.length, oref 8 (u6 + 1) 0 (L10.length + 1)]⟩, ⟨1, some (([] : List F).map f32)⟩, ⟨1, some (([] : List F).map f32)⟩, ⟨1, some (([] : List F).map f32)⟩, ⟨(u4 + 1), some ((L8 ++ ([y26] : List F)).map f32)⟩, ⟨(u5 + 1), some ((L9 ++ ([x46] : List F)).map f32)⟩, ⟨(u6 + 1), some ((L10 ++ ([y31] : List F)).map f32)⟩, ⟨(u7 + 3), some (([x46] : List F).map f32)⟩]) rfl pun26 inf28 rfl rfl rfl rfl rfl rfl rfl rfl rfl (by simp) (ReadAs.own rfl (by simp)) (ones_map (fun _ => rfl)) (ap_by hm25) (ap_mx hm25) rfl<|zN ?_
         refine RAny.more (i0 := 9) (l := []) (by kernel_rfl) (RAnys.cons rfl ?_ RAnys.nil)
         refine yl rfl (optr 2 1 1) (LOp.fao und47 rfl siz26 rfl rfl rfl)<|zN ?_
         refine RAny.more (i0 := 10) (l := []) (by kernel_rfl) (RAnys.cons rfl ?_ RAnys.nil)
         refine ys (oref 7 (u5 + 1) 0 (L9.length + 1)) [oref 6 (u4 + 1) 0 (L8.length + 1), oref 7 (u5 + 1) 0 (L9.length + 1), oref 8 (u6 + 1) 0 (L10.length + 1)] ([⟨1, some [oref 3 1 0 0, oref 4 1 0 0, oref 5 1 0 0]⟩, ⟨1, some [sl r1.length (r1.map (ik .u8)), i64 r42, ik .u64 r43]⟩, ⟨1, some [oref 6 (u4 + 1) 0 (L8.length + 1), oref 7 (u5 + 1) 0 (L9.length + 1), oref 8 (u6 + 1) 0 (L10.length + 1)]⟩, ⟨1, some (([] : List F).map f32)⟩, ⟨1, some (([] : List F).map f32)⟩, ⟨1, some (([] : List F).map f32)⟩, ⟨(u4 + 1), some ((L8 ++ ([y26] : List F)).map f32)⟩, ⟨(u5 + 1), some ((L9 ++ ([x46] : List F)).map f32)⟩, ⟨(u6 + 1), some ((L10 ++ ([y31] : List F)).map f32)⟩, ⟨(u7 + 3), some (([x46] : List F).map f32)⟩]) siz26<|zN ?_
         refine RAny.done (by kernel_rfl) ?_
         exact ⟨⟨aR, aR, aR, aR, aR, aR, aR, aR, aR, aR, aR, aR, aR, aR, aR, trivial⟩, ⟨⟨rfl, .inr rfl⟩, ⟨rfl, .inr rfl⟩, ⟨rfl, .inr rfl⟩, ⟨rfl, .inr rfl⟩, ⟨rfl, .inr rfl⟩, ⟨rfl, .inr rfl⟩, ⟨rfl, .inr rfl⟩, ⟨rfl, .inr rfl⟩, ⟨rfl, .inr rfl⟩, ⟨rfl, .inr rfl⟩, trivial⟩⟩
        ·refine ROps.callO (A := [optr 1 1 0, i64 9]) (args := [optr 0 0 0, i64 9]) (Γc := [⟨0, some [sl r1.length (r1.map (ik .u8)), i64 r21, ik .u64 r22]⟩]) (Γc' := [⟨0, some [sl r1.length (r1.map (ik .u8)), i64 r42, ik .u64 r43]⟩]) (r' := i64 r41) (Γ' := [⟨1, some [oref 3 1 0 0, oref 4 1 0 0, oref 5 1 0 0]⟩, ⟨1, some [sl r1.length (r1.map (ik .u8)), i64 r42, ik .u64 r43]⟩, ⟨1, some [oref 6 (u4 + 1) 0 (L8.length + 1), oref 7 u5 0 L9.length, oref 8 (u6 + 1) 0 (L10.length + 1)]⟩, ⟨1, some (([] : List F).map f32)⟩, ⟨1, some (([] : List F).map f32)⟩, ⟨1, some (([] : List F).map f32)⟩, ⟨(u4 + 1), some ((L8 ++ ([y26] : List F)).map f32)⟩, ⟨u5, some (L9.map f32)⟩, ⟨(u6 + 1), some ((L10 ++ ([y31] : List F)).map f32)⟩, ⟨(u7 + 2), none⟩]) [(1, 1)] [] rfl (CallAs.func ent72 rfl rfl) rfl rfl (SelOk.of (ndB_ok rfl) (SelL.cells0 rfl (by simp [ren, rens, sigma, rens_f32, rens_f64, rens_i64, rens_ik, rens_str, rens_cp]) (lts_cons (lt_slk (fun _ => rfl)) (lts_cons rfl (lts_cons rfl lts_nil))) trivial)) (live_of ⟨⟨_, _, rfl⟩, trivial⟩) (by simp [ren, rens, sigma, rens_f32, rens_f64, rens_i64, rens_ik, rens_str, rens_cp]) rfl (s_l00Src_pick_0p0_C0_ok 9 r1 r21 r22 r41 r42 r43 hf21) rfl (news_of trivial) (ndB_ok rfl) (by simp [ren, rens, sigma]) (by simp [backOb, sigma, ren, rens, rens_f32, rens_f64, rens_i64, rens_ik, rens_str, rens_cp] <;> omega)<|zN ?_
         refine RAny.more (i0 := 1) (l := [4]) (by kernel_rfl) (RAnys.cons rfl ?_ (RAnys.cons rfl ?_ RAnys.nil))
         ·refine yd rfl (oref 7 u5 0 L9.length) (TOp.load1_o rfl rfl agg26 rfl rfl)<|zN ?_
          refine RAny.more (i0 := 4) (l := []) (by kernel_rfl) (RAnys.cons rfl ?_ RAnys.nil)
          refine yl rfl (i64 x44) (LOp.eqr (LOp.add rfl rfl rfl) (congrArg (ik .i64) hx22))<|zN ?_
          refine RAny.more (i0 := 5) (l := []) (by kernel_rfl) (RAnys.cons rfl ?_ RAnys.nil)
          refine yl rfl (f32 x45) (LOp.eqr (LOp.i2f (src := 2) (dst := 28) ⟨_, pun2⟩ pun28 rfl rfl) (congrArg (f .f32) hx23))<|zN ?_
          refine RAny.more (i0 := 6) (l := []) (by kernel_rfl) (RAnys.cons rfl ?_ RAnys.nil)
          refine yd rfl (f32 x46) (TOp.eqr (TOp.fop (.inr (.inr (.inr rfl))) rfl (OpF.tmp rfl) (OpF.const rfl (by kernel_rfl) (by kernel_rfl))) (congrArg (f .f32) hx24))<|zN ?_
          refine RAny.more (i0 := 7) (l := []) (by kernel_rfl) (RAnys.cons rfl ?_ RAnys.nil)
          refine ye rfl (oref 9 (u7 + 3) 0 1) ([⟨1, some [oref 3 1 0 0, oref 4 1 0 0, oref 5 1 0 0]⟩, ⟨1, some [sl r1.length (r1.map (ik .u8)), i64 r42, ik .u64 r43]⟩, ⟨1, some [oref 6 (u4 + 1) 0 (L8.length + 1), oref 7 u5 0 L9.length, oref 8 (u6 + 1) 0 (L10.length + 1)]⟩, ⟨1, some (([] : List F).map f32)⟩, ⟨1, some (([] : List F).map f32)⟩, ⟨1, some (([] : List F).map f32)⟩, ⟨(u4 + 1), some ((L8 ++ ([y26] : List F)).map f32)⟩, ⟨u5, some (L9.map f32)⟩, ⟨(u6 + 1), some ((L10 ++ ([y31] : List F)).map f32)⟩, ⟨(u7 + 3), some (([x46] : List F).map f32)⟩]) (TOp.buildSlice_o (g := ⟨(u7 + 2), none⟩) (za := f32 (some 0)) (qs := [(0, [f32 x46])]) 9 rfl und26 siz28 zer28 rfl zel28 rfl rfl ⟨rfl, ⟨_, ALe.refl _, rfl⟩, trivial⟩ rfl)<|zN ?_
          refine RAny.more (i0 := 8) (l := []) (by kernel_rfl) (RAnys.cons rfl ?_ RAnys.nil)
          refine ROps.app (f := f32) (xs := L9) (ys := ([x46] : List F)) (Γ' := [⟨1, some [oref 3 1 0 0, oref 4 1 0 0, oref 5 1 0 0]⟩, ⟨1, some [sl r1.length (r1.map (ik .u8)), i64 r42, ik .u64 r43]⟩, ⟨1, some [oref 6 (u4 + 1) 0 (L8.length + 1), oref 7 u5 0 L9.length, oref 8 (u6 + 1) 0 (L10.length + 1)]⟩, ⟨1, some (([] : List F).map f32)⟩, ⟨1, some (([] : List F).map f32)⟩, ⟨1, some (([] : List F).map f32)⟩, ⟨(u4 + 1), some ((L8 ++ ([y26] : List F)).map f32)⟩, ⟨(u5 + 1), some ((L9 ++ ([x46] : List F)).map f32)⟩, ⟨(u6 + 1), some ((L10 ++ ([y31] : List F)).map f32)⟩, ⟨(u7 + 3), some (([x46] : List F).map f32)⟩]) rfl pun26 inf28 rfl rfl rfl rfl rfl rfl rfl rfl rfl (by simp) (ReadAs.own rfl (by simp)) (ones_map (fun _ => rfl)) (ap_by hm25) (ap_mx hm25) rfl<|zN ?_
          refine RAny.more (i0 := 9) (l := []) (by kernel_rfl) (RAnys.cons rfl ?_ RAnys.nil)
          refine yl rfl (optr 2 1 1) (LOp.fao und47 rfl siz26 rfl rfl rfl)<|zN ?_
          refine RAny.more (i0 := 10) (l := []) (by kernel_rfl) (RAnys.cons rfl ?_ RAnys.nil)
          refine ys (oref 7 (u5 + 1) 0 (L9.length + 1)) [oref 6 (u4 + 1) 0 (L8.length + 1), oref 7 (u5 + 1) 0 (L9.length + 1), oref 8 (u6 + 1) 0 (L10.length + 1)] ([⟨1, some [oref 3 1 0 0, oref 4 1 0 0, oref 5 1 0 0]⟩, ⟨1, some [sl r1.length (r1.map (ik .u8)), i64 r42, ik .u64 r43]⟩, ⟨1, some [oref 6 (u4 + 1) 0 (L8.length + 1), oref 7 (u5 + 1) 0 (L9.length + 1), oref 8 (u6 + 1) 0 (L10.length + 1)]⟩, ⟨1, some (([] : List F).map f32)⟩, ⟨1, some (([] : List F).map f32)⟩, ⟨1, some (([] : List F).map f32)⟩, ⟨(u4 + 1), some ((L8 ++ ([y26] : List F)).map f32)⟩, ⟨(u5 + 1), some ((L9 ++ ([x46] : List F)).map f32)⟩, ⟨(u6 + 1), some ((L10 ++ ([y31] : List F)).map f32)⟩, ⟨(u7 + 3), some (([x46] : List F).map f32)⟩]) siz26<|zN ?_
          refine RAny.done (by kernel_rfl) ?_
          exact ⟨⟨aR, aR, aR, aR, aR, aR, aR, aR, aR, aR, aR, aR, aR, aR, aR, trivial⟩, ⟨⟨rfl, .inr rfl⟩, ⟨rfl, .inr rfl⟩, ⟨rfl, .inr rfl⟩, ⟨rfl, .inr rfl⟩, ⟨rfl, .inr rfl⟩, ⟨rfl, .inr rfl⟩, ⟨rfl, .inr rfl⟩, ⟨rfl, .inr rfl⟩, ⟨rfl, .inr rfl⟩, ⟨rfl, .inr rfl⟩, trivial⟩⟩
         ·refine yl rfl (i64 x44) (LOp.eqr (LOp.add rfl rfl rfl) (congrArg (ik .i64) hx22))<|zN ?_
          refine RAny.more (i0 := 1) (l := [5]) (by kernel_rfl) (RAnys.cons rfl ?_ (RAnys.cons rfl ?_ RAnys.nil))
          ·refine yd rfl (oref 7 u5 0 L9.length) (TOp.load1_o rfl rfl agg26 rfl rfl)<|zN ?_
           refine RAny.more (i0 := 5) (l := []) (by kernel_rfl) (RAnys.cons rfl ?_ RAnys.nil)
           refine yl rfl (f32 x45) (LOp.eqr (LOp.i2f (src := 2) (dst := 28) ⟨_, pun2⟩ pun28 rfl rfl) (congrArg (f .f32) hx23))<|zN ?_
           refine RAny.more (i0 := 6) (l := []) (by kernel_rfl) (RAnys.cons rfl ?_ RAnys.nil)
           refine yd rfl (f32 x46) (TOp.eqr (TOp.fop (.inr (.inr (.inr rfl))) rfl (OpF.tmp rfl) (OpF.const rfl (by kernel_rfl) (by kernel_rfl))) (congrArg (f .f32) hx24))<|zN ?_
           refine RAny.more (i0 := 7) (l := []) (by kernel_rfl) (RAnys.cons rfl ?_ RAnys.nil)
           refine ye rfl (oref 9 (u7 + 3) 0 1) ([⟨1, some [oref 3 1 0 0, oref 4 1 0 0, oref 5 1 0 0]⟩, ⟨1, some [sl r1.length (r1.map (ik .u8)), i64 r42, ik .u64 r43]⟩, ⟨1, some [oref 6 (u4 + 1) 0 (L8.length + 1), oref 7 u5 0 L9.length, oref 8 (u6 + 1) 0 (L10.length + 1)]⟩, ⟨1, some (([] : List F).map f32)⟩, ⟨1, some (([] : List F).map f32)⟩, ⟨1, some (([] : List F).map f32)⟩, ⟨(u4 + 1), some ((L8 ++ ([y26] : List F)).map f32)⟩, ⟨u5, some (L9.map f32)⟩, ⟨(u6 + 1), some ((L10 ++ ([y31] : List F)).map f32)⟩, ⟨(u7 + 3), some (([x46] : List F).map f32)⟩]) (TOp.buildSlice_o (g := ⟨(u7 + 2), none⟩) (za := f32 (some 0)) (qs := [(0, [f32 x46])]) 9 rfl und26 siz28 zer28 rfl zel28 rfl rfl ⟨rfl, ⟨_, ALe.refl _, rfl⟩, trivial⟩ rfl)<|zN ?_
           refine RAny.more (i0 := 8) (l := []) (by kernel_rfl) (RAnys.cons rfl ?_ RAnys.nil)
           refine ROps.app (f := f32) (xs := L9) (ys := ([x46] : List F)) (Γ' := [⟨1, some [oref 3 1 0 0, oref 4 1 0 0, oref 5 1 0 0]⟩, ⟨1, some [sl r1.length (r1.map (ik .u8)), i64 r42, ik .u64 r43]⟩, ⟨1, some [oref 6 (u4 + 1) 0 (L8.length + 1), oref 7 u5 0 L9.length, oref 8 (u6 + 1) 0 (L10.length + 1)]⟩, ⟨1, some (([] : List F).map f32)⟩, ⟨1, some (([] : List F).map f32)⟩, ⟨1, some (([] : List F).map f32)⟩, ⟨(u4 + 1), some ((L8 ++ ([y26] : List F)).map f32)⟩, ⟨(u5 + 1), some ((L9 ++ ([x46] : List F)).map f32)⟩, ⟨(u6 + 1), some ((L10 ++ ([y31] : List F)).map f32)⟩, ⟨(u7 + 3), some (([x46] : List F).map f32)⟩]) rfl pun26 inf28 rfl rfl rfl rfl rfl rfl rfl rfl rfl (by simp) (ReadAs.own rfl (by simp)) (ones_map (fun _ => rfl)) (ap_by hm25) (ap_mx hm25) rfl<|zN ?_
           refine RAny.more (i0 := 9) (l := []) (by kernel_rfl) (RAnys.cons rfl ?_ RAnys.nil)
           refine yl rfl (optr 2 1 1) (LOp.fao und47 rfl siz26 rfl rfl rfl)<|zN ?_
           refine RAny.more (i0 := 10) (l := []) (by kernel_rfl) (RAnys.cons rfl ?_ RAnys.nil)
           refine ys (oref 7 (u5 + 1) 0 (L9.length + 1)) [oref 6 (u4 + 1) 0 (L8.length + 1), oref 7 (u5 + 1) 0 (L9.length + 1), oref 8 (u6 + 1) 0 (L10.length + 1)] ([⟨1, some [oref 3 1 0 0, oref 4 1 0 0, oref 5 1 0 0]⟩, ⟨1, some [sl r1.length (r1.map (ik .u8)), i64 r42, ik .u64 r43]⟩, ⟨1, some [oref 6 (u4 + 1) 0 (L8.length + 1), oref 7 (u5 + 1) 0 (L9.length + 1), oref 8 (u6 + 1) 0 (L10.length + 1)]⟩, ⟨1, some (([] : List F).map f32)⟩, ⟨1, some (([] : List F).map f32)⟩, ⟨1, some (([] : List F).map f32)⟩, ⟨(u4 + 1), some ((L8 ++ ([y26] : List F)).map f32)⟩, ⟨(u5 + 1), some ((L9 ++ ([x46] : List F)).map f32)⟩, ⟨(u6 + 1), some ((L10 ++ ([y31] : List F)).map f32)⟩, ⟨(u7 + 3), some (([x46] : List F).map f32)⟩]) siz26<|zN ?_
           refine RAny.done (by kernel_rfl) ?_
           exact ⟨⟨aR, aR, aR, aR, aR, aR, aR, aR, aR, aR, aR, aR, aR, aR, aR, trivial⟩, ⟨⟨rfl, .inr rfl⟩, ⟨rfl, .inr rfl⟩, ⟨rfl, .inr rfl⟩, ⟨rfl, .inr rfl⟩, ⟨rfl, .inr rfl⟩, ⟨rfl, .inr rfl⟩, ⟨rfl, .inr rfl⟩, ⟨rfl, .inr rfl⟩, ⟨rfl, .inr rfl⟩, ⟨rfl, .inr rfl⟩, trivial⟩⟩
          ·refine yl rfl (f32 x45) (LOp.eqr (LOp.i2f (src := 2) (dst := 28) ⟨_, pun2⟩ pun28 rfl rfl) (congrArg (f .f32) hx23))<|zN ?_
           refine RAny.more (i0 := 1) (l := [6]) (by kernel_rfl) (RAnys.cons rfl ?_ (RAnys.cons rfl ?_ RAnys.nil))
           ·refine yd rfl (oref 7 u5 0 L9.length) (TOp.load1_o rfl rfl agg26 rfl rfl)<|zN ?_
            refine RAny.more (i0 := 6) (l := []) (by kernel_rfl) (RAnys.cons rfl ?_ RAnys.nil)
            refine yd rfl (f32 x46) (TOp.eqr (TOp.fop (.inr (.inr (.inr rfl))) rfl (OpF.tmp rfl) (OpF.const rfl (by kernel_rfl) (by kernel_rfl))) (congrArg (f .f32) hx24))<|zN ?_
            refine RAny.more (i0 := 7) (l := []) (by kernel_rfl) (RAnys.cons rfl ?_ RAnys.nil)
            refine ye rfl (oref 9 (u7 + 3) 0 1) ([⟨1, some [oref 3 1 0 0, oref 4 1 0 0, oref 5 1 0 0]⟩, ⟨1, some [sl r1.length (r1.map (ik .u8)), i64 r42, ik .u64 r43]⟩, ⟨1, some [oref 6 (u4 + 1) 0 (L8.length + 1), oref 7 u5 0 L9.length, oref 8 (u6 + 1) 0 (L10.length + 1)]⟩, ⟨1, some (([] : List F).map f32)⟩, ⟨1, some (([] : List F).map f32)⟩, ⟨1, some (([] : List F).map f32)⟩, ⟨(u4 + 1), some ((L8 ++ ([y26] : List F)).map f32)⟩, ⟨u5, some (L9.map f32)⟩, ⟨(u6 + 1), some ((L10 ++ ([y31] : List F)).map f32)⟩, ⟨(u7 + 3), some (([x46] : List F).map f32)⟩]) (TOp.buildSlice_o (g := ⟨(u7 + 2), none⟩) (za := f32 (some 0)) (qs := [(0, [f32 x46])]) 9 rfl und26 siz28 zer28 rfl zel28 rfl rfl ⟨rfl, ⟨_, ALe.refl _, rfl⟩, trivial⟩ rfl)<|zN ?_
            refine RAny.more (i0 := 8) (l := []) (by kernel_rfl) (RAnys.cons rfl ?_ RAnys.nil)
            refine ROps.app (f := f32) (xs := L9) (ys := ([x46] : List F)) (Γ' := [⟨1, some [oref 3 1 0 0, oref 4 1 0 0, oref 5 1 0 0]⟩, ⟨1, some [sl r1.length (r1.map (ik .u8)), i64 r42, ik .u64 r43]⟩, ⟨1, some [oref 6 (u4 + 1) 0 (L8.length + 1), oref 7 u5 0 L9.length, oref 8 (u6 + 1) 0 (L10.length + 1)]⟩, ⟨1, some (([] : List F).map f32)⟩, ⟨1, some (([] : List F).map f32)⟩, ⟨1, some (([] : List F).map f32)⟩, ⟨(u4 + 1), some ((L8 ++ ([y26] : List F)).map f32)⟩, ⟨(u5 + 1), some ((L9 ++ ([x46] : List F)).map f32)⟩, ⟨(u6 + 1), some ((L10 ++ ([y31] : List F)).map f32)⟩, ⟨(u7 + 3), some (([x46] : List F).map f32)⟩]) rfl pun26 inf28 rfl rfl rfl rfl rfl rfl rfl rfl rfl (by simp) (ReadAs.own rfl (by simp)) (ones_map (fun _ => rfl)) (ap_by hm25) (ap_mx hm25) rfl<|zN ?_
            refine RAny.more (i0 := 9) (l := []) (by kernel_rfl) (RAnys.cons rfl ?_ RAnys.nil)
            refine yl rfl (optr 2 1 1) (LOp.fao und47 rfl siz26 rfl rfl rfl)<|zN ?_
            refine RAny.more (i0 := 10) (l := []) (by kernel_rfl) (RAnys.cons rfl ?_ RAnys.nil)
            refine ys (oref 7 (u5 + 1) 0 (L9.length + 1)) [oref 6 (u4 + 1) 0 (L8.length + 1), oref 7 (u5 + 1) 0 (L9.length + 1), oref 8 (u6 + 1) 0 (L10.length + 1)] ([⟨1, some [oref 3 1 0 0, oref 4 1 0 0, oref 5 1 0 0]⟩, ⟨1, some [sl r1.length (r1.map (ik .u8)), i64 r42, ik .u64 r43]⟩, ⟨1, some [oref 6 (u4 + 1) 0 (L8.length + 1), oref 7 (u5 + 1) 0 (L9.length + 1), oref 8 (u6 + 1) 0 (L10.length + 1)]⟩, ⟨1, some (([] : List F).map f32)⟩, ⟨1, some (([] : List F).map f32)⟩, ⟨1, some (([] : List F).map f32)⟩, ⟨(u4 + 1), some ((L8 ++ ([y26] : List F)).map f32)⟩, ⟨(u5 + 1), some ((L9 ++ ([x46] : List F)).map f32)⟩, ⟨(u6 + 1), some ((L10 ++ ([y31] : List F)).map f32)⟩, ⟨(u7 + 3), some (([x46] : List F).map f32)⟩]) siz26<|zN ?_
            refine RAny.done (by kernel_rfl) ?_
            exact ⟨⟨aR, aR, aR, aR, aR, aR, aR, aR, aR, aR, aR, aR, aR, aR, aR, trivial⟩, ⟨⟨rfl, .inr rfl⟩, ⟨rfl, .inr rfl⟩, ⟨rfl, .inr rfl⟩, ⟨rfl, .inr rfl⟩, ⟨rfl, .inr rfl⟩, ⟨rfl, .inr rfl⟩, ⟨rfl, .inr rfl⟩, ⟨rfl, .inr rfl⟩, ⟨rfl, .inr rfl⟩, ⟨rfl, .inr rfl⟩, trivial⟩⟩
           ·refine yd rfl (f32 x46) (TOp.eqr (TOp.fop (.inr (.inr (.inr rfl))) rfl (OpF.tmp rfl) (OpF.const rfl (by kernel_rfl) (by kernel_rfl))) (congrArg (f .f32) hx24))<|zN ?_
            refine RAny.more (i0 := 1) (l := [7]) (by kernel_rfl) (RAnys.cons rfl ?_ (RAnys.cons rfl ?_ RAnys.nil))
            ·refine yd rfl (oref 7 u5 0 L9.length) (TOp.load1_o rfl rfl agg26 rfl rfl)<|zN ?_
             refine RAny.more (i0 := 7) (l := []) (by kernel_rfl) (RAnys.cons rfl ?_ RAnys.nil)
             refine ye rfl (oref 9 (u7 + 3) 0 1) ([⟨1, some [oref 3 1 0 0, oref 4 1 0 0, oref 5 1 0 0]⟩, ⟨1, some [sl r1.length (r1.map (ik .u8)), i64 r42, ik .u64 r43]⟩, ⟨1, some [oref 6 (u4 + 1) 0 (L8.length + 1), oref 7 u5 0 L9.length, oref 8 (u6 + 1) 0 (L10.length + 1)]⟩, ⟨1, some (([] : List F).map f32)⟩, ⟨1, some (([] : List F).map f32)⟩, ⟨1, some (([] : List F).map f32)⟩, ⟨(u4 + 1), some ((L8 ++ ([y26] : List F)).map f32)⟩, ⟨u5, some (L9.map f32)⟩, ⟨(u6 + 1), some ((L10 ++ ([y31] : List F)).map f32)⟩, ⟨(u7 + 3), some (([x46] : List F).map f32)⟩]) (TOp.buildSlice_o (g := ⟨(u7 + 2), none⟩) (za := f32 (some 0)) (qs := [(0, [f32 x46])]) 9 rfl und26 siz28 zer28 rfl zel28 rfl rfl ⟨rfl, ⟨_, ALe.refl _, rfl⟩, trivial⟩ rfl)<|zN ?_
             refine RAny.more (i0 := 8) (l := []) (by kernel_rfl) (RAnys.cons rfl ?_ RAnys.nil)
             refine ROps.app (f := f32) (xs := L9) (ys := ([x46] : List F)) (Γ' := [⟨1, some [oref 3 1 0 0, oref 4 1 0 0, oref 5 1 0 0]⟩, ⟨1, some [sl r1.length (r1.map (ik .u8)), i64 r42, ik .u64 r43]⟩, ⟨1, some [oref 6 (u4 + 1) 0 (L8.length + 1), oref 7 u5 0 L9.length, oref 8 (u6 + 1) 0 (L10.length + 1)]⟩, ⟨1, some (([] : List F).map f32)⟩, ⟨1, some (([] : List F).map f32)⟩, ⟨1, some (([] : List F).map f32)⟩, ⟨(u4 + 1), some ((L8 ++ ([y26] : List F)).map f32)⟩, ⟨(u5 + 1), some ((L9 ++ ([x46] : List F)).map f32)⟩, ⟨(u6 + 1), some ((L10 ++ ([y31] : List F)).map f32)⟩, ⟨(u7 + 3), some (([x46] : List F).map f32)⟩]) rfl pun26 inf28 rfl rfl rfl rfl rfl rfl rfl rfl rfl (by simp) (ReadAs.own rfl (by simp)) (ones_map (fun _ => rfl)) (ap_by hm25) (ap_mx hm25) rfl<|zN ?_
             refine RAny.more (i0 := 9) (l := []) (by kernel_rfl) (RAnys.cons rfl ?_ RAnys.nil)
             refine yl rfl (optr 2 1 1) (LOp.fao und47 rfl siz26 rfl rfl rfl)<|zN ?_
             refine RAny.more (i0 := 10) (l := []) (by kernel_rfl) (RAnys.cons rfl ?_ RAnys.nil)
             refine ys (oref 7 (u5 + 1) 0 (L9.length + 1)) [oref 6 (u4 + 1) 0 (L8.length + 1), oref 7 (u5 + 1) 0 (L9.length + 1), oref 8 (u6 + 1) 0 (L10.length + 1)] ([⟨1, some [oref 3 1 0 0, oref 4 1 0 0, oref 5 1 0 0]⟩, ⟨1, some [sl r1.length (r1.map (ik .u8)), i64 r42, ik .u64 r43]⟩, ⟨1, some [oref 6 (u4 + 1) 0 (L8.length + 1), oref 7 (u5 + 1) 0 (L9.length + 1), oref 8 (u6 + 1) 0 (L10.length + 1)]⟩, ⟨1, some (([] : List F).map f32)⟩, ⟨1, some (([] : List F).map f32)⟩, ⟨1, some (([] : List F).map f32)⟩, ⟨(u4 + 1), some ((L8 ++ ([y26] : List F)).map f32)⟩, ⟨(u5 + 1), some ((L9 ++ ([x46] : List F)).map f32)⟩, ⟨(u6 + 1), some ((L10 ++ ([y31] : List F)).map f32)⟩, ⟨(u7 + 3), some (([x46] : List F).map f32)⟩]) siz26<|zN ?_
             refine RAny.done (by kernel_rfl) ?_
             exact ⟨⟨aR, aR, aR, aR, aR, aR, aR, aR, aR, aR, aR, aR, aR, aR, aR, trivial⟩, ⟨⟨rfl, .inr rfl⟩, ⟨rfl, .inr rfl⟩, ⟨rfl, .inr rfl⟩, ⟨rfl, .inr rfl⟩, ⟨rfl, .inr rfl⟩, ⟨rfl, .inr rfl⟩, ⟨rfl, .inr rfl⟩, ⟨rfl, .inr rfl⟩, ⟨rfl, .inr rfl⟩, ⟨rfl, .inr rfl⟩, trivial⟩⟩
            ·refine ye rfl (oref 9 (u7 + 3) 0 1) ([⟨1, some [oref 3 1 0 0, oref 4 1 0 0, oref 5 1 0 0]⟩, ⟨1, some [sl r1.length (r1.map (ik .u8)), i64 r42, ik .u64 r43]⟩, ⟨1, some [oref 6 (u4 + 1) 0 (L8.length + 1), oref 7 u5 0 L9.length, oref 8 (u6 + 1) 0 (L10.length + 1)]⟩, ⟨1, some (([] : List F).map f32)⟩, ⟨1, some (([] : List F).map f32)⟩, ⟨1, some (([] : List F).map f32)⟩, ⟨(u4 + 1), some ((L8 ++ ([y26] : List F)).map f32)⟩, ⟨u5, some (L9.map f32)⟩, ⟨(u6 + 1), some ((L10 ++ ([y31] : List F)).map f32)⟩, ⟨(u7 + 3), some (([x46] : List F).map f32)⟩]) (TOp.buildSlice_o (g := ⟨(u7 + 2), none⟩) (za := f32 (some 0)) (qs := [(0, [f32 x46])]) 9 rfl und26 siz28 zer28 rfl zel28 rfl rfl ⟨rfl, ⟨_, ALe.refl _, rfl⟩, trivial⟩ rfl)<|zN ?_
             refine RAny.more (i0 := 1) (l := []) (by kernel_rfl) (RAnys.cons rfl ?_ RAnys.nil)
             refine yd rfl (oref 7 u5 0 L9.length) (TOp.load1_o rfl rfl agg26 rfl rfl)<|zN ?_
             refine RAny.more (i0 := 8) (l := []) (by kernel_rfl) (RAnys.cons rfl ?_ RAnys.nil)
             refine ROps.app (f := f32) (xs := L9) (ys := ([x46] : List F)) (Γ' := [⟨1, some [oref 3 1 0 0, oref 4 1 0 0, oref 5 1 0 0]⟩, ⟨1, some [sl r1.length (r1.map (ik .u8)), i64 r42, ik .u64 r43]⟩, ⟨1, some [oref 6 (u4 + 1) 0 (L8.length + 1), oref 7 u5 0 L9.length, oref 8 (u6 + 1) 0 (L10.length + 1)]⟩, ⟨1, some (([] : List F).map f32)⟩, ⟨1, some (([] : List F).map f32)⟩, ⟨1, some (([] : List F).map f32)⟩, ⟨(u4 + 1), some ((L8 ++ ([y26] : List F)).map f32)⟩, ⟨(u5 + 1), some ((L9 ++ ([x46] : List F)).map f32)⟩, ⟨(u6 + 1), some ((L10 ++ ([y31] : List F)).map f32)⟩, ⟨(u7 + 3), some (([x46] : List F).map f32)⟩]) rfl pun26 inf28 rfl rfl rfl rfl rfl rfl rfl rfl rfl (by simp) (ReadAs.own rfl (by simp)) (ones_map (fun _ => rfl)) (ap_by hm25) (ap_mx hm25) rfl<|zN ?_
             refine RAny.more (i0 := 9) (l := []) (by kernel_rfl) (RAnys.cons rfl ?_ RAnys.nil)
             refine yl rfl (optr 2 1 1) (LOp.fao und47 rfl siz26 rfl rfl rfl)<|zN ?_
             refine RAny.more (i0 := 10) (l := []) (by kernel_rfl) (RAnys.cons rfl ?_ RAnys.nil)
             refine ys (oref 7 (u5 + 1) 0 (L9.length + 1)) [oref 6 (u4 + 1) 0 (L8.length + 1), oref 7 (u5 + 1) 0 (L9.length + 1), oref 8 (u6 + 1) 0 (L10.length + 1)] ([⟨1, some [oref 3 1 0 0, oref 4 1 0 0, oref 5 1 0 0]⟩, ⟨1, some [sl r1.length (r1.map (ik .u8)), i64 r42, ik .u64 r43]⟩, ⟨1, some [oref 6 (u4 + 1) 0 (L8.length + 1), oref 7 (u5 + 1) 0 (L9.length + 1), oref 8 (u6 + 1) 0 (L10.length + 1)]⟩, ⟨1, some (([] : List F).map f32)⟩, ⟨1, some (([] : List F).map f32)⟩, ⟨1, some (([] : List F).map f32)⟩, ⟨(u4 + 1), some ((L8 ++ ([y26] : List F)).map f32)⟩, ⟨(u5 + 1), some ((L9 ++ ([x46] : List F)).map f32)⟩, ⟨(u6 + 1), some ((L10 ++ ([y31] : List F)).map f32)⟩, ⟨(u7 + 3), some (([x46] : List F).map f32)⟩]) siz26<|zN ?_
             refine RAny.done (by kernel_rfl) ?_
             exact ⟨⟨aR, aR, aR, aR, aR, aR, aR, aR, aR, aR, aR, aR, aR, aR, aR, trivial⟩, ⟨⟨rfl, .inr rfl⟩, ⟨rfl, .inr rfl⟩, ⟨rfl, .inr rfl⟩, ⟨rfl, .inr rfl⟩, ⟨rfl, .inr rfl⟩, ⟨rfl, .inr rfl⟩, ⟨rfl, .inr rfl⟩, ⟨rfl, .inr rfl⟩, ⟨rfl, .inr rfl⟩, ⟨rfl, .inr rfl⟩, trivial⟩⟩
       ·refine ROps.callO (A := [optr 1 1 0, i64 9]) (args := [optr 0 0 0, i64 9]) (Γc := [⟨0, some [sl r1.length (r1.map (ik .u8)), i64 r21, ik .u64 r22]⟩]) (Γc' := [⟨0, some [sl r1.length (r1.map (ik .u8)), i64 r42, ik .u64 r43]⟩]) (r' := i64 r41) (Γ' := [⟨1, some [oref 3 1 0 0, oref 4 1 0 0, oref 5 1 0 0]⟩, ⟨1, some [sl r1.length (r1.map (ik .u8)), i64 r42, ik .u64 r43]⟩, ⟨1, some [oref 6 (u4 + 1) 0 (L8.length + 1), oref 7 u5 0 L9.length, oref 8 (u6 + 1) 0 (L10.length + 1)]⟩, ⟨1, some (([] : List F).map f32)⟩, ⟨1, some (([] : List F).map f32)⟩, ⟨1, some (([] : List F).map f32)⟩, ⟨(u4 + 1), some ((L8 ++ ([y26] : List F)).map f32)⟩, ⟨u5, some (L9.map f32)⟩, ⟨(u6 + 1), some ((L10 ++ ([y31] : List F)).map f32)⟩, ⟨(u7 + 2), none⟩]) [(1, 1)] [] rfl (CallAs.func ent72 rfl rfl) rfl rfl (SelOk.of (ndB_ok rfl) (SelL.cells0 rfl (by simp [ren, rens, sigma, rens_f32, rens_f64, rens_i64, rens_ik, rens_str, rens_cp]) (lts_cons (lt_slk (fun _ => rfl)) (lts_cons rfl (lts_cons rfl lts_nil))) trivial)) (live_of ⟨⟨_, _, rfl⟩, trivial⟩) (by simp [ren, rens, sigma, rens_f32, rens_f64, rens_i64, rens_ik, rens_str, rens_cp]) rfl (s_l00Src_pick_0p0_C0_ok 9 r1 r21 r22 r41 r42 r43 hf21) rfl (news_of trivial) (ndB_ok rfl) (by simp [ren, rens, sigma]) (by simp [backOb, sigma, ren, rens, rens_f32, rens_f64, rens_i64, rens_ik, rens_str, rens_cp] <;> omega)<|zN ?_
        refine RAny.more (i0 := 0) (l := [4]) (by kernel_rfl) (RAnys.cons rfl ?_ (RAnys.cons rfl ?_ RAnys.nil))
        ·refine yl rfl (optr 2 1 1) (LOp.fao und47 rfl siz26 rfl rfl rfl)<|zN ?_
         refine RAny.more (i0 := 1) (l := [4]) (by kernel_rfl) (RAnys.cons rfl ?_ (RAnys.cons rfl ?_ RAnys.nil))
         ·refine yd rfl (oref 7 u5 0 L9.length) (TOp.load1_o rfl rfl agg26 rfl rfl)<|zN ?_
          refine RAny.more (i0 := 4) (l := []) (by kernel_rfl) (RAnys.cons rfl ?_ RAnys.nil)
          refine yl rfl (i64 x44) (LOp.eqr (LOp.add rfl rfl rfl) (congrArg (ik .i64) hx22))<|zN ?_
          refine RAny.more (i0 := 5) (l := []) (by kernel_rfl) (RAnys.cons rfl ?_ RAnys.nil)
          refine yl rfl (f32 x45) (LOp.eqr (LOp.i2f (src := 2) (dst := 28) ⟨_, pun2⟩ pun28 rfl rfl) (congrArg (f .f32) hx23))<|zN ?_
          refine RAny.more (i0 := 6) (l := []) (by kernel_rfl) (RAnys.cons rfl ?_ RAnys.nil)
          refine yd rfl (f32 x46) (TOp.eqr (TOp.fop (.inr (.inr (.inr rfl))) rfl (OpF.tmp rfl) (OpF.const rfl (by kernel_rfl) (by kernel_rfl))) (congrArg (f .f32) hx24))<|zN ?_
          refine RAny.more (i0 := 7) (l := []) (by kernel_rfl) (RAnys.cons rfl ?_ RAnys.nil)
          refine ye rfl (oref 9 (u7 + 3) 0 1) ([⟨1, some [oref 3 1 0 0, oref 4 1 0 0, oref 5 1 0 0]⟩, ⟨1, some [sl r1.length (r1.map (ik .u8)), i64 r42, ik .u64 r43]⟩, ⟨1, some [oref 6 (u4 + 1) 0 (L8.length + 1), oref 7 u5 0 L9.length, oref 8 (u6 + 1) 0 (L10.length + 1)]⟩, ⟨1, some (([] : List F).map f32)⟩, ⟨1, some (([] : List F).map f32)⟩, ⟨1, some (([] : List F).map f32)⟩, ⟨(u4 + 1), some ((L8 ++ ([y26] : List F)).map f32)⟩, ⟨u5, some (L9.map f32)⟩, ⟨(u6 + 1), some ((L10 ++ ([y31] : List F)).map f32)⟩, ⟨(u7 + 3), some (([x46] : List F).map f32)⟩]) (TOp.buildSlice_o (g := ⟨(u7 + 2), none⟩) (za := f32 (some 0)) (qs := [(0, [f32 x46])]) 9 rfl und26 siz28 zer28 rfl zel28 rfl rfl ⟨rfl, ⟨_, ALe.refl _, rfl⟩, trivial⟩ rfl)<|zN ?_
          refine RAny.more (i0 := 8) (l := []) (by kernel_rfl) (RAnys.cons rfl ?_ RAnys.nil)
          refine ROps.app (f := f32) (xs := L9) (ys := ([x46] : List F)) (Γ' := [⟨1, some [oref 3 1 0 0, oref 4 1 0 0, oref 5 1 0 0]⟩, ⟨1, some [sl r1.length (r1.map (ik .u8)), i64 r42, ik .u64 r43]⟩, ⟨1, some [oref 6 (u4 + 1) 0 (L8.length + 1), oref 7 u5 0 L9.length, oref 8 (u6 + 1) 0 (L10.length + 1)]⟩, ⟨1, some (([] : List F).map f32)⟩, ⟨1, some (([] : List F).map f32)⟩, ⟨1, some (([] : List F).map f32)⟩, ⟨(u4 + 1), some ((L8 ++ ([y26] : List F)).map f32)⟩, ⟨(u5 + 1), some ((L9 ++ ([x46] : List F)).map f32)⟩, ⟨(u6 + 1), some ((L10 ++ ([y31] : List F)).map f32)⟩, ⟨(u7 + 3), some (([x46] : List F).map f32)⟩]) rfl pun26 inf28 rfl rfl rfl rfl rfl rfl rfl rfl rfl (by simp) (ReadAs.own rfl (by simp)) (ones_map (fun _ => rfl)) (ap_by hm25) (ap_mx hm25) rfl<|zN ?_
          refine RAny.more (i0 := 9) (l := []) (by kernel_rfl) (RAnys.cons rfl ?_ RAnys.nil)
          refine yl rfl (optr 2 1 1) (LOp.fao und47 rfl siz26 rfl rfl rfl)<|zN ?_
          refine RAny.more (i0 := 10) (l := []) (by kernel_rfl) (RAnys.cons rfl ?_ RAnys.nil)
          refine ys (oref 7 (u5 + 1) 0 (L9.length + 1)) [oref 6 (u4 + 1) 0 (L8.length + 1), oref 7 (u5 + 1) 0 (L9.length + 1), oref 8 (u6 + 1) 0 (L10.length + 1)] ([⟨1, some [oref 3 1 0 0, oref 4 1 0 0, oref 5 1 0 0]⟩, ⟨1, some [sl r1.length (r1.map (ik .u8)), i64 r42, ik .u64 r43]⟩, ⟨1, some [oref 6 (u4 + 1) 0 (L8.length + 1), oref 7 (u5 + 1) 0 (L9.length + 1), oref 8 (u6 + 1) 0 (L10.length + 1)]⟩, ⟨1, some (([] : List F).map f32)⟩, ⟨1, some (([] : List F).map f32)⟩, ⟨1, some (([] : List F).map f32)⟩, ⟨(u4 + 1), some ((L8 ++ ([y26] : List F)).map f32)⟩, ⟨(u5 + 1), some ((L9 ++ ([x46] : List F)).map f32)⟩, ⟨(u6 + 1), some ((L10 ++ ([y31] : List F)).map f32)⟩, ⟨(u7 + 3), some (([x46] : List F).map f32)⟩]) siz26<|zN ?_
          refine RAny.done (by kernel_rfl) ?_
          exact ⟨⟨aR, aR, aR, aR, aR, aR, aR, aR, aR, aR, aR, aR, aR, aR, aR, trivial⟩, ⟨⟨rfl, .inr rfl⟩, ⟨rfl, .inr rfl⟩, ⟨rfl, .inr rfl⟩, ⟨rfl, .inr rfl⟩, ⟨rfl, .inr rfl⟩, ⟨rfl, .inr rfl⟩, ⟨rfl, .inr rfl⟩, ⟨rfl, .inr rfl⟩, ⟨rfl, .inr rfl⟩, ⟨rfl, .inr rfl⟩, trivial⟩⟩
         ·refine yl rfl (i64 x44) (LOp.eqr (LOp.add rfl rfl rfl) (congrArg (ik .i64) hx22))<|zN ?_
          refine RAny.more (i0 := 1) (l := [5]) (by kernel_rfl) (RAnys.cons rfl ?_ (RAnys.cons rfl ?_ RAnys.nil))
          ·refine yd rfl (oref 7 u5 0 L9.length) (TOp.load1_o rfl rfl agg26 rfl rfl)<|zN ?_
           refine RAny.more (i0 := 5) (l := []) (by kernel_rfl) (RAnys.cons rfl ?_ RAnys.nil)
           refine yl rfl (f32 x45) (LOp.eqr (LOp.i2f (src := 2) (dst := 28) ⟨_, pun2⟩ pun28 rfl rfl) (congrArg (f .f32) hx23))<|zN ?_
           refine RAny.more (i0 := 6) (l := []) (by kernel_rfl) (RAnys.cons rfl ?_ RAnys.nil)
           refine yd rfl (f32 x46) (TOp.eqr (TOp.fop (.inr (.inr (.inr rfl))) rfl (OpF.tmp rfl) (OpF.const rfl (by kernel_rfl) (by kernel_rfl))) (congrArg (f .f32) hx24))<|zN ?_
           refine RAny.more (i0 := 7) (l := []) (by kernel_rfl) (RAnys.cons rfl ?_ RAnys.nil)
           refine ye rfl (oref 9 (u7 + 3) 0 1) ([⟨1, some [oref 3 1 0 0, oref 4 1 0 0, oref 5 1 0 0]⟩, ⟨1, some [sl r1.length (r1.map (ik .u8)), i64 r42, ik .u64 r43]⟩, ⟨1, some [oref 6 (u4 + 1) 0 (L8.length + 1), oref 7 u5 0 L9.length, oref 8 (u6 + 1) 0 (L10.length + 1)]⟩, ⟨1, some (([] : List F).map f32)⟩, ⟨1, some (([] : List F).map f32)⟩, ⟨1, some (([] : List F).map f32)⟩, ⟨(u4 + 1), some ((L8 ++ ([y26] : List F)).map f32)⟩, ⟨u5, some (L9.map f32)⟩, ⟨(u6 + 1), some ((L10 ++ ([y31] : List F)).map f32)⟩, ⟨(u7 + 3), some (([x46] : List F).map f32)⟩]) (TOp.buildSlice_o (g := ⟨(u7 + 2), none⟩) (za := f32 (some 0)) (qs := [(0, [f32 x46])]) 9 rfl und26 siz28 zer28 rfl zel28 rfl rfl ⟨rfl, ⟨_, ALe.refl _, rfl⟩, trivial⟩ rfl)<|zN ?_
           refine RAny.more (i0 := 8) (l := []) (by kernel_rfl) (RAnys.cons rfl ?_ RAnys.nil)
           refine ROps.app (f := f32) (xs := L9) (ys := ([x46] : List F)) (Γ' := [⟨1, some [oref 3 1 0 0, oref 4 1 0 0, oref 5 1 0 0]⟩, ⟨1, some [sl r1.length (r1.map (ik .u8)), i64 r42, ik .u64 r43]⟩, ⟨1, some [oref 6 (u4 + 1) 0 (L8.length + 1), oref 7 u5 0 L9.length, oref 8 (u6 + 1) 0 (L10.length + 1)]⟩, ⟨1, some (([] : List F).map f32)⟩, ⟨1, some (([] : List F).map f32)⟩, ⟨1, some (([] : List F).map f32)⟩, ⟨(u4 + 1), some ((L8 ++ ([y26] : List F)).map f32)⟩, ⟨(u5 + 1), some ((L9 ++ ([x46] : List F)).map f32)⟩, ⟨(u6 + 1), some ((L10 ++ ([y31] : List F)).map f32)⟩, ⟨(u7 + 3), some (([x46] : List F).map f32)⟩]) rfl pun26 inf28 rfl rfl rfl rfl rfl rfl rfl rfl rfl (by simp) (ReadAs.own rfl (by simp)) (ones_map (fun _ => rfl)) (ap_by hm25) (ap_mx hm25) rfl<|zN ?_
           refine RAny.more (i0 := 9) (l := []) (by kernel_rfl) (RAnys.cons rfl ?_ RAnys.nil)
           refine yl rfl (optr 2 1 1) (LOp.fao und47 rfl siz26 rfl rfl rfl)<|zN ?_
           refine RAny.more (i0 := 10) (l := []) (by kernel_rfl) (RAnys.cons rfl ?_ RAnys.nil)
           refine ys (oref 7 (u5 + 1) 0 (L9.length + 1)) [oref 6 (u4 + 1) 0 (L8.length + 1), oref 7 (u5 + 1) 0 (L9.length + 1), oref 8 (u6 + 1) 0 (L10.length + 1)] ([⟨1, some [oref 3 1 0 0, oref 4 1 0 0, oref 5 1 0 0]⟩, ⟨1, some [sl r1.length (r1.map (ik .u8)), i64 r42, ik .u64 r43]⟩, ⟨1, some [oref 6 (u4 + 1) 0 (L8.length + 1), oref 7 (u5 + 1) 0 (L9.length + 1), oref 8 (u6 + 1) 0 (L10.length + 1)]⟩, ⟨1, some (([] : List F).map f32)⟩, ⟨1, some (([] : List F).map f32)⟩, ⟨1, some (([] : List F).map f32)⟩, ⟨(u4 + 1), some ((L8 ++ ([y26] : List F)).map f32)⟩, ⟨(u5 + 1), some ((L9 ++ ([x46] : List F)).map f32)⟩, ⟨(u6 + 1), some ((L10 ++ ([y31] : List F)).map f32)⟩, ⟨(u7 + 3), some (([x46] : List F).map f32)⟩]) siz26<|zN ?_
           refine RAny.done (by kernel_rfl) ?_
           exact ⟨⟨aR, aR, aR, aR, aR, aR, aR, aR, aR, aR, aR, aR, aR, aR, aR, trivial⟩, ⟨⟨rfl, .inr rfl⟩, ⟨rfl, .inr rfl⟩, ⟨rfl, .inr rfl⟩, ⟨rfl, .inr rfl⟩, ⟨rfl, .inr rfl⟩, ⟨rfl, .inr rfl⟩, ⟨rfl, .inr rfl⟩, ⟨rfl, .inr rfl⟩, ⟨rfl, .inr rfl⟩, ⟨rfl, .inr rfl⟩, trivial⟩⟩
          ·refine yl rfl (f32 x45) (LOp.eqr (LOp.i2f (src := 2) (dst := 28) ⟨_, pun2⟩ pun28 rfl rfl) (congrArg (f .f32) hx23))<|zN ?_
           refine RAny.more (i0 := 1) (l := [6]) (by kernel_rfl) (RAnys.cons rfl ?_ (RAnys.cons rfl ?_ RAnys.nil))
           ·refine yd rfl (oref 7 u5 0 L9.length) (TOp.load1_o rfl rfl agg26 rfl rfl)<|zN ?_
            refine RAny.more (i0 := 6) (l := []) (by kernel_rfl) (RAnys.cons rfl ?_ RAnys.nil)
            refine yd rfl (f32 x46) (TOp.eqr (TOp.fop (.inr (.inr (.inr rfl))) rfl (OpF.tmp rfl) (OpF.const rfl (by kernel_rfl) (by kernel_rfl))) (congrArg (f .f32) hx24))<|zN ?_
            refine RAny.more (i0 := 7) (l := []) (by kernel_rfl) (RAnys.cons rfl ?_ RAnys.nil)
            refine ye rfl (oref 9 (u7 + 3) 0 1) ([⟨1, some [oref 3 1 0 0, oref 4 1 0 0, oref 5 1 0 0]⟩, ⟨1, some [sl r1.length (r1.map (ik .u8)), i64 r42, ik .u64 r43]⟩, ⟨1, some [oref 6 (u4 + 1) 0 (L8.length + 1), oref 7 u5 0 L9.length, oref 8 (u6 + 1) 0 (L10.length + 1)]⟩, ⟨1, some (([] : List F).map f32)⟩, ⟨1, some (([] : List F).map f32)⟩, ⟨1, some (([] : List F).map f32)⟩, ⟨(u4 + 1), some ((L8 ++ ([y26] : List F)).map f32)⟩, ⟨u5, some (L9.map f32)⟩, ⟨(u6 + 1), some ((L10 ++ ([y31] : List F)).map f32)⟩, ⟨(u7 + 3), some (([x46] : List F).map f32)⟩]) (TOp.buildSlice_o (g := ⟨(u7 + 2), none⟩) (za := f32 (some 0)) (qs := [(0, [f32 x46])]) 9 rfl und26 siz28 zer28 rfl zel28 rfl rfl ⟨rfl, ⟨_, ALe.refl _, rfl⟩, trivial⟩ rfl)<|zN ?_
            refine RAny.more (i0 := 8) (l := []) (by kernel_rfl) (RAnys.cons rfl ?_ RAnys.nil)
            refine ROps.app (f := f32) (xs := L9) (ys := ([x46] : List F)) (Γ' := [⟨1, some [oref 3 1 0 0, oref 4 1 0 0, oref 5 1 0 0]⟩, ⟨1, some [sl r1.length (r1.map (ik .u8)), i64 r42, ik .u64 r43]⟩, ⟨1, some [oref 6 (u4 + 1) 0 (L8.length + 1), oref 7 u5 0 L9.length, oref 8 (u6 + 1) 0 (L10.length + 1)]⟩, ⟨1, some (([] : List F).map f32)⟩, ⟨1, some (([] : List F).map f32)⟩, ⟨1, some (([] : List F).map f32)⟩, ⟨(u4 + 1), some ((L8 ++ ([y26] : List F)).map f32)⟩, ⟨(u5 + 1), some ((L9 ++ ([x46] : List F)).map f32)⟩, ⟨(u6 + 1), some ((L10 ++ ([y31] : List F)).map f32)⟩, ⟨(u7 + 3), some (([x46] : List F).map f32)⟩]) rfl pun26 inf28 rfl rfl rfl rfl rfl rfl rfl rfl rfl (by simp) (ReadAs.own rfl (by simp)) (ones_map (fun _ => rfl)) (ap_by hm25) (ap_mx hm25) rfl<|zN ?_
            refine RAny.more (i0 := 9) (l := []) (by kernel_rfl) (RAnys.cons rfl ?_ RAnys.nil)
            refine yl rfl (optr 2 1 1) (LOp.fao und47 rfl siz26 rfl rfl rfl)<|zN ?_
            refine RAny.more (i0 := 10) (l := []) (by kernel_rfl) (RAnys.cons rfl ?_ RAnys.nil)
            refine ys (oref 7 (u5 + 1) 0 (L9.length + 1)) [oref 6 (u4 + 1) 0 (L8.length + 1), oref 7 (u5 + 1) 0 (L9.length + 1), oref 8 (u6 + 1) 0 (L10.length + 1)] ([⟨1, some [oref 3 1 0 0, oref 4 1 0 0, oref 5 1 0 0]⟩, ⟨1, some [sl r1.length (r1.map (ik .u8)), i64 r42, ik .u64 r43]⟩, ⟨1, some [oref 6 (u4 + 1) 0 (L8.length + 1), oref 7 (u5 + 1) 0 (L9.length + 1), oref 8 (u6 + 1) 0 (L10.length + 1)]⟩, ⟨1, some (([] : List F).map f32)⟩, ⟨1, some (([] : List F).map f32)⟩, ⟨1, some (([] : List F).map f32)⟩, ⟨(u4 + 1), some ((L8 ++ ([y26] : List F)).map f32)⟩, ⟨(u5 + 1), some ((L9 ++ ([x46] : List F)).map f32)⟩, ⟨(u6 + 1), some ((L10 ++ ([y31] : List F)).map f32)⟩, ⟨(u7 + 3), some (([x46] : List F).map f32)⟩]) siz26<|zN ?_
            refine RAny.done (by kernel_rfl) ?_
            exact ⟨⟨aR, aR, aR, aR, aR, aR, aR, aR, aR, aR, aR, aR, aR, aR, aR, trivial⟩, ⟨⟨rfl, .inr rfl⟩, ⟨rfl, .inr rfl⟩, ⟨rfl, .inr rfl⟩, ⟨rfl, .inr rfl⟩, ⟨rfl, .inr rfl⟩, ⟨rfl, .inr rfl⟩, ⟨rfl, .inr rfl⟩, ⟨rfl, .inr rfl⟩, ⟨rfl, .inr rfl⟩, ⟨rfl, .inr rfl⟩, trivial⟩⟩
           ·refine yd rfl (f32 x46) (TOp.eqr (TOp.fop (.inr (.inr (.inr rfl))) rfl (OpF.tmp rfl) (OpF.const rfl (by kernel_rfl) (by kernel_rfl))) (congrArg (f .f32) hx24))<|zN ?_
            refine RAny.more (i0 := 1) (l := [7]) (by kernel_rfl) (RAnys.cons rfl ?_ (RAnys.cons rfl ?_ RAnys.nil))
            ·refine yd rfl (oref 7 u5 0 L9.length) (TOp.load1_o rfl rfl agg26 rfl rfl)<|zN ?_
             refine RAny.more (i0 := 7) (l := []) (by kernel_rfl) (RAnys.cons rfl ?_ RAnys.nil)
             refine ye rfl (oref 9 (u7 + 3) 0 1) ([⟨1, some [oref 3 1 0 0, oref 4 1 0 0, oref 5 1 0 0]⟩, ⟨1, some [sl r1.length (r1.map (ik .u8)), i64 r42, ik .u64 r43]⟩, ⟨1, some [oref 6 (u4 + 1) 0 (L8.length + 1), oref 7 u5 0 L9.length, oref 8 (u6 + 1) 0 (L10.length + 1)]⟩, ⟨1, some (([] : List F).map f32)⟩, ⟨1, some (([] : List F).map f32)⟩, ⟨1, some (([] : List F).map f32)⟩, ⟨(u4 + 1), some ((L8 ++ ([y26] : List F)).map f32)⟩, ⟨u5, some (L9.map f32)⟩, ⟨(u6 + 1), some ((L10 ++ ([y31] : List F)).map f32)⟩, ⟨(u7 + 3), some (([x46] : List F).map f32)⟩]) (TOp.buildSlice_o (g := ⟨(u7 + 2), none⟩) (za := f32 (some 0)) (qs := [(0, [f32 x46])]) 9 rfl und26 siz28 zer28 rfl zel28 rfl rfl ⟨rfl, ⟨_, ALe.refl _, rfl⟩, trivial⟩ rfl)<|zN ?_
             refine RAny.more (i0 := 8) (l := []) (by kernel_rfl) (RAnys.cons rfl ?_ RAnys.nil)
             refine ROps.app (f := f32) (xs := L9) (ys := ([x46] : List F)) (Γ' := [⟨1, some [oref 3 1 0 0, oref 4 1 0 0, oref 5 1 0 0]⟩, ⟨1, some [sl r1.length (r1.map (ik .u8)), i64 r42, ik .u64 r43]⟩, ⟨1, some [oref 6 (u4 + 1) 0 (L8.length + 1), oref 7 u5 0 L9.length, oref 8 (u6 + 1) 0 (L10.length + 1)]⟩, ⟨1, some (([] : List F).map f32)⟩, ⟨1, some (([] : List F).map f32)⟩, ⟨1, some (([] : List F).map f32)⟩, ⟨(u4 + 1), some ((L8 ++ ([y26] : List F)).map f32)⟩, ⟨(u5 + 1), some ((L9 ++ ([x46] : List F)).map f32)⟩, ⟨(u6 + 1), some ((L10 ++ ([y31] : List F)).map f32)⟩, ⟨(u7 + 3), some (([x46] : List F).map f32)⟩]) rfl pun26 inf28 rfl rfl rfl rfl rfl rfl rfl rfl rfl (by simp) (ReadAs.own rfl (by simp)) (ones_map (fun _ => rfl)) (ap_by hm25) (ap_mx hm25) rfl<|zN ?_
             refine RAny.more (i0 := 9) (l := []) (by kernel_rfl) (RAnys.cons rfl ?_ RAnys.nil)
             refine yl rfl (optr 2 1 1) (LOp.fao und47 rfl siz26 rfl rfl rfl)<|zN ?_
             refine RAny.more (i0 := 10) (l := []) (by kernel_rfl) (RAnys.cons rfl ?_ RAnys.nil)
             refine ys (oref 7 (u5 + 1) 0 (L9.length + 1)) [oref 6 (u4 + 1) 0 (L8.length + 1), oref 7 (u5 + 1) 0 (L9.length + 1), oref 8 (u6 + 1) 0 (L10.length + 1)] ([⟨1, some [oref 3 1 0 0, oref 4 1 0 0, oref 5 1 0 0]⟩, ⟨1, some [sl r1.length (r1.map (ik .u8)), i64 r42, ik .u64 r43]⟩, ⟨1, some [oref 6 (u4 + 1) 0 (L8.length + 1), oref 7 (u5 + 1) 0 (L9.length + 1), oref 8 (u6 + 1) 0 (L10.length + 1)]⟩, ⟨1, some (([] : List F).map f32)⟩, ⟨1, some (([] : List F).map f32)⟩, ⟨1, some (([] : List F).map f32)⟩, ⟨(u4 + 1), some ((L8 ++ ([y26] : List F)).map f32)⟩, ⟨(u5 + 1), some ((L9 ++ ([x46] : List F)).map f32)⟩, ⟨(u6 + 1), some ((L10 ++ ([y31] : List F)).map f32)⟩, ⟨(u7 + 3), some (([x46] : List F).map f32)⟩]) siz26<|zN ?_
             refine RAny.done (by kernel_rfl) ?_
             exact ⟨⟨aR, aR, aR, aR, aR, aR, aR, aR, aR, aR, aR, aR, aR, aR, aR, trivial⟩, ⟨⟨rfl, .inr rfl⟩, ⟨rfl, .inr rfl⟩, ⟨rfl, .inr rfl⟩, ⟨rfl, .inr rfl⟩, ⟨rfl, .inr rfl⟩, ⟨rfl, .inr rfl⟩, ⟨rfl, .inr rfl⟩, ⟨rfl, .inr rfl⟩, ⟨rfl, .inr rfl⟩, ⟨rfl, .inr rfl⟩, trivial⟩⟩
            ·refine ye rfl (oref 9 (u7 + 3) 0 1) ([⟨1, some [oref 3 1 0 0, oref 4 1 0 0, oref 5 1 0 0]⟩, ⟨1, some [sl r1.length (r1.map (ik .u8)), i64 r42, ik .u64 r43]⟩, ⟨1, some [oref 6 (u4 + 1) 0 (L8.length + 1), oref 7 u5 0 L9.length, oref 8 (u6 + 1) 0 (L10.length + 1)]⟩, ⟨1, some (([] : List F).map f32)⟩, ⟨1, some (([] : List F).map f32)⟩, ⟨1, some (([] : List F).map f32)⟩, ⟨(u4 + 1), some ((L8 ++ ([y26] : List F)).map f32)⟩, ⟨u5, some (L9.map f32)⟩, ⟨(u6 + 1), some ((L10 ++ ([y31] : List F)).map f32)⟩, ⟨(u7 + 3), some (([x46] : List F).map f32)⟩]) (TOp.buildSlice_o (g := ⟨(u7 + 2), none⟩) (za := f32 (some 0)) (qs := [(0, [f32 x46])]) 9 rfl und26 siz28 zer28 rfl zel28 rfl rfl ⟨rfl, ⟨_, ALe.refl _, rfl⟩, trivial⟩ rfl)<|zN ?_
             refine RAny.more (i0 := 1) (l := []) (by kernel_rfl) (RAnys.cons rfl ?_ RAnys.nil)
             refine yd rfl (oref 7 u5 0 L9.length) (TOp.load1_o rfl rfl agg26 rfl rfl)<|zN ?_
             refine RAny.more (i0 := 8) (l := []) (by kernel_rfl) (RAnys.cons rfl ?_ RAnys.nil)
             refine ROps.app (f := f32) (xs := L9) (ys := ([x46] : List F)) (Γ' := [⟨1, some [oref 3 1 0 0, oref 4 1 0 0, oref 5 1 0 0]⟩, ⟨1, some [sl r1.length (r1.map (ik .u8)), i64 r42, ik .u64 r43]⟩, ⟨1, some [oref 6 (u4 + 1) 0 (L8.length + 1), oref 7 u5 0 L9.length, oref 8 (u6 + 1) 0 (L10.length + 1)]⟩, ⟨1, some (([] : List F).map f32)⟩, ⟨1, some (([] : List F).map f32)⟩, ⟨1, some (([] : List F).map f32)⟩, ⟨(u4 + 1), some ((L8 ++ ([y26] : List F)).map f32)⟩, ⟨(u5 + 1), some ((L9 ++ ([x46] : List F)).map f32)⟩, ⟨(u6 + 1), some ((L10 ++ ([y31] : List F)).map f32)⟩, ⟨(u7 + 3), some (([x46] : List F).map f32)⟩]) rfl pun26 inf28 rfl rfl rfl rfl rfl rfl rfl rfl rfl (by simp) (ReadAs.own rfl (by simp)) (ones_map (fun _ => rfl)) (ap_by hm25) (ap_mx hm25) rfl<|zN ?_
             refine RAny.more (i0 := 9) (l := []) (by kernel_rfl) (RAnys.cons rfl ?_ RAnys.nil)
             refine yl rfl (optr 2 1 1) (LOp.fao und47 rfl siz26 rfl rfl rfl)<|zN ?_
             refine RAny.more (i0 := 10) (l := []) (by kernel_rfl) (RAnys.cons rfl ?_ RAnys.nil)
             refine ys (oref 7 (u5 + 1) 0 (L9.length + 1)) [oref 6 (u4 + 1) 0 (L8.length + 1), oref 7 (u5 + 1) 0 (L9.length + 1), oref 8 (u6 + 1) 0 (L10.length + 1)] ([⟨1, some [oref 3 1 0 0, oref 4 1 0 0, oref 5 1 0 0]⟩, ⟨1, some [sl r1.length (r1.map (ik .u8)), i64 r42, ik .u64 r43]⟩, ⟨1, some [oref 6 (u4 + 1) 0 (L8.length + 1), oref 7 (u5 + 1) 0 (L9.length + 1), oref 8 (u6 + 1) 0 (L10.length + 1)]⟩, ⟨1, some (([] : List F).map f32)⟩, ⟨1, some (([] : List F).map f32)⟩, ⟨1, some (([] : List F).map f32)⟩, ⟨(u4 + 1), some ((L8 ++ ([y26] : List F)).map f32)⟩, ⟨(u5 + 1), some ((L9 ++ ([x46] : List F)).map f32)⟩, ⟨(u6 + 1), some ((L10 ++ ([y31] : List F)).map f32)⟩, ⟨(u7 + 3), some (([x46] : List F).map f32)⟩]) siz26<|zN ?_
             refine RAny.done (by kernel_rfl) ?_
             exact ⟨⟨aR, aR, aR, aR, aR, aR, aR, aR, aR, aR, aR, aR, aR, aR, aR, trivial⟩, ⟨⟨rfl, .inr rfl⟩, ⟨rfl, .inr rfl⟩, ⟨rfl, .inr rfl⟩, ⟨rfl, .inr rfl⟩, ⟨rfl, .inr rfl⟩, ⟨rfl, .inr rfl⟩, ⟨rfl, .inr rfl⟩, ⟨rfl, .inr rfl⟩, ⟨rfl, .inr rfl⟩, ⟨rfl, .inr rfl⟩, trivial⟩⟩
        ·refine yl rfl (i64 x44) (LOp.eqr (LOp.add rfl rfl rfl) (congrArg (ik .i64) hx22))<|zN ?_
         refine RAny.more (i0 := 0) (l := [5]) (by kernel_rfl) (RAnys.cons rfl ?_ (RAnys.cons rfl ?_ RAnys.nil))
         ·refine yl rfl (optr 2 1 1) (LOp.fao und47 rfl siz26 rfl rfl rfl)<|zN ?_
          refine RAny.more (i0 := 1) (l := [5]) (by kernel_rfl) (RAnys.cons rfl ?_ (RAnys.cons rfl ?_ RAnys.nil))
          ·refine yd rfl (oref 7 u5 0 L9.length) (TOp.load1_o rfl rfl agg26 rfl rfl)<|zN ?_
           refine RAny.more (i0 := 5) (l := []) (by kernel_rfl) (RAnys.cons rfl ?_ RAnys.nil)
           refine yl rfl (f32 x45) (LOp.eqr (LOp.i2f (src := 2) (dst := 28) ⟨_, pun2⟩ pun28 rfl rfl) (congrArg (f .f32) hx23))<|zN ?_
           refine RAny.more (i0 := 6) (l := []) (by kernel_rfl) (RAnys.cons rfl ?_ RAnys.nil)
           refine yd rfl (f32 x46) (TOp.eqr (TOp.fop (.inr (.inr (.inr rfl))) rfl (OpF.tmp rfl) (OpF.const rfl (by kernel_rfl) (by kernel_rfl))) (congrArg (f .f32) hx24))<|zN ?_
           refine RAny.more (i0 := 7) (l := []) (by kernel_rfl) (RAnys.cons rfl ?_ RAnys.nil)
           refine ye rfl (oref 9 (u7 + 3) 0 1) ([⟨1, some [oref 3 1 0 0, oref 4 1 0 0, oref 5 1 0 0]⟩, ⟨1, some [sl r1.length (r1.map (ik .u8)), i64 r42, ik .u64 r43]⟩, ⟨1, some [oref 6 (u4 + 1) 0 (L8.length + 1), oref 7 u5 0 L9.length, oref 8 (u6 + 1) 0 (L10.length + 1)]⟩, ⟨1, some (([] : List F).map f32)⟩, ⟨1, some (([] : List F).map f32)⟩, ⟨1, some (([] : List F).map f32)⟩, ⟨(u4 + 1), some ((L8 ++ ([y26] : List F)).map f32)⟩, ⟨u5, some (L9.map f32)⟩, ⟨(u6 + 1), some ((L10 ++ ([y31] : List F)).map f32)⟩, ⟨(u7 + 3), some (([x46] : List F).map f32)⟩]) (TOp.buildSlice_o (g := ⟨(u7 + 2), none⟩) (za := f32 (some 0)) (qs := [(0, [f32 x46])]) 9 rfl und26 siz28 zer28 rfl zel28 rfl rfl ⟨rfl, ⟨_, ALe.refl _, rfl⟩, trivial⟩ rfl)<|zN ?_
           refine RAny.more (i0 := 8) (l := []) (by kernel_rfl) (RAnys.cons rfl ?_ RAnys.nil)
           refine ROps.app (f := f32) (xs := L9) (ys := ([x46] : List F)) (Γ' := [⟨1, some [oref 3 1 0 0, oref 4 1 0 0, oref 5 1 0 0]⟩, ⟨1, some [sl r1.length (r1.map (ik .u8)), i64 r42, ik .u64 r43]⟩, ⟨1, some [oref 6 (u4 + 1) 0 (L8.length + 1), oref 7 u5 0 L9.length, oref 8 (u6 + 1) 0 (L10.length + 1)]⟩, ⟨1, some (([] : List F).map f32)⟩, ⟨1, some (([] : List F).map f32)⟩, ⟨1, some (([] : List F).map f32)⟩, ⟨(u4 + 1), some ((L8 ++ ([y26] : List F)).map f32)⟩, ⟨(u5 + 1), some ((L9 ++ ([x46] : List F)).map f32)⟩, ⟨(u6 + 1), some ((L10 ++ ([y31] : List F)).map f32)⟩, ⟨(u7 + 3), some (([x46] : List F).map f32)⟩]) rfl pun26 inf28 rfl rfl rfl rfl rfl rfl rfl rfl rfl (by simp) (ReadAs.own rfl (by simp)) (ones_map (fun _ => rfl)) (ap_by hm25) (ap_mx hm25) rfl<|zN ?_
           refine RAny.more (i0 := 9) (l := []) (by kernel_rfl) (RAnys.cons rfl ?_ RAnys.nil)
           refine yl rfl (optr 2 1 1) (LOp.fao und47 rfl siz26 rfl rfl rfl)<|zN ?_
           refine RAny.more (i0 := 10) (l := []) (by kernel_rfl) (RAnys.cons rfl ?_ RAnys.nil)
           refine ys (oref 7 (u5 + 1) 0 (L9.length + 1)) [oref 6 (u4 + 1) 0 (L8.length + 1), oref 7 (u5 + 1) 0 (L9.length + 1), oref 8 (u6 + 1) 0 (L10.length + 1)] ([⟨1, some [oref 3 1 0 0, oref 4 1 0 0, oref 5 1 0 0]⟩, ⟨1, some [sl r1.length (r1.map (ik .u8)), i64 r42, ik .u64 r43]⟩, ⟨1, some [oref 6 (u4 + 1) 0 (L8.length + 1), oref 7 (u5 + 1) 0 (L9.length + 1), oref 8 (u6 + 1) 0 (L10.length + 1)]⟩, ⟨1, some (([] : List F).map f32)⟩, ⟨1, some (([] : List F).map f32)⟩, ⟨1, some (([] : List F).map f32)⟩, ⟨(u4 + 1), some ((L8 ++ ([y26] : List F)).map f32)⟩, ⟨(u5 + 1), some ((L9 ++ ([x46] : List F)).map f32)⟩, ⟨(u6 + 1), some ((L10 ++ ([y31] : List F)).map f32)⟩, ⟨(u7 + 3), some (([x46] : List F).map f32)⟩]) siz26<|zN ?_
           refine RAny.done (by kernel_rfl) ?_
           exact ⟨⟨aR, aR, aR, aR, aR, aR, aR, aR, aR, aR, aR, aR, aR, aR, aR, trivial⟩, ⟨⟨rfl, .inr rfl⟩, ⟨rfl, .inr rfl⟩, ⟨rfl, .inr rfl⟩, ⟨rfl, .inr rfl⟩, ⟨rfl, .inr rfl⟩, ⟨rfl, .inr rfl⟩, ⟨rfl, .inr rfl⟩, ⟨rfl, .inr rfl⟩, ⟨rfl, .inr rfl⟩, ⟨rfl, .inr rfl⟩, trivial⟩⟩
          ·refine yl rfl (f32 x45) (LOp.eqr (LOp.i2f (src := 2) (dst := 28) ⟨_, pun2⟩ pun28 rfl rfl) (congrArg (f .f32) hx23))<|zN ?_
           refine RAny.more (i0 := 1) (l := [6]) (by kernel_rfl) (RAnys.cons rfl ?_ (RAnys.cons rfl ?_ RAnys.nil))
           ·refine yd rfl (oref 7 u5 0 L9.length) (TOp.load1_o rfl rfl agg26 rfl rfl)<|zN ?_
            refine RAny.more (i0 := 6) (l := []) (by kernel_rfl) (RAnys.cons rfl ?_ RAnys.nil)
            refine yd rfl (f32 x46) (TOp.eqr (TOp.fop (.inr (.inr (.inr rfl))) rfl (OpF.tmp rfl) (OpF.const rfl (by kernel_rfl) (by kernel_rfl))) (congrArg (f .f32) hx24))<|zN ?_
            refine RAny.more (i0 := 7) (l := []) (by kernel_rfl) (RAnys.cons rfl ?_ RAnys.nil)
            refine ye rfl (oref 9 (u7 + 3) 0 1) ([⟨1, some [oref 3 1 0 0, oref 4 1 0 0, oref 5 1 0 0]⟩, ⟨1, some [sl r1.length (r1.map (ik .u8)), i64 r42, ik .u64 r43]⟩, ⟨1, some [oref 6 (u4 + 1) 0 (L8.length + 1), oref 7 u5 0 L9.length, oref 8 (u6 + 1) 0 (L10.length + 1)]⟩, ⟨1, some (([] : List F).map f32)⟩, ⟨1, some (([] : List F).map f32)⟩, ⟨1, some (([] : List F).map f32)⟩, ⟨(u4 + 1), some ((L8 ++ ([y26] : List F)).map f32)⟩, ⟨u5, some (L9.map f32)⟩, ⟨(u6 + 1), some ((L10 ++ ([y31] : List F)).map f32)⟩, ⟨(u7 + 3), some (([x46] : List F).map f32)⟩]) (TOp.buildSlice_o (g := ⟨(u7 + 2), none⟩) (za := f32 (some 0)) (qs := [(0, [f32 x46])]) 9 rfl und26 siz28 zer28 rfl zel28 rfl rfl ⟨rfl, ⟨_, ALe.refl _, rfl⟩, trivial⟩ rfl)<|zN ?_
            refine RAny.more (i0 := 8) (l := []) (by kernel_rfl) (RAnys.cons rfl ?_ RAnys.nil)
            refine ROps.app (f := f32) (xs := L9) (ys := ([x46] : List F)) (Γ' := [⟨1, some [oref 3 1 0 0, oref 4 1 0 0, oref 5 1 0 0]⟩, ⟨1, some [sl r1.length (r1.map (ik .u8)), i64 r42, ik .u64 r43]⟩, ⟨1, some [oref 6 (u4 + 1) 0 (L8.length + 1), oref 7 u5 0 L9.length, oref 8 (u6 + 1) 0 (L10.length + 1)]⟩, ⟨1, some (([] : List F).map f32)⟩, ⟨1, some (([] : List F).map f32)⟩, ⟨1, some (([] : List F).map f32)⟩, ⟨(u4 + 1), some ((L8 ++ ([y26] : List F)).map f32)⟩, ⟨(u5 + 1), some ((L9 ++ ([x46] : List F)).map f32)⟩, ⟨(u6 + 1), some ((L10 ++ ([y31] : List F)).map f32)⟩, ⟨(u7 + 3), some (([x46] : List F).map f32)⟩]) rfl pun26 inf28 rfl rfl rfl rfl rfl rfl rfl rfl rfl (by simp) (ReadAs.own rfl (by simp)) (ones_map (fun _ => rfl)) (ap_by hm25) (ap_mx hm25) rfl<|zN ?_
            refine RAny.more (i0 := 9) (l := []) (by kernel_rfl) (RAnys.cons rfl ?_ RAnys.nil)
            refine yl rfl (optr 2 1 1) (LOp.fao und47 rfl siz26 rfl rfl rfl)<|zN ?_
            refine RAny.more (i0 := 10) (l := []) (by kernel_rfl) (RAnys.cons rfl ?_ RAnys.nil)
            refine ys (oref 7 (u5 + 1) 0 (L9.length + 1)) [oref 6 (u4 + 1) 0 (L8.length + 1), oref 7 (u5 + 1) 0 (L9.length + 1), oref 8 (u6 + 1) 0 (L10.length + 1)] ([⟨1, some [oref 3 1 0 0, oref 4 1 0 0, oref 5 1 0 0]⟩, ⟨1, some [sl r1.length (r1.map (ik .u8)), i64 r42, ik .u64 r43]⟩, ⟨1, some [oref 6 (u4 + 1) 0 (L8.length + 1), oref 7 (u5 + 1) 0 (L9.length + 1), oref 8 (u6 + 1) 0 (L10.length + 1)]⟩, ⟨1, some (([] : List F).map f32)⟩, ⟨1, some (([] : List F).map f32)⟩, ⟨1, some (([] : List F).map f32)⟩, ⟨(u4 + 1), some ((L8 ++ ([y26] : List F)).map f32)⟩, ⟨(u5 + 1), some ((L9 ++ ([x46] : List F)).map f32)⟩, ⟨(u6 + 1), some ((L10 ++ ([y31] : List F)).map f32)⟩, ⟨(u7 + 3), some (([x46] : List F).map f32)⟩]) siz26<|zN ?_
            refine RAny.done (by kernel_rfl) ?_
            exact ⟨⟨aR, aR, aR, aR, aR, aR, aR, aR, aR, aR, aR, aR, aR, aR, aR, trivial⟩, ⟨⟨rfl, .inr rfl⟩, ⟨rfl, .inr rfl⟩, ⟨rfl, .inr rfl⟩, ⟨rfl, .inr rfl⟩, ⟨rfl, .inr rfl⟩, ⟨rfl, .inr rfl⟩, ⟨rfl, .inr rfl⟩, ⟨rfl, .inr rfl⟩, ⟨rfl, .inr rfl⟩, ⟨rfl, .inr rfl⟩, trivial⟩⟩
           ·refine yd rfl (f32 x46) (TOp.eqr (TOp.fop (.inr (.inr (.inr rfl))) rfl (OpF.tmp rfl) (OpF.const rfl (by kernel_rfl) (by kernel_rfl))) (congrArg (f .f32) hx24))<|zN ?_
            refine RAny.more (i0 := 1) (l := [7]) (by kernel_rfl) (RAnys.cons rfl ?_ (RAnys.cons rfl ?_ RAnys.nil))
            ·refine yd rfl (oref 7 u5 0 L9.length) (TOp.load1_o rfl rfl agg26 rfl rfl)<|zN ?_
             refine RAny.more (i0 := 7) (l := []) (by kernel_rfl) (RAnys.cons rfl ?_ RAnys.nil)
             refine ye rfl (oref 9 (u7 + 3) 0 1) ([⟨1, some [oref 3 1 0 0, oref 4 1 0 0, oref 5 1 0 0]⟩, ⟨1, some [sl r1.length (r1.map (ik .u8)), i64 r42, ik .u64 r43]⟩, ⟨1, some [oref 6 (u4 + 1) 0 (L8.length + 1), oref 7 u5 0 L9.length, oref 8 (u6 + 1) 0 (L10.length + 1)]⟩, ⟨1, some (([] : List F).map f32)⟩, ⟨1, some (([] : List F).map f32)⟩, ⟨1, some (([] : List F).map f32)⟩, ⟨(u4 + 1), some ((L8 ++ ([y26] : List F)).map f32)⟩, ⟨u5, some (L9.map f32)⟩, ⟨(u6 + 1), some ((L10 ++ ([y31] : List F)).map f32)⟩, ⟨(u7 + 3), some (([x46] : List F).map f32)⟩]) (TOp.buildSlice_o (g := ⟨(u7 + 2), none⟩) (za := f32 (some 0)) (qs := [(0, [f32 x46])]) 9 rfl und26 siz28 zer28 rfl zel28 rfl rfl ⟨rfl, ⟨_, ALe.refl _, rfl⟩, trivial⟩ rfl)<|zN ?_
             refine RAny.more (i0 := 8) (l := []) (by kernel_rfl) (RAnys.cons rfl ?_ RAnys.nil)
             refine ROps.app (f := f32) (xs := L9) (ys := ([x46] : List F)) (Γ' := [⟨1, some [oref 3 1 0 0, oref 4 1 0 0, oref 5 1 0 0]⟩, ⟨1, some [sl r1.length (r1.map (ik .u8)), i64 r42, ik .u64 r43]⟩, ⟨1, some [oref 6 (u4 + 1) 0 (L8.length + 1), oref 7 u5 0 L9.length, oref 8 (u6 + 1) 0 (L10.length + 1)]⟩, ⟨1, some (([] : List F).map f32)⟩, ⟨1, some (([] : List F).map f32)⟩, ⟨1, some (([] : List F).map f32)⟩, ⟨(u4 + 1), some ((L8 ++ ([y26] : List F)).map f32)⟩, ⟨(u5 + 1), some ((L9 ++ ([x46] : List F)).map f32)⟩, ⟨(u6 + 1), some ((L10 ++ ([y31] : List F)).map f32)⟩, ⟨(u7 + 3), some (([x46] : List F).map f32)⟩]) rfl pun26 inf28 rfl rfl rfl rfl rfl rfl rfl rfl rfl (by simp) (ReadAs.own rfl (by simp)) (ones_map (fun _ => rfl)) (ap_by hm25) (ap_mx hm25) rfl<|zN ?_
             refine RAny.more (i0 := 9) (l := []) (by kernel_rfl) (RAnys.cons rfl ?_ RAnys.nil)
             refine yl rfl (optr 2 1 1) (LOp.fao und47 rfl siz26 rfl rfl rfl)<|zN ?_
             refine RAny.more (i0 := 10) (l := []) (by kernel_rfl) (RAnys.cons rfl ?_ RAnys.nil)
             refine ys (oref 7 (u5 + 1) 0 (L9.length + 1)) [oref 6 (u4 + 1) 0 (L8.length + 1), oref 7 (u5 + 1) 0 (L9.length + 1), oref 8 (u6 + 1) 0 (L10.length + 1)] ([⟨1, some [oref 3 1 0 0, oref 4 1 0 0, oref 5 1 0 0]⟩, ⟨1, some [sl r1.length (r1.map (ik .u8)), i64 r42, ik .u64 r43]⟩, ⟨1, some [oref 6 (u4 + 1) 0 (L8.length + 1), oref 7 (u5 + 1) 0 (L9.length + 1), oref 8 (u6 + 1) 0 (L10.length + 1)]⟩, ⟨1, some (([] : List F).map f32)⟩, ⟨1, some (([] : List F).map f32)⟩, ⟨1, some (([] : List F).map f32)⟩, ⟨(u4 + 1), some ((L8 ++ ([y26] : List F)).map f32)⟩, ⟨(u5 + 1), some ((L9 ++ ([x46] : List F)).map f32)⟩, ⟨(u6 + 1), some ((L10 ++ ([y31] : List F)).map f32)⟩, ⟨(u7 + 3), some (([x46] : List F).map f32)⟩]) siz26<|zN ?_
             refine RAny.done (by kernel_rfl) ?_
             exact ⟨⟨aR, aR, aR, aR, aR, aR, aR, aR, aR, aR, aR, aR, aR, aR, aR, trivial⟩, ⟨⟨rfl, .inr rfl⟩, ⟨rfl, .inr rfl⟩, ⟨rfl, .inr rfl⟩, ⟨rfl, .inr rfl⟩, ⟨rfl, .inr rfl⟩, ⟨rfl, .inr rfl⟩, ⟨rfl, .inr rfl⟩, ⟨rfl, .inr rfl⟩, ⟨rfl, .inr rfl⟩, ⟨rfl, .inr rfl⟩, trivial⟩⟩
            ·refine ye rfl (oref 9 (u7 + 3) 0 1) ([⟨1, some [oref 3 1 0 0, oref 4 1 0 0, oref 5 1 0 0]⟩, ⟨1, some [sl r1.length (r1.map (ik .u8)), i64 r42, ik .u64 r43]⟩, ⟨1, some [oref 6 (u4 + 1) 0 (L8.length + 1), oref 7 u5 0 L9.length, oref 8 (u6 + 1) 0 (L10.length + 1)]⟩, ⟨1, some (([] : List F).map f32)⟩, ⟨1, some (([] : List F).map f32)⟩, ⟨1, some (([] : List F).map f32)⟩, ⟨(u4 + 1), some ((L8 ++ ([y26] : List F)).map f32)⟩, ⟨u5, some (L9.map f32)⟩, ⟨(u6 + 1), some ((L10 ++ ([y31] : List F)).map f32)⟩, ⟨(u7 + 3), some (([x46] : List F).map f32)⟩]) (TOp.buildSlice_o (g := ⟨(u7 + 2), none⟩) (za := f32 (some 0)) (qs := [(0, [f32 x46])]) 9 rfl und26 siz28 zer28 rfl zel28 rfl rfl ⟨rfl, ⟨_, ALe.refl _, rfl⟩, trivial⟩ rfl)<|zN ?_
             refine RAny.more (i0 := 1) (l := []) (by kernel_rfl) (RAnys.cons rfl ?_ RAnys.nil)
             refine yd rfl (oref 7 u5 0 L9.length) (TOp.load1_o rfl rfl agg26 rfl rfl)<|zN ?_
             refine RAny.more (i0 := 8) (l := []) (by kernel_rfl) (RAnys.cons rfl ?_ RAnys.nil)
             refine ROps.app (f := f32) (xs := L9) (ys := ([x46] : List F)) (Γ' := [⟨1, some [oref 3 1 0 0, oref 4 1 0 0, oref 5 1 0 0]⟩, ⟨1, some [sl r1.length (r1.map (ik .u8)), i64 r42, ik .u64 r43]⟩, ⟨1, some [oref 6 (u4 + 1) 0 (L8.length + 1), oref 7 u5 0 L9.length, oref 8 (u6 + 1) 0 (L10.length + 1)]⟩, ⟨1, some (([] : List F).map f32)⟩, ⟨1, some (([] : List F).map f32)⟩, ⟨1, some (([] : List F).map f32)⟩, ⟨(u4 + 1), some ((L8 ++ ([y26] : List F)).map f32)⟩, ⟨(u5 + 1), some ((L9 ++ ([x46] : List F)).map f32)⟩, ⟨(u6 + 1), some ((L10 ++ ([y31] : List F)).map f32)⟩, ⟨(u7 + 3), some (([x46] : List F).map f32)⟩]) rfl pun26 inf28 rfl rfl rfl rfl rfl rfl rfl rfl rfl (by simp) (ReadAs.own rfl (by simp)) (ones_map (fun _ => rfl)) (ap_by hm25) (ap_mx hm25) rfl<|zN ?_
             refine RAny.more (i0 := 9) (l := []) (by kernel_rfl) (RAnys.cons rfl ?_ RAnys.nil)
             refine yl rfl (optr 2 1 1) (LOp.fao und47 rfl siz26 rfl rfl rfl)<|zN ?_
             refine RAny.more (i0 := 10) (l := []) (by kernel_rfl) (RAnys.cons rfl ?_ RAnys.nil)
             refine ys (oref 7 (u5 + 1) 0 (L9.length + 1)) [oref 6 (u4 + 1) 0 (L8.length + 1), oref 7 (u5 + 1) 0 (L9.length + 1), oref 8 (u6 + 1) 0 (L10.length + 1)] ([⟨1, some [oref 3 1 0 0, oref 4 1 0 0, oref 5 1 0 0]⟩, ⟨1, some [sl r1.length (r1.map (ik .u8)), i64 r42, ik .u64 r43]⟩, ⟨1, some [oref 6 (u4 + 1) 0 (L8.length + 1), oref 7 (u5 + 1) 0 (L9.length + 1), oref 8 (u6 + 1) 0 (L10.length + 1)]⟩, ⟨1, some (([] : List F).map f32)⟩, ⟨1, some (([] : List F).map f32)⟩, ⟨1, some (([] : List F).map f32)⟩, ⟨(u4 + 1), some ((L8 ++ ([y26] : List F)).map f32)⟩, ⟨(u5 + 1), some ((L9 ++ ([x46] : List F)).map f32)⟩, ⟨(u6 + 1), some ((L10 ++ ([y31] : List F)).map f32)⟩, ⟨(u7 + 3), some (([x46] : List F).map f32)⟩]) siz26<|zN ?_
             refine RAny.done (by kernel_rfl) ?_
             exact ⟨⟨aR, aR, aR, aR, aR, aR, aR, aR, aR, aR, aR, aR, aR, aR, aR, trivial⟩, ⟨⟨rfl, .inr rfl⟩, ⟨rfl, .inr rfl⟩, ⟨rfl, .inr rfl⟩, ⟨rfl, .inr rfl⟩, ⟨rfl, .inr rfl⟩, ⟨rfl, .inr rfl⟩, ⟨rfl, .inr rfl⟩, ⟨rfl, .inr rfl⟩, ⟨rfl, .inr rfl⟩, ⟨rfl, .inr rfl⟩, trivial⟩⟩
         ·refine yl rfl (f32 x45) (LOp.eqr (LOp.i2f (src := 2) (dst := 28) ⟨_, pun2⟩ pun28 rfl rfl) (congrArg (f .f32) hx23))<|zN ?_
          refine RAny.more (i0 := 0) (l := [6]) (by kernel_rfl) (RAnys.cons rfl ?_ (RAnys.cons rfl ?_ RAnys.nil))
          ·refine yl rfl (optr 2 1 1) (LOp.fao und47 rfl siz26 rfl rfl rfl)<|zN ?_
           refine RAny.more (i0 := 1) (l := [6]) (by kernel_rfl) (RAnys.cons rfl ?_ (RAnys.cons rfl ?_ RAnys.nil))
           ·refine yd rfl (oref 7 u5 0 L9.length) (TOp.load1_o rfl rfl agg26 rfl rfl)<|zN ?_
            refine RAny.more (i0 := 6) (l := []) (by kernel_rfl) (RAnys.cons rfl ?_ RAnys.nil)
            refine yd rfl (f32 x46) (TOp.eqr (TOp.fop (.inr (.inr (.inr rfl))) rfl (OpF.tmp rfl) (OpF.const rfl (by kernel_rfl) (by kernel_rfl))) (congrArg (f .f32) hx24))<|zN ?_
            refine RAny.more (i0 := 7) (l := []) (by kernel_rfl) (RAnys.cons rfl ?_ RAnys.nil)
            refine ye rfl (oref 9 (u7 + 3) 0 1) ([⟨1, some [oref 3 1 0 0, oref 4 1 0 0, oref 5 1 0 0]⟩, ⟨1, some [sl r1.length (r1.map (ik .u8)), i64 r42, ik .u64 r43]⟩, ⟨1, some [oref 6 (u4 + 1) 0 (L8.length + 1), oref 7 u5 0 L9.length, oref 8 (u6 + 1) 0 (L10.length + 1)]⟩, ⟨1, some (([] : List F).map f32)⟩, ⟨1, some (([] : List F).map f32)⟩, ⟨1, some (([] : List F).map f32)⟩, ⟨(u4 + 1), some ((L8 ++ ([y26] : List F)).map f32)⟩, ⟨u5, some (L9.map f32)⟩, ⟨(u6 + 1), some ((L10 ++ ([y31] : List F)).map f32)⟩, ⟨(u7 + 3), some (([x46] : List F).map f32)⟩]) (TOp.buildSlice_o (g := ⟨(u7 + 2), none⟩) (za := f32 (some 0)) (qs := [(0, [f32 x46])]) 9 rfl und26 siz28 zer28 rfl zel28 rfl rfl ⟨rfl, ⟨_, ALe.refl _, rfl⟩, trivial⟩ rfl)<|zN ?_
            refine RAny.more (i0 := 8) (l := []) (by kernel_rfl) (RAnys.cons rfl ?_ RAnys.nil)
            refine ROps.app (f := f32) (xs := L9) (ys := ([x46] : List F)) (Γ' := [⟨1, some [oref 3 1 0 0, oref 4 1 0 0, oref 5 1 0 0]⟩, ⟨1, some [sl r1.length (r1.map (ik .u8)), i64 r42, ik .u64 r43]⟩, ⟨1, some [oref 6 (u4 + 1) 0 (L8.length + 1), oref 7 u5 0 L9.length, oref 8 (u6 + 1) 0 (L10.length + 1)]⟩, ⟨1, some (([] : List F).map f32)⟩, ⟨1, some (([] : List F).map f32)⟩, ⟨1, some (([] : List F).map f32)⟩, ⟨(u4 + 1), some ((L8 ++ ([y26] : List F)).map f32)⟩, ⟨(u5 + 1), some ((L9 ++ ([x46] : List F)).map f32)⟩, ⟨(u6 + 1), some ((L10 ++ ([y31] : List F)).map f32)⟩, ⟨(u7 + 3), some (([x46] : List F).map f32)⟩]) rfl pun26 inf28 rfl rfl rfl rfl rfl rfl rfl rfl rfl (by simp) (ReadAs.own rfl (by simp)) (ones_map (fun _ => rfl)) (ap_by hm25) (ap_mx hm25) rfl<|zN ?_
            refine RAny.more (i0 := 9) (l := []) (by kernel_rfl) (RAnys.cons rfl ?_ RAnys.nil)
            refine yl rfl (optr 2 1 1) (LOp.fao und47 rfl siz26 rfl rfl rfl)<|zN ?_
            refine RAny.more (i0 := 10) (l := []) (by kernel_rfl) (RAnys.cons rfl ?_ RAnys.nil)
            refine ys (oref 7 (u5 + 1) 0 (L9.length + 1)) [oref 6 (u4 + 1) 0 (L8.length + 1), oref 7 (u5 + 1) 0 (L9.length + 1), oref 8 (u6 + 1) 0 (L10.length + 1)] ([⟨1, some [oref 3 1 0 0, oref 4 1 0 0, oref 5 1 0 0]⟩, ⟨1, some [sl r1.length (r1.map (ik .u8)), i64 r42, ik .u64 r43]⟩, ⟨1, some [oref 6 (u4 + 1) 0 (L8.length + 1), oref 7 (u5 + 1) 0 (L9.length + 1), oref 8 (u6 + 1) 0 (L10.length + 1)]⟩, ⟨1, some (([] : List F).map f32)⟩, ⟨1, some (([] : List F).map f32)⟩, ⟨1, some (([] : List F).map f32)⟩, ⟨(u4 + 1), some ((L8 ++ ([y26] : List F)).map f32)⟩, ⟨(u5 + 1), some ((L9 ++ ([x46] : List F)).map f32)⟩, ⟨(u6 + 1), some ((L10 ++ ([y31] : List F)).map f32)⟩, ⟨(u7 + 3), some (([x46] : List F).map f32)⟩]) siz26<|zN ?_
            refine RAny.done (by kernel_rfl) ?_
            exact ⟨⟨aR, aR, aR, aR, aR, aR, aR, aR, aR, aR, aR, aR, aR, aR, aR, trivial⟩, ⟨⟨rfl, .inr rfl⟩, ⟨rfl, .inr rfl⟩, ⟨rfl, .inr rfl⟩, ⟨rfl, .inr rfl⟩, ⟨rfl, .inr rfl⟩, ⟨rfl, .inr rfl⟩, ⟨rfl, .inr rfl⟩, ⟨rfl, .inr rfl⟩, ⟨rfl, .inr rfl⟩, ⟨rfl, .inr rfl⟩, trivial⟩⟩
           ·refine yd rfl (f32 x46) (TOp.eqr (TOp.fop (.inr (.inr (.inr rfl))) rfl (OpF.tmp rfl) (OpF.const rfl (by kernel_rfl) (by kernel_rfl))) (congrArg (f .f32) hx24))<|zN ?_
            refine RAny.more (i0 := 1) (l := [7]) (by kernel_rfl) (RAnys.cons rfl ?_ (RAnys.cons rfl ?_ RAnys.nil))
            ·refine yd rfl (oref 7 u5 0 L9.length) (TOp.load1_o rfl rfl agg26 rfl rfl)<|zN ?_
             refine RAny.more (i0 := 7) (l := []) (by kernel_rfl) (RAnys.cons rfl ?_ RAnys.nil)
             refine ye rfl (oref 9 (u7 + 3) 0 1) ([⟨1, some [oref 3 1 0 0, oref 4 1 0 0, oref 5 1 0 0]⟩, ⟨1, some [sl r1.length (r1.map (ik .u8)), i64 r42, ik .u64 r43]⟩, ⟨1, some [oref 6 (u4 + 1) 0 (L8.length + 1), oref 7 u5 0 L9.length, oref 8 (u6 + 1) 0 (L10.length + 1)]⟩, ⟨1, some (([] : List F).map f32)⟩, ⟨1, some (([] : List F).map f32)⟩, ⟨1, some (([] : List F).map f32)⟩, ⟨(u4 + 1), some ((L8 ++ ([y26] : List F)).map f32)⟩, ⟨u5, some (L9.map f32)⟩, ⟨(u6 + 1), some ((L10 ++ ([y31] : List F)).map f32)⟩, ⟨(u7 + 3), some (([x46] : List F).map f32)⟩]) (TOp.buildSlice_o (g := ⟨(u7 + 2), none⟩) (za := f32 (some 0)) (qs := [(0, [f32 x46])]) 9 rfl und26 siz28 zer28 rfl zel28 rfl rfl ⟨rfl, ⟨_, ALe.refl _, rfl⟩, trivial⟩ rfl)<|zN ?_
             refine RAny.more (i0 := 8) (l := []) (by kernel_rfl) (RAnys.cons rfl ?_ RAnys.nil)
             refine ROps.app (f := f32) (xs := L9) (ys := ([x46] : List F)) (Γ' := [⟨1, some [oref 3 1 0 0, oref 4 1 0 0, oref 5 1 0 0]⟩, ⟨1, some [sl r1.length (r1.map (ik .u8)), i64 r42, ik .u64 r43]⟩, ⟨1, some [oref 6 (u4 + 1) 0 (L8.length + 1), oref 7 u5 0 L9.length, oref 8 (u6 + 1) 0 (L10.length + 1)]⟩, ⟨1, some (([] : List F).map f32)⟩, ⟨1, some (([] : List F).map f32)⟩, ⟨1, some (([] : List F).map f32)⟩, ⟨(u4 + 1), some ((L8 ++ ([y26] : List F)).map f32)⟩, ⟨(u5 + 1), some ((L9 ++ ([x46] : List F)).map f32)⟩, ⟨(u6 + 1), some ((L10 ++ ([y31] : List F)).map f32)⟩, ⟨(u7 + 3), some (([x46] : List F).map f32)⟩]) rfl pun26 inf28 rfl rfl rfl rfl rfl rfl rfl rfl rfl (by simp) (ReadAs.own rfl (by simp)) (ones_map (fun _ => rfl)) (ap_by hm25) (ap_mx hm25) rfl<|zN ?_
             refine RAny.more (i0 := 9) (l := []) (by kernel_rfl) (RAnys.cons rfl ?_ RAnys.nil)
             refine yl rfl (optr 2 1 1) (LOp.fao und47 rfl siz26 rfl rfl rfl)<|zN ?_
             refine RAny.more (i0 := 10) (l := []) (by kernel_rfl) (RAnys.cons rfl ?_ RAnys.nil)
             refine ys (oref 7 (u5 + 1) 0 (L9.length + 1)) [oref 6 (u4 + 1) 0 (L8.length + 1), oref 7 (u5 + 1) 0 (L9.length + 1), oref 8 (u6 + 1) 0 (L10.length + 1)] ([⟨1, some [oref 3 1 0 0, oref 4 1 0 0, oref 5 1 0 0]⟩, ⟨1, some [sl r1.length (r1.map (ik .u8)), i64 r42, ik .u64 r43]⟩, ⟨1, some [oref 6 (u4 + 1) 0 (L8.length + 1), oref 7 (u5 + 1) 0 (L9.length + 1), oref 8 (u6 + 1) 0 (L10.length + 1)]⟩, ⟨1, some (([] : List F).map f32)⟩, ⟨1, some (([] : List F).map f32)⟩, ⟨1, some (([] : List F).map f32)⟩, ⟨(u4 + 1), some ((L8 ++ ([y26] : List F)).map f32)⟩, ⟨(u5 + 1), some ((L9 ++ ([x46] : List F)).map f32)⟩, ⟨(u6 + 1), some ((L10 ++ ([y31] : List F)).map f32)⟩, ⟨(u7 + 3), some (([x46] : List F).map f32)⟩]) siz26<|zN ?_
             refine RAny.done (by kernel_rfl) ?_
             exact ⟨⟨aR, aR, aR, aR, aR, aR, aR, aR, aR, aR, aR, aR, aR, aR, aR, trivial⟩, ⟨⟨rfl, .inr rfl⟩, ⟨rfl, .inr rfl⟩, ⟨rfl, .inr rfl⟩, ⟨rfl, .inr rfl⟩, ⟨rfl, .inr rfl⟩, ⟨rfl, .inr rfl⟩, ⟨rfl, .inr rfl⟩, ⟨rfl, .inr rfl⟩, ⟨rfl, .inr rfl⟩, ⟨rfl, .inr rfl⟩, trivial⟩⟩
            ·refine ye rfl (oref 9 (u7 + 3) 0 1) ([⟨1, some [oref 3 1 0 0, oref 4 1 0 0, oref 5 1 0 0]⟩, ⟨1, some [sl r1.length (r1.map (ik .u8)), i64 r42, ik .u64 r43]⟩, ⟨1, some [oref 6 (u4 + 1) 0 (L8.length + 1), oref 7 u5 0 L9.length, oref 8 (u6 + 1) 0 (L10.length + 1)]⟩, ⟨1, some (([] : List F).map f32)⟩, ⟨1, some (([] : List F).map f32)⟩, ⟨1, some (([] : List F).map f32)⟩, ⟨(u4 + 1), some ((L8 ++ ([y26] : List F)).map f32)⟩, ⟨u5, some (L9.map f32)⟩, ⟨(u6 + 1), some ((L10 ++ ([y31] : List F)).map f32)⟩, ⟨(u7 + 3), some (([x46] : List F).map f32)⟩]) (TOp.buildSlice_o (g := ⟨(u7 + 2), none⟩) (za := f32 (some 0)) (qs := [(0, [f32 x46])]) 9 rfl und26 siz28 zer28 rfl zel28 rfl rfl ⟨rfl, ⟨_, ALe.refl _, rfl⟩, trivial⟩ rfl)<|zN ?_
             refine RAny.more (i0 := 1) (l := []) (by kernel_rfl) (RAnys.cons rfl ?_ RAnys.nil)
             refine yd rfl (oref 7 u5 0 L9.length) (TOp.load1_o rfl rfl agg26 rfl rfl)<|zN ?_
             refine RAny.more (i0 := 8) (l := []) (by kernel_rfl) (RAnys.cons rfl ?_ RAnys.nil)
             refine ROps.app (f := f32) (xs := L9) (ys := ([x46] : List F)) (Γ' := [⟨1, some [oref 3 1 0 0, oref 4 1 0 0, oref 5 1 0 0]⟩, ⟨1, some [sl r1.length (r1.map (ik .u8)), i64 r42, ik .u64 r43]⟩, ⟨1, some [oref 6 (u4 + 1) 0 (L8.length + 1), oref 7 u5 0 L9.length, oref 8 (u6 + 1) 0 (L10.length + 1)]⟩, ⟨1, some (([] : List F).map f32)⟩, ⟨1, some (([] : List F).map f32)⟩, ⟨1, some (([] : List F).map f32)⟩, ⟨(u4 + 1), some ((L8 ++ ([y26] : List F)).map f32)⟩, ⟨(u5 + 1), some ((L9 ++ ([x46] : List F)).map f32)⟩, ⟨(u6 + 1), some ((L10 ++ ([y31] : List F)).map f32)⟩, ⟨(u7 + 3), some (([x46] : List F).map f32)⟩]) rfl pun26 inf28 rfl rfl rfl rfl rfl rfl rfl rfl rfl (by simp) (ReadAs.own rfl (by simp)) (ones_map (fun _ => rfl)) (ap_by hm25) (ap_mx hm25) rfl<|zN ?_
             refine RAny.more (i0 := 9) (l := []) (by kernel_rfl) (RAnys.cons rfl ?_ RAnys.nil)
             refine yl rfl (optr 2 1 1) (LOp.fao und47 rfl siz26 rfl rfl rfl)<|zN ?_
             refine RAny.more (i0 := 10) (l := []) (by kernel_rfl) (RAnys.cons rfl ?_ RAnys.nil)
             refine ys (oref 7 (u5 + 1) 0 (L9.length + 1)) [oref 6 (u4 + 1) 0 (L8.length + 1), oref 7 (u5 + 1) 0 (L9.length + 1), oref 8 (u6 + 1) 0 (L10.length + 1)] ([⟨1, some [oref 3 1 0 0, oref 4 1 0 0, oref 5 1 0 0]⟩, ⟨1, some [sl r1.length (r1.map (ik .u8)), i64 r42, ik .u64 r43]⟩, ⟨1, some [oref 6 (u4 + 1) 0 (L8.length + 1), oref 7 (u5 + 1) 0 (L9.length + 1), oref 8 (u6 + 1) 0 (L10.length + 1)]⟩, ⟨1, some (([] : List F).map f32)⟩, ⟨1, some (([] : List F).map f32)⟩, ⟨1, some (([] : List F).map f32)⟩, ⟨(u4 + 1), some ((L8 ++ ([y26] : List F)).map f32)⟩, ⟨(u5 + 1), some ((L9 ++ ([x46] : List F)).map f32)⟩, ⟨(u6 + 1), some ((L10 ++ ([y31] : List F)).map f32)⟩, ⟨(u7 + 3), some (([x46] : List F).map f32)⟩]) siz26<|zN ?_
             refine RAny.done (by kernel_rfl) ?_
             exact ⟨⟨aR, aR, aR, aR, aR, aR, aR, aR, aR, aR, aR, aR, aR, aR, aR, trivial⟩, ⟨⟨rfl, .inr rfl⟩, ⟨rfl, .inr rfl⟩, ⟨rfl, .inr rfl⟩, ⟨rfl, .inr rfl⟩, ⟨rfl, .inr rfl⟩, ⟨rfl, .inr rfl⟩, ⟨rfl, .inr rfl⟩, ⟨rfl, .inr rfl⟩, ⟨rfl, .inr rfl⟩, ⟨rfl, .inr rfl⟩, trivial⟩⟩
          ·refine yd rfl (f32 x46) (TOp.eqr (TOp.fop (.inr (.inr (.inr rfl))) rfl (OpF.tmp rfl) (OpF.const rfl (by kernel_rfl) (by kernel_rfl))) (congrArg (f .f32) hx24))<|zN ?_
           refine RAny.more (i0 := 0) (l := [7]) (by kernel_rfl) (RAnys.cons rfl ?_ (RAnys.cons rfl ?_ RAnys.nil))
           ·refine yl rfl (optr 2 1 1) (LOp.fao und47 rfl siz26 rfl rfl rfl)<|zN ?_
            refine RAny.more (i0 := 1) (l := [7]) (by kernel_rfl) (RAnys.cons rfl ?_ (RAnys.cons rfl ?_ RAnys.nil))
            ·refine yd rfl (oref 7 u5 0 L9.length) (TOp.load1_o rfl rfl agg26 rfl rfl)<|zN ?_
             refine RAny.more (i0 := 7) (l := []) (by kernel_rfl) (RAnys.cons rfl ?_ RAnys.nil)
             refine ye rfl (oref 9 (u7 + 3) 0 1) ([⟨1, some [oref 3 1 0 0, oref 4 1 0 0, oref 5 1 0 0]⟩, ⟨1, some [sl r1.length (r1.map (ik .u8)), i64 r42, ik .u64 r43]⟩, ⟨1, some [oref 6 (u4 + 1) 0 (L8.length + 1), oref 7 u5 0 L9.length, oref 8 (u6 + 1) 0 (L10.length + 1)]⟩, ⟨1, some (([] : List F).map f32)⟩, ⟨1, some (([] : List F).map f32)⟩, ⟨1, some (([] : List F).map f32)⟩, ⟨(u4 + 1), some ((L8 ++ ([y26] : List F)).map f32)⟩, ⟨u5, some (L9.map f32)⟩, ⟨(u6 + 1), some ((L10 ++ ([y31] : List F)).map f32)⟩, ⟨(u7 + 3), some (([x46] : List F).map f32)⟩]) (TOp.buildSlice_o (g := ⟨(u7 + 2), none⟩) (za := f32 (some 0)) (qs := [(0, [f32 x46])]) 9 rfl und26 siz28 zer28 rfl zel28 rfl rfl ⟨rfl, ⟨_, ALe.refl _, rfl⟩, trivial⟩ rfl)<|zN ?_
             refine RAny.more (i0 := 8) (l := []) (by kernel_rfl) (RAnys.cons rfl ?_ RAnys.nil)
             refine ROps.app (f := f32) (xs := L9) (ys := ([x46] : List F)) (Γ' := [⟨1, some [oref 3 1 0 0, oref 4 1 0 0, oref 5 1 0 0]⟩, ⟨1, some [sl r1.length (r1.map (ik .u8)), i64 r42, ik .u64 r43]⟩, ⟨1, some [oref 6 (u4 + 1) 0 (L8.length + 1), oref 7 u5 0 L9.length, oref 8 (u6 + 1) 0 (L10.length + 1)]⟩, ⟨1, some (([] : List F).map f32)⟩, ⟨1, some (([] : List F).map f32)⟩, ⟨1, some (([] : List F).map f32)⟩, ⟨(u4 + 1), some ((L8 ++ ([y26] : List F)).map f32)⟩, ⟨(u5 + 1), some ((L9 ++ ([x46] : List F)).map f32)⟩, ⟨(u6 + 1), some ((L10 ++ ([y31] : List F)).map f32)⟩, ⟨(u7 + 3), some (([x46] : List F).map f32)⟩]) rfl pun26 inf28 rfl rfl rfl rfl rfl rfl rfl rfl rfl (by simp) (ReadAs.own rfl (by simp)) (ones_map (fun _ => rfl)) (ap_by hm25) (ap_mx hm25) rfl<|zN ?_
             refine RAny.more (i0 := 9) (l := []) (by kernel_rfl) (RAnys.cons rfl ?_ RAnys.nil)
             refine yl rfl (optr 2 1 1) (LOp.fao und47 rfl siz26 rfl rfl rfl)<|zN ?_
             refine RAny.more (i0 := 10) (l := []) (by kernel_rfl) (RAnys.cons rfl ?_ RAnys.nil)
             refine ys (oref 7 (u5 + 1) 0 (L9.length + 1)) [oref 6 (u4 + 1) 0 (L8.length + 1), oref 7 (u5 + 1) 0 (L9.length + 1), oref 8 (u6 + 1) 0 (L10.length + 1)] ([⟨1, some [oref 3 1 0 0, oref 4 1 0 0, oref 5 1 0 0]⟩, ⟨1, some [sl r1.length (r1.map (ik .u8)), i64 r42, ik .u64 r43]⟩, ⟨1, some [oref 6 (u4 + 1) 0 (L8.length + 1), oref 7 (u5 + 1) 0 (L9.length + 1), oref 8 (u6 + 1) 0 (L10.length + 1)]⟩, ⟨1, some (([] : List F).map f32)⟩, ⟨1, some (([] : List F).map f32)⟩, ⟨1, some (([] : List F).map f32)⟩, ⟨(u4 + 1), some ((L8 ++ ([y26] : List F)).map f32)⟩, ⟨(u5 + 1), some ((L9 ++ ([x46] : List F)).map f32)⟩, ⟨(u6 + 1), some ((L10 ++ ([y31] : List F)).map f32)⟩, ⟨(u7 + 3), some (([x46] : List F).map f32)⟩]) siz26<|zN ?_
             refine RAny.done (by kernel_rfl) ?_
             exact ⟨⟨aR, aR, aR, aR, aR, aR, aR, aR, aR, aR, aR, aR, aR, aR, aR, trivial⟩, ⟨⟨rfl, .inr rfl⟩, ⟨rfl, .inr rfl⟩, ⟨rfl, .inr rfl⟩, ⟨rfl, .inr rfl⟩, ⟨rfl, .inr rfl⟩, ⟨rfl, .inr rfl⟩, ⟨rfl, .inr rfl⟩, ⟨rfl, .inr rfl⟩, ⟨rfl, .inr rfl⟩, ⟨rfl, .inr rfl⟩, trivial⟩⟩
            ·refine ye rfl (oref 9 (u7 + 3) 0 1) ([⟨1, some [oref 3 1 0 0, oref 4 1 0 0, oref 5 1 0 0]⟩, ⟨1, some [sl r1.length (r1.map (ik .u8)), i64 r42, ik .u64 r43]⟩, ⟨1, some [oref 6 (u4 + 1) 0 (L8.length + 1), oref 7 u5 0 L9.length, oref 8 (u6 + 1) 0 (L10.length + 1)]⟩, ⟨1, some (([] : List F).map f32)⟩, ⟨1, some (([] : List F).map f32)⟩, ⟨1, some (([] : List F).map f32)⟩, ⟨(u4 + 1), some ((L8 ++ ([y26] : List F)).map f32)⟩, ⟨u5, some (L9.map f32)⟩, ⟨(u6 + 1), some ((L10 ++ ([y31] : List F)).map f32)⟩, ⟨(u7 + 3), some (([x46] : List F).map f32)⟩]) (TOp.buildSlice_o (g := ⟨(u7 + 2), none⟩) (za := f32 (some 0)) (qs := [(0, [f32 x46])]) 9 rfl und26 siz28 zer28 rfl zel28 rfl rfl ⟨rfl, ⟨_, ALe.refl _, rfl⟩, trivial⟩ rfl)<|zN ?_
             refine RAny.more (i0 := 1) (l := []) (by kernel_rfl) (RAnys.cons rfl ?_ RAnys.nil)
             refine yd rfl (oref 7 u5 0 L9.length) (TOp.load1_o rfl rfl agg26 rfl rfl)<|zN ?_
             refine RAny.more (i0 := 8) (l := []) (by kernel_rfl) (RAnys.cons rfl ?_ RAnys.nil)
             refine ROps.app (f := f32) (xs := L9) (ys := ([x46] : List F)) (Γ' := [⟨1, some [oref 3 1 0 0, oref 4 1 0 0, oref 5 1 0 0]⟩, ⟨1, some [sl r1.length (r1.map (ik .u8)), i64 r42, ik .u64 r43]⟩, ⟨1, some [oref 6 (u4 + 1) 0 (L8.length + 1), oref 7 u5 0 L9.length, oref 8 (u6 + 1) 0 (L10.length + 1)]⟩, ⟨1, some (([] : List F).map f32)⟩, ⟨1, some (([] : List F).map f32)⟩, ⟨1, some (([] : List F).map f32)⟩, ⟨(u4 + 1), some ((L8 ++ ([y26] : List F)).map f32)⟩, ⟨(u5 + 1), some ((L9 ++ ([x46] : List F)).map f32)⟩, ⟨(u6 + 1), some ((L10 ++ ([y31] : List F)).map f32)⟩, ⟨(u7 + 3), some (([x46] : List F).map f32)⟩]) rfl pun26 inf28 rfl rfl rfl rfl rfl rfl rfl rfl rfl (by simp) (ReadAs.own rfl (by simp)) (ones_map (fun _ => rfl)) (ap_by hm25) (ap_mx hm25) rfl<|zN ?_
             refine RAny.more (i0 := 9) (l := []) (by kernel_rfl) (RAnys.cons rfl ?_ RAnys.nil)
             refine yl rfl (optr 2 1 1) (LOp.fao und47 rfl siz26 rfl rfl rfl)<|zN ?_
             refine RAny.more (i0 := 10) (l := []) (by kernel_rfl) (RAnys.cons rfl ?_ RAnys.nil)
             refine ys (oref 7 (u5 + 1) 0 (L9.length + 1)) [oref 6 (u4 + 1) 0 (L8.length + 1), oref 7 (u5 + 1) 0 (L9.length + 1), oref 8 (u6 + 1) 0 (L10.length + 1)] ([⟨1, some [oref 3 1 0 0, oref 4 1 0 0, oref 5 1 0 0]⟩, ⟨1, some [sl r1.length (r1.map (ik .u8)), i64 r42, ik .u64 r43]⟩, ⟨1, some [oref 6 (u4 + 1) 0 (L8.length + 1), oref 7 (u5 + 1) 0 (L9.length + 1), oref 8 (u6 + 1) 0 (L10.length + 1)]⟩, ⟨1, some (([] : List F).map f32)⟩, ⟨1, some (([] : List F).map f32)⟩, ⟨1, some (([] : List F).map f32)⟩, ⟨(u4 + 1), some ((L8 ++ ([y26] : List F)).map f32)⟩, ⟨(u5 + 1), some ((L9 ++ ([x46] : List F)).map f32)⟩, ⟨(u6 + 1), some ((L10 ++ ([y31] : List F)).map f32)⟩, ⟨(u7 + 3), some (([x46] : List F).map f32)⟩]) siz26<|zN ?_
             refine RAny.done (by kernel_rfl) ?_
             exact ⟨⟨aR, aR, aR, aR, aR, aR, aR, aR, aR, aR, aR, aR, aR, aR, aR, trivial⟩, ⟨⟨rfl, .inr rfl⟩, ⟨rfl, .inr rfl⟩, ⟨rfl, .inr rfl⟩, ⟨rfl, .inr rfl⟩, ⟨rfl, .inr rfl⟩, ⟨rfl, .inr rfl⟩, ⟨rfl, .inr rfl⟩, ⟨rfl, .inr rfl⟩, ⟨rfl, .inr rfl⟩, ⟨rfl, .inr rfl⟩, trivial⟩⟩
           ·refine ye rfl (oref 9 (u7 + 3) 0 1) ([⟨1, some [oref 3 1 0 0, oref 4 1 0 0, oref 5 1 0 0]⟩, ⟨1, some [sl r1.length (r1.map (ik .u8)), i64 r42, ik .u64 r43]⟩, ⟨1, some [oref 6 (u4 + 1) 0 (L8.length + 1), oref 7 u5 0 L9.length, oref 8 (u6 + 1) 0 (L10.length + 1)]⟩, ⟨1, some (([] : List F).map f32)⟩, ⟨1, some (([] : List F).map f32)⟩, ⟨1, some (([] : List F).map f32)⟩, ⟨(u4 + 1), some ((L8 ++ ([y26] : List F)).map f32)⟩, ⟨u5, some (L9.map f32)⟩, ⟨(u6 + 1), some ((L10 ++ ([y31] : List F)).map f32)⟩, ⟨(u7 + 3), some (([x46] : List F).map f32)⟩]) (TOp.buildSlice_o (g := ⟨(u7 + 2), none⟩) (za := f32 (some 0)) (qs := [(0, [f32 x46])]) 9 rfl und26 siz28 zer28 rfl zel28 rfl rfl ⟨rfl, ⟨_, ALe.refl _, rfl⟩, trivial⟩ rfl)<|zN ?_
            refine RAny.more (i0 := 0) (l := []) (by kernel_rfl) (RAnys.cons rfl ?_ RAnys.nil)
            refine yl rfl (optr 2 1 1) (LOp.fao und47 rfl siz26 rfl rfl rfl)<|zN ?_
            refine RAny.more (i0 := 1) (l := []) (by kernel_rfl) (RAnys.cons rfl ?_ RAnys.nil)
            refine yd rfl (oref 7 u5 0 L9.length) (TOp.load1_o rfl rfl agg26 rfl rfl)<|zN ?_
            refine RAny.more (i0 := 8) (l := []) (by kernel_rfl) (RAnys.cons rfl ?_ RAnys.nil)
            refine ROps.app (f := f32) (xs := L9) (ys := ([x46] : List F)) (Γ' := [⟨1, some [oref 3 1 0 0, oref 4 1 0 0, oref 5 1 0 0]⟩, ⟨1, some [sl r1.length (r1.map (ik .u8)), i64 r42, ik .u64 r43]⟩, ⟨1, some [oref 6 (u4 + 1) 0 (L8.length + 1), oref 7 u5 0 L9.length, oref 8 (u6 + 1) 0 (L10.length + 1)]⟩, ⟨1, some (([] : List F).map f32)⟩, ⟨1, some (([] : List F).map f32)⟩, ⟨1, some (([] : List F).map f32)⟩, ⟨(u4 + 1), some ((L8 ++ ([y26] : List F)).map f32)⟩, ⟨(u5 + 1), some ((L9 ++ ([x46] : List F)).map f32)⟩, ⟨(u6 + 1), some ((L10 ++ ([y31] : List F)).map f32)⟩, ⟨(u7 + 3), some (([x46] : List F).map f32)⟩]) rfl pun26 inf28 rfl rfl rfl rfl rfl rfl rfl rfl rfl (by simp) (ReadAs.own rfl (by simp)) (ones_map (fun _ => rfl)) (ap_by hm25) (ap_mx hm25) rfl<|zN ?_
            refine RAny.more (i0 := 9) (l := []) (by kernel_rfl) (RAnys.cons rfl ?_ RAnys.nil)
            refine yl rfl (optr 2 1 1) (LOp.fao und47 rfl siz26 rfl rfl rfl)<|zN ?_
            refine RAny.more (i0 := 10) (l := []) (by kernel_rfl) (RAnys.cons rfl ?_ RAnys.nil)
            refine ys (oref 7 (u5 + 1) 0 (L9.length + 1)) [oref 6 (u4 + 1) 0 (L8.length + 1), oref 7 (u5 + 1) 0 (L9.length + 1), oref 8 (u6 + 1) 0 (L10.length + 1)] ([⟨1, some [oref 3 1 0 0, oref 4 1 0 0, oref 5 1 0 0]⟩, ⟨1, some [sl r1.length (r1.map (ik .u8)), i64 r42, ik .u64 r43]⟩, ⟨1, some [oref 6 (u4 + 1) 0 (L8.length + 1), oref 7 (u5 + 1) 0 (L9.length + 1), oref 8 (u6 + 1) 0 (L10.length + 1)]⟩, ⟨1, some (([] : List F).map f32)⟩, ⟨1, some (([] : List F).map f32)⟩, ⟨1, some (([] : List F).map f32)⟩, ⟨(u4 + 1), some ((L8 ++ ([y26] : List F)).map f32)⟩, ⟨(u5 + 1), some ((L9 ++ ([x46] : List F)).map f32)⟩, ⟨(u6 + 1), some ((L10 ++ ([y31] : List F)).map f32)⟩, ⟨(u7 + 3), some (([x46] : List F).map f32)⟩]) siz26<|zN ?_
            refine RAny.done (by kernel_rfl) ?_
            exact ⟨⟨aR, aR, aR, aR, aR, aR, aR, aR, aR, aR, aR, aR, aR, aR, aR, trivial⟩, ⟨⟨rfl, .inr rfl⟩, ⟨rfl, .inr rfl⟩, ⟨rfl, .inr rfl⟩, ⟨rfl, .inr rfl⟩, ⟨rfl, .inr rfl⟩, ⟨rfl, .inr rfl⟩, ⟨rfl, .inr rfl⟩, ⟨rfl, .inr rfl⟩, ⟨rfl, .inr rfl⟩, ⟨rfl, .inr rfl⟩, trivial⟩⟩
     ·rintro τ9 Γ9 ⟨hw9, hd9⟩
      refine RunC.wl hw9 hd9<|RunC.wl (τ' := [(1, i64 a1), (4, optr 0 1 0), (5, optr 1 1 0), (6, optr 2 1 0), (7, i64 v13)]) (Γ' := [⟨1, some [oref 3 1 0 0, oref 4 1 0 0, oref 5 1 0 0]⟩, ⟨1, some [sl r1.length (r1.map (ik .u8)), i64 r42, ik .u64 r43]⟩, ⟨1, some [oref 6 (u4 + 1) 0 (L8.length + 1), oref 7 (u5 + 1) 0 (L9.length + 1), oref 8 (u6 + 1) 0 (L10.length + 1)]⟩, ⟨1, some (([] : List F).map f32)⟩, ⟨1, some (([] : List F).map f32)⟩, ⟨1, some (([] : List F).map f32)⟩, ⟨(u4 + 1), some ((L8 ++ ([y26] : List F)).map f32)⟩, ⟨(u5 + 1), some ((L9 ++ ([x46] : List F)).map f32)⟩, ⟨(u6 + 1), some ((L10 ++ ([y31] : List F)).map f32)⟩, ⟨(u7 + 3), none⟩]) ⟨aR, aR, aR, aR, aR, trivial⟩ ⟨⟨rfl, .inr rfl⟩, ⟨rfl, .inr rfl⟩, ⟨rfl, .inr rfl⟩, ⟨rfl, .inr rfl⟩, ⟨rfl, .inr rfl⟩, ⟨rfl, .inr rfl⟩, ⟨rfl, .inr rfl⟩, ⟨rfl, .inr rfl⟩, ⟨rfl, .inr rfl⟩, ⟨rfl, .inl rfl⟩, trivial⟩ ?_
      obtain ⟨x47, hx26, h6_⟩ := oL h6_
      refine yW<|ym rfl (i64 v13)<|yl rfl (i64 x47) (LOp.eqr (LOp.add rfl rfl rfl) (congrArg (ik .i64) hx26))<|ya rfl (i64 x47)<|zN ?_
      cases oI h6_
      exact ⟨_, rfl, (u4 + 1), (u5 + 1), (u6 + 1), (u7 + 3), ⟨aR, aR, aR, aR, aR, trivial⟩, ⟨⟨rfl, .inr rfl⟩, ⟨rfl, .inr rfl⟩, ⟨rfl, .inr (by first | rfl | simp)⟩, ⟨rfl, .inr rfl⟩, ⟨rfl, .inr rfl⟩, ⟨rfl, .inr rfl⟩, ⟨rfl, .inr rfl⟩, ⟨rfl, .inr rfl⟩, ⟨rfl, .inr rfl⟩, ⟨rfl, .inl rfl⟩, trivial⟩⟩
  ·refine yW<|ym rfl (i64 v13)<|ym rfl (i64 a1)<|yl rfl (b false) (LOp.eqb (LOp.lss rfl rfl rfl) hc2)<|zN ?_
   refine yF<|RunC.exit ?_
   cases oI h6_
   have hx := ho6 _ rfl
   exact ⟨L8, L9, L10, u4, u5, u6, u7, rfl, rfl, rfl, ⟨aR, aR, trivial⟩, ⟨⟨rfl, .inr rfl⟩, ⟨rfl, .inl rfl⟩, ⟨rfl, .inr (by first | rfl | simp)⟩, ⟨rfl, .inr rfl⟩, ⟨rfl, .inr rfl⟩, ⟨rfl, .inr rfl⟩, ⟨rfl, .inr rfl⟩, ⟨rfl, .inr rfl⟩, ⟨rfl, .inr rfl⟩, ⟨rfl, .inl rfl⟩, trivial⟩, hx⟩
 ·rintro τ10 Γ10 ⟨L55, L56, L57, u48, u49, u50, u51, hl52, hl53, hl54, hw10, hd10, rfl⟩
  refine RunC.wl hw10 hd10 ?_
  replace h : s_B10Thirds_k5 L55 L56 L57 = some (q0, q1, q2) := h
  unfold s_B10Thirds_k5 at h
  refine zQ<|yd rfl (agg [oref 6 u48 0 L55.length, oref 7 u49 0 L56.length, oref 8 u50 0 L57.length]) (TOp.loadAgg_o rfl agg47 siz47 rfl rfl rfl rfl)<|ys (agg [oref 6 u48 0 L55.length, oref 7 u49 0 L56.length, oref 8 u50 0 L57.length]) [oref 6 u48 0 L55.length, oref 7 u49 0 L56.length, oref 8 u50 0 L57.length] ([⟨1, some [oref 6 u48 0 L55.length, oref 7 u49 0 L56.length, oref 8 u50 0 L57.length]⟩, ⟨1, none⟩, ⟨1, some [oref 6 u48 0 L55.length, oref 7 u49 0 L56.length, oref 8 u50 0 L57.length]⟩, ⟨1, some (([] : List F).map f32)⟩, ⟨1, some (([] : List F).map f32)⟩, ⟨1, some (([] : List F).map f32)⟩, ⟨u48, some (L55.map f32)⟩, ⟨u49, some (L56.map f32)⟩, ⟨u50, some (L57.map f32)⟩, ⟨u51, none⟩]) siz47<|zN ?_
  refine RunC.ret ?_
  have hq := oI h
  obtain ⟨hq0, hq⟩ := Prod.mk.inj hq
  obtain ⟨hq1, hq⟩ := Prod.mk.inj hq
  subst q0
  subst q1
  subst q2
  exact bodyQ.mk (r' := agg [oref 6 u48 0 L55.length, oref 7 u49 0 L56.length, oref 8 u50 0 L57.length]) [(6, u48), (7, u49), (8, u50)] (.inr rfl) rfl (show List.Nodup [6, 7, 8] from by decide) (by simp [ren, rens, sigma]) rfl (Res.one rfl (RV.cell agg47 siz47 rfl rfl rfl rfl)) (SelL.arr0 (f := f32) (fun _ => rfl) rfl (SelL.arr0 (f := f32) (fun _ => rfl) rfl (SelL.arr0 (f := f32) (fun _ => rfl) rfl trivial)))
def i_ValidThirds (a0 : List F) (a1 : List F) (a2 : List F) : Option (Bool) :=
 obind (i_isList a1 32) fun (r1 : Bool) =>
 bsel r1 (
  bsel (decide ((a0.length : Int) = (a1.length : Int))) (
   bsel (decide ((a2.length : Int) = (a1.length : Int))) (
    obind (i_areFinite a0) fun (r2 : Bool) =>
    bsel r2 (
     obind (i_areFinite a2) fun (r3 : Bool) =>
     bsel r3 (
      obind (at? a0 0) fun (e4 : F) =>
      bsel (feq .f32 e4 (some 0)) (
       olet (IntKind.i64.wrap ((a1.length : Int) - 1)) fun (x5 : Int) =>
       obind (at? a2 x5) fun (e6 : F) =>
       some (feq .f32 e6 (some 0))) (
       some false)) (
      some false)) (
     some false)) (
    some false)) (
   some false)) (
  some false)
theorem i_ValidThirds_ok (a0 : List F) (a1 : List F) (a2 : List F) (q0 : Bool) (h : i_ValidThirds a0 a1 a2 = some q0) : Ev Try.prog 28 [agg [(sFc a0), (sFc a1), (sFc a2)]] [] (b q0) [] := by
 refine yE Try.func28 0 101 0 ([(0, agg [(sFc a0), (sFc a1), (sFc a2)])]) [] rfl ?_
 unfold i_ValidThirds at h
 refine zQ<|yd rfl (ptr [(sFc a0), (sFc a1), (sFc a2)]) (TOp.box_s rfl rfl rfl)<|ya rfl (b false)<|zN ?_
 refine zQ<|yl rfl (ptr [(sFc a1), (sFc a2)]) (LOp.fap und47 rfl siz26 rfl rfl rfl)<|yl rfl (sFc a1) (y2 agg26)<|yl rfl (i64 (a1.length : Int)) (LOp.len_sl und26 rfl rfl)<|ya rfl (i64 (a1.length : Int))<|zN ?_
 refine yS ?_
 obtain ⟨r1, hf1, h⟩ := oS h
 rcases oB h with ⟨hc2, h⟩ | ⟨hc2, h⟩
 ·rcases oB h with ⟨hc3, h⟩ | ⟨hc3, h⟩
  ·rcases oB h with ⟨hc4, h⟩ | ⟨hc4, h⟩
   ·obtain ⟨r2, hf5, h⟩ := oS h
    rcases oB h with ⟨hc6, h⟩ | ⟨hc6, h⟩
    ·obtain ⟨r3, hf7, h⟩ := oS h
     rcases oB h with ⟨hc8, h⟩ | ⟨hc8, h⟩
     ·obtain ⟨e4, he9, h⟩ := oS h
      rcases oB h with ⟨hc10, h⟩ | ⟨hc10, h⟩
      ·obtain ⟨x5, hx11, h⟩ := oL h
       obtain ⟨e6, he12, h⟩ := oS h
       refine yW<|yl rfl (ptr [(sFc a1), (sFc a2)]) (LOp.fap und47 rfl siz26 rfl rfl rfl)<|yl rfl (sFc a1) (y2 agg26)<|yd rfl (b true) (TOp.eqb (yc ent63 rfl rfl (bS bN0) (i_isList_ok a1 32 r1 hf1)) hc2)<|ym rfl (b true)<|yl rfl (ptr [(sFc a0), (sFc a1), (sFc a2)]) (LOp.fap und47 rfl siz26 rfl rfl rfl)<|yl rfl (sFc a0) (y2 agg26)<|yl rfl (i64 (a0.length : Int)) (LOp.len_sl und26 rfl rfl)<|ym rfl (i64 (a1.length : Int))<|yl rfl (b true) (LOp.eqb (LOp.eql rfl rfl rfl) hc3)<|yl rfl (b true) yq<|ym rfl (b true)<|yl rfl (ptr [(sFc a2)]) (LOp.fap und47 rfl siz26 rfl rfl rfl)<|yl rfl (sFc a2) (y2 agg26)<|yl rfl (i64 (a2.length : Int)) (LOp.len_sl und26 rfl rfl)<|ym rfl (i64 (a1.length : Int))<|yl rfl (b true) (LOp.eqb (LOp.eql rfl rfl rfl) hc4)<|yl rfl (b true) yq<|ym rfl (b true)<|yl rfl (ptr [(sFc a0), (sFc a1), (sFc a2)]) (LOp.fap und47 rfl siz26 rfl rfl rfl)<|yl rfl (sFc a0) (y2 agg26)<|yd rfl (b true) (TOp.eqb (yc ent74 rfl rfl (bS bN) (i_areFinite_ok a0 r2 hf5)) hc6)<|yl rfl (b true) yq<|ym rfl (b true)<|yl rfl (ptr [(sFc a2)]) (LOp.fap und47 rfl siz26 rfl rfl rfl)<|yl rfl (sFc a2) (y2 agg26)<|yd rfl (b true) (TOp.eqb (yc ent74 rfl rfl (bS bN) (i_areFinite_ok a2 r3 hf7)) hc8)<|yl rfl (b true) yq<|ym rfl (b true)<|yl rfl (ptr [(sFc a0), (sFc a1), (sFc a2)]) (LOp.fap und47 rfl siz26 rfl rfl rfl)<|yl rfl (sFc a0) (y2 agg26)<|yl rfl (ptr [f32 e4]) (LOp.le (LOp.ix (f := f32) und26 siz28 rfl rfl rfl rfl he9) ALe.ptr)<|yl rfl (f32 e4) (y2 agg28)<|yl rfl (b true) (LOp.eqb (LOp.feq rfl (OpF.tmp rfl) (OpF.const rfl (by kernel_rfl) (by kernel_rfl))) hc10)<|yl rfl (b true) yq<|ym rfl (b true)<|yl rfl (ptr [(sFc a2)]) (LOp.fap und47 rfl siz26 rfl rfl rfl)<|yl rfl (sFc a2) (y2 agg26)<|ym rfl (i64 (a1.length : Int))<|yl rfl (i64 x5) (LOp.eqr (LOp.sub rfl rfl rfl) (congrArg (ik .i64) hx11))<|yl rfl (ptr [f32 e6]) (LOp.le (LOp.ix (f := f32) und26 siz28 rfl rfl rfl rfl he12) ALe.ptr)<|yl rfl (f32 e6) (y2 agg28)<|yl rfl (b (feq .f32 e6 (some 0))) (LOp.feq rfl (OpF.tmp rfl) (OpF.const rfl (by kernel_rfl) (by kernel_rfl)))<|yl rfl (b (feq .f32 e6 (some 0))) yq<|ya rfl (b (feq .f32 e6 (some 0)))<|zN ?_
       refine RunC.ret ?_
       have hq := oI h
       subst q0
       exact bodyQ.pure (.inr rfl) rfl (Res.one rfl (RV.tmp rfl))
      ·refine yW<|yl rfl (ptr [(sFc a1), (sFc a2)]) (LOp.fap und47 rfl siz26 rfl rfl rfl)<|yl rfl (sFc a1) (y2 agg26)<|yd rfl (b true) (TOp.eqb (yc ent63 rfl rfl (bS bN0) (i_isList_ok a1 32 r1 hf1)) hc2)<|ym rfl (b true)<|yl rfl (ptr [(sFc a0), (sFc a1), (sFc a2)]) (LOp.fap und47 rfl siz26 rfl rfl rfl)<|yl rfl (sFc a0) (y2 agg26)<|yl rfl (i64 (a0.length : Int)) (LOp.len_sl und26 rfl rfl)<|ym rfl (i64 (a1.length : Int))<|yl rfl (b true) (LOp.eqb (LOp.eql rfl rfl rfl) hc3)<|yl rfl (b true) yq<|ym rfl (b true)<|yl rfl (ptr [(sFc a2)]) (LOp.fap und47 rfl siz26 rfl rfl rfl)<|yl rfl (sFc a2) (y2 agg26)<|yl rfl (i64 (a2.length : Int)) (LOp.len_sl und26 rfl rfl)<|ym rfl (i64 (a1.length : Int))<|yl rfl (b true) (LOp.eqb (LOp.eql rfl rfl rfl) hc4)<|yl rfl (b true) yq<|ym rfl (b true)<|yl rfl (ptr [(sFc a0), (sFc a1), (sFc a2)]) (LOp.fap und47 rfl siz26 rfl rfl rfl)<|yl rfl (sFc a0) (y2 agg26)<|yd rfl (b true) (TOp.eqb (yc ent74 rfl rfl (bS bN) (i_areFinite_ok a0 r2 hf5)) hc6)<|yl rfl (b true) yq<|ym rfl (b true)<|yl rfl (ptr [(sFc a2)]) (LOp.fap und47 rfl siz26 rfl rfl rfl)<|yl rfl (sFc a2) (y2 agg26)<|yd rfl (b true) (TOp.eqb (yc ent74 rfl rfl (bS bN) (i_areFinite_ok a2 r3 hf7)) hc8)<|yl rfl (b true) yq<|ym rfl (b true)<|yl rfl (ptr [(sFc a0), (sFc a1), (sFc a2)]) (LOp.fap und47 rfl siz26 rfl rfl rfl)<|yl rfl (sFc a0) (y2 agg26)<|yl rfl (ptr [f32 e4]) (LOp.le (LOp.ix (f := f32) und26 siz28 rfl rfl rfl rfl he9) ALe.ptr)<|yl rfl (f32 e4) (y2 agg28)<|yl rfl (b false) (LOp.eqb (LOp.feq rfl (OpF.tmp rfl) (OpF.const rfl (by kernel_rfl) (by kernel_rfl))) hc10)<|yl rfl (b false) yq<|ym rfl (b false)<|ROps.s rfl rfl rfl<|ROps.s rfl rfl rfl<|ROps.s rfl rfl rfl<|ROps.s rfl rfl rfl<|ROps.s rfl rfl rfl<|ROps.s rfl rfl rfl<|ROps.s rfl rfl rfl<|yl rfl (b false) yp<|ya rfl (b false)<|zN ?_
       refine RunC.ret ?_
       have hq := oI h
       subst q0
       exact bodyQ.pure (.inr rfl) rfl (Res.one rfl (RV.tmp rfl))
     ·refine yW<|yl rfl (ptr [(sFc a1), (sFc a2)]) (LOp.fap und47 rfl siz26 rfl rfl rfl)<|yl rfl (sFc a1) (y2 agg26)<|yd rfl (b true) (TOp.eqb (yc ent63 rfl rfl (bS bN0) (i_isList_ok a1 32 r1 hf1)) hc2)<|ym rfl (b true)<|yl rfl (ptr [(sFc a0), (sFc a1), (sFc a2)]) (LOp.fap und47 rfl siz26 rfl rfl rfl)<|yl rfl (sFc a0) (y2 agg26)<|yl rfl (i64 (a0.length : Int)) (LOp.len_sl und26 rfl rfl)<|ym rfl (i64 (a1.length : Int))<|yl rfl (b true) (LOp.eqb (LOp.eql rfl rfl rfl) hc3)<|yl rfl (b true) yq<|ym rfl (b true)<|yl rfl (ptr [(sFc a2)]) (LOp.fap und47 rfl siz26 rfl rfl rfl)<|yl rfl (sFc a2) (y2 agg26)<|yl rfl (i64 (a2.length : Int)) (LOp.len_sl und26 rfl rfl)<|ym rfl (i64 (a1.length : Int))<|yl rfl (b true) (LOp.eqb (LOp.eql rfl rfl rfl) hc4)<|yl rfl (b true) yq<|ym rfl (b true)<|yl rfl (ptr [(sFc a0), (sFc a1), (sFc a2)]) (LOp.fap und47 rfl siz26 rfl rfl rfl)<|yl rfl (sFc a0) (y2 agg26)<|yd rfl (b true) (TOp.eqb (yc ent74 rfl rfl (bS bN) (i_areFinite_ok a0 r2 hf5)) hc6)<|yl rfl (b true) yq<|ym rfl (b true)<|yl rfl (ptr [(sFc a2)]) (LOp.fap und47 rfl siz26 rfl rfl rfl)<|yl rfl (sFc a2) (y2 agg26)<|yd rfl (b false) (TOp.eqb (yc ent74 rfl rfl (bS bN) (i_areFinite_ok a2 r3 hf7)) hc8)<|yl rfl (b false) yq<|ym rfl (b false)<|ROps.s rfl rfl rfl<|ROps.s rfl rfl rfl<|ROps.s rfl rfl rfl<|ROps.s rfl rfl rfl<|ROps.s rfl rfl rfl<|yl rfl (b false) yp<|ym rfl (b false)<|ROps.s rfl rfl rfl<|ROps.s rfl rfl rfl<|ROps.s rfl rfl rfl<|ROps.s rfl rfl rfl<|ROps.s rfl rfl rfl<|ROps.s rfl rfl rfl<|ROps.s rfl rfl rfl<|yl rfl (b false) yp<|ya rfl (b false)<|zN ?_
      refine RunC.ret ?_
      have hq := oI h
      subst q0
      exact bodyQ.pure (.inr rfl) rfl (Res.one rfl (RV.tmp rfl))
    ·refine yW<|yl rfl (ptr [(sFc a1), (sFc a2)]) (LOp.fap und47 rfl siz26 rfl rfl rfl)<|yl rfl (sFc a1) (y2 agg26)<|yd rfl (b true) (TOp.eqb (yc ent63 rfl rfl (bS bN0) (i_isList_ok a1 32 r1 hf1)) hc2)<|ym rfl (b true)<|yl rfl (ptr [(sFc a0), (sFc a1), (sFc a2)]) (LOp.fap und47 rfl siz26 rfl rfl rfl)<|yl rfl (sFc a0) (y2 agg26)<|yl rfl (i64 (a0.length : Int)) (LOp.len_sl und26 rfl rfl)<|ym rfl (i64 (a1.length : Int))<|yl rfl (b true) (LOp.eqb (LOp.eql rfl rfl rfl) hc3)<|yl rfl (b true) yq<|ym rfl (b true)<|yl rfl (ptr [(sFc a2)]) (LOp.fap und47 rfl siz26 rfl rfl rfl)<|yl rfl (sFc a2) (y2 agg26)<|yl rfl (i64 (a2.length : Int)) (LOp.len_sl und26 rfl rfl)<|ym rfl (i64 (a1.length : Int))<|yl rfl (b true) (LOp.eqb (LOp.eql rfl rfl rfl) hc4)<|yl rfl (b true) yq<|ym rfl (b true)<|yl rfl (ptr [(sFc a0), (sFc a1), (sFc a2)]) (LOp.fap und47 rfl siz26 rfl rfl rfl)<|yl rfl (sFc a0) (y2 agg26)<|yd rfl (b false) (TOp.eqb (yc ent74 rfl rfl (bS bN) (i_areFinite_ok a0 r2 hf5)) hc6)<|yl rfl (b false) yq<|ym rfl (b false)<|ROps.s rfl rfl rfl<|ROps.s rfl rfl rfl<|ROps.s rfl rfl rfl<|yl rfl (b false) yp<|ym rfl (b false)<|ROps.s rfl rfl rfl<|ROps.s rfl rfl rfl<|ROps.s rfl rfl rfl<|ROps.s rfl rfl rfl<|ROps.s rfl rfl rfl<|yl rfl (b false) yp<|ym rfl (b false)<|ROps.s rfl rfl rfl<|ROps.s rfl rfl rfl<|ROps.s rfl rfl rfl<|ROps.s rfl rfl rfl<|ROps.s rfl rfl rfl<|ROps.s rfl rfl rfl<|ROps.s rfl rfl rfl<|yl rfl (b false) yp<|ya rfl (b false)<|zN ?_
     refine RunC.ret ?_
     have hq := oI h
     subst q0
     exact bodyQ.pure (.inr rfl) rfl (Res.one rfl (RV.tmp rfl))
   ·refine yW<|yl rfl (ptr [(sFc a1), (sFc a2)]) (LOp.fap und47 rfl siz26 rfl rfl rfl)<|yl rfl (sFc a1) (y2 agg26)<|yd rfl (b true) (TOp.eqb (yc ent63 rfl rfl (bS bN0) (i_isList_ok a1 32 r1 hf1)) hc2)<|ym rfl (b true)<|yl rfl (ptr [(sFc a0), (sFc a1), (sFc a2)]) (LOp.fap und47 rfl siz26 rfl rfl rfl)<|yl rfl (sFc a0) (y2 agg26)<|yl rfl (i64 (a0.length : Int)) (LOp.len_sl und26 rfl rfl)<|ym rfl (i64 (a1.length : Int))<|yl rfl (b true) (LOp.eqb (LOp.eql rfl rfl rfl) hc3)<|yl rfl (b true) yq<|ym rfl (b true)<|yl rfl (ptr [(sFc a2)]) (LOp.fap und47 rfl siz26 rfl rfl rfl)<|yl rfl (sFc a2) (y2 agg26)<|yl rfl (i64 (a2.length : Int)) (LOp.len_sl und26 rfl rfl)<|ym rfl (i64 (a1.length : Int))<|yl rfl (b false) (LOp.eqb (LOp.eql rfl rfl rfl) hc4)<|yl rfl (b false) yq<|ym rfl (b false)<|ROps.s rfl rfl rfl<|ROps.s rfl rfl rfl<|ROps.s rfl rfl rfl<|yl rfl (b false) yp<|ym rfl (b false)<|ROps.s rfl rfl rfl<|ROps.s rfl rfl rfl<|ROps.s rfl rfl rfl<|yl rfl (b false) yp<|ym rfl (b false)<|ROps.s rfl rfl rfl<|ROps.s rfl rfl rfl<|ROps.s rfl rfl rfl<|ROps.s rfl rfl rfl<|ROps.s rfl rfl rfl<|yl rfl (b false) yp<|ym rfl (b false)<|ROps.s rfl rfl rfl<|ROps.s rfl rfl rfl<|ROps.s rfl rfl rfl<|ROps.s rfl rfl rfl<|ROps.s rfl rfl rfl<|ROps.s rfl rfl rfl<|ROps.s rfl rfl rfl<|yl rfl (b false) yp<|ya rfl (b false)<|zN ?_
    refine RunC.ret ?_
    have hq := oI h
    subst q0
    exact bodyQ.pure (.inr rfl) rfl (Res.one rfl (RV.tmp rfl))
  ·refine yW<|yl rfl (ptr [(sFc a1), (sFc a2)]) (LOp.fap und47 rfl siz26 rfl rfl rfl)<|yl rfl (sFc a1) (y2 agg26)<|yd rfl (b true) (TOp.eqb (yc ent63 rfl rfl (bS bN0) (i_isList_ok a1 32 r1 hf1)) hc2)<|ym rfl (b true)<|yl rfl (ptr [(sFc a0), (sFc a1), (sFc a2)]) (LOp.fap und47 rfl siz26 rfl rfl rfl)<|yl rfl (sFc a0) (y2 agg26)<|yl rfl (i64 (a0.length : Int)) (LOp.len_sl und26 rfl rfl)<|ym rfl (i64 (a1.length : Int))<|yl rfl (b false) (LOp.eqb (LOp.eql rfl rfl rfl) hc3)<|yl rfl (b false) yq<|ym rfl (b false)<|ROps.s rfl rfl rfl<|ROps.s rfl rfl rfl<|ROps.s rfl rfl rfl<|ROps.s rfl rfl rfl<|ROps.s rfl rfl rfl<|yl rfl (b false) yp<|ym rfl (b false)<|ROps.s rfl rfl rfl<|ROps.s rfl rfl rfl<|ROps.s rfl rfl rfl<|yl rfl (b false) yp<|ym rfl (b false)<|ROps.s rfl rfl rfl<|ROps.s rfl rfl rfl<|ROps.s rfl rfl rfl<|yl rfl (b false) yp<|ym rfl (b false)<|ROps.s rfl rfl rfl<|ROps.s rfl rfl rfl<|ROps.s rfl rfl rfl<|ROps.s rfl rfl rfl<|ROps.s rfl rfl rfl<|yl rfl (b false) yp<|ym rfl (b false)<|ROps.s rfl rfl rfl<|ROps.s rfl rfl rfl<|ROps.s rfl rfl rfl<|ROps.s rfl rfl rfl<|ROps.s rfl rfl rfl<|ROps.s rfl rfl rfl<|ROps.s rfl rfl rfl<|yl rfl (b false) yp<|ya rfl (b false)<|zN ?_
   refine RunC.ret ?_
   have hq := oI h
   subst q0
   exact bodyQ.pure (.inr rfl) rfl (Res.one rfl (RV.tmp rfl))
 ·refine yW<|yl rfl (ptr [(sFc a1), (sFc a2)]) (LOp.fap und47 rfl siz26 rfl rfl rfl)<|yl rfl (sFc a1) (y2 agg26)<|yd rfl (b false) (TOp.eqb (yc ent63 rfl rfl (bS bN0) (i_isList_ok a1 32 r1 hf1)) hc2)<|ym rfl (b false)<|ROps.s rfl rfl rfl<|ROps.s rfl rfl rfl<|ROps.s rfl rfl rfl<|ROps.s rfl rfl rfl<|ROps.s rfl rfl rfl<|yl rfl (b false) yp<|ym rfl (b false)<|ROps.s rfl rfl rfl<|ROps.s rfl rfl rfl<|ROps.s rfl rfl rfl<|ROps.s rfl rfl rfl<|ROps.s rfl rfl rfl<|yl rfl (b false) yp<|ym rfl (b false)<|ROps.s rfl rfl rfl<|ROps.s rfl rfl rfl<|ROps.s rfl rfl rfl<|yl rfl (b false) yp<|ym rfl (b false)<|ROps.s rfl rfl rfl<|ROps.s rfl rfl rfl<|ROps.s rfl rfl rfl<|yl rfl (b false) yp<|ym rfl (b false)<|ROps.s rfl rfl rfl<|ROps.s rfl rfl rfl<|ROps.s rfl rfl rfl<|ROps.s rfl rfl rfl<|ROps.s rfl rfl rfl<|yl rfl (b false) yp<|ym rfl (b false)<|ROps.s rfl rfl rfl<|ROps.s rfl rfl rfl<|ROps.s rfl rfl rfl<|ROps.s rfl rfl rfl<|ROps.s rfl rfl rfl<|ROps.s rfl rfl rfl<|ROps.s rfl rfl rfl<|yl rfl (b false) yp<|ya rfl (b false)<|zN ?_
  refine RunC.ret ?_
  have hq := oI h
  subst q0
  exact bodyQ.pure (.inr rfl) rfl (Res.one rfl (RV.tmp rfl))
def i_Thirds_takes (a0 : List F) (a1 : List F) (a2 : List F) (a3 : List F) : Option (Bool) :=
 obind (i_ValidThirds a0 a1 a2) fun (r1 : Bool) =>
 bsel r1 (
  bsel (decide ((a3.length : Int) = (a1.length : Int))) (
   obind (i_areFinite a3) fun (r2 : Bool) =>
   some r2) (
   some false)) (
  some false)
theorem i_Thirds_takes_ok (a0 : List F) (a1 : List F) (a2 : List F) (a3 : List F) (q0 : Bool) (h : i_Thirds_takes a0 a1 a2 a3 = some q0) : Ev Try.prog 81 [agg [(sFc a0), (sFc a1), (sFc a2)], (sFc a3)] [] (b q0) [] := by
 refine yE Try.func81 0 39 0 ([(0, agg [(sFc a0), (sFc a1), (sFc a2)]), (1, (sFc a3))]) [] rfl ?_
 unfold i_Thirds_takes at h
 refine zQ<|yd rfl (ptr [(sFc a0), (sFc a1), (sFc a2)]) (TOp.box_s rfl rfl rfl)<|ya rfl (b false)<|zN ?_
 refine yS ?_
 obtain ⟨r1, hf1, h⟩ := oS h
 rcases oB h with ⟨hc2, h⟩ | ⟨hc2, h⟩
 ·rcases oB h with ⟨hc3, h⟩ | ⟨hc3, h⟩
  ·obtain ⟨r2, hf4, h⟩ := oS h
   refine yW<|yl rfl (agg [(sFc a0), (sFc a1), (sFc a2)]) (yL agg47 siz47)<|yd rfl (b true) (TOp.eqb (TOp.callB (CallAs.func ent28 rfl rfl) (Bors.cons (Bor.agg (bS (bS (bS bN)))) bN) rfl rfl (i_ValidThirds_ok a0 a1 a2 r1 hf1)) hc2)<|ym rfl (b true)<|ym rfl (sFc a3)<|yl rfl (i64 (a3.length : Int)) (LOp.len_sl und26 rfl rfl)<|yl rfl (ptr [(sFc a1), (sFc a2)]) (LOp.fap und47 rfl siz26 rfl rfl rfl)<|yl rfl (sFc a1) (y2 agg26)<|yl rfl (i64 (a1.length : Int)) (LOp.len_sl und26 rfl rfl)<|yl rfl (b true) (LOp.eqb (LOp.eql rfl rfl rfl) hc3)<|yl rfl (b true) yq<|ym rfl (b true)<|ym rfl (sFc a3)<|yd rfl (b r2) (yc ent74 rfl rfl (bS bN) (i_areFinite_ok a3 r2 hf4))<|yl rfl (b r2) yq<|ya rfl (b r2)<|zN ?_
   refine RunC.ret ?_
   have hq := oI h
   subst q0
   exact bodyQ.pure (.inr rfl) rfl (Res.one rfl (RV.tmp rfl))
  ·refine yW<|yl rfl (agg [(sFc a0), (sFc a1), (sFc a2)]) (yL agg47 siz47)<|yd rfl (b true) (TOp.eqb (TOp.callB (CallAs.func ent28 rfl rfl) (Bors.cons (Bor.agg (bS (bS (bS bN)))) bN) rfl rfl (i_ValidThirds_ok a0 a1 a2 r1 hf1)) hc2)<|ym rfl (b true)<|ym rfl (sFc a3)<|yl rfl (i64 (a3.length : Int)) (LOp.len_sl und26 rfl rfl)<|yl rfl (ptr [(sFc a1), (sFc a2)]) (LOp.fap und47 rfl siz26 rfl rfl rfl)<|yl rfl (sFc a1) (y2 agg26)<|yl rfl (i64 (a1.length : Int)) (LOp.len_sl und26 rfl rfl)<|yl rfl (b false) (LOp.eqb (LOp.eql rfl rfl rfl) hc3)<|yl rfl (b false) yq<|ym rfl (b false)<|ROps.s rfl rfl rfl<|ROps.s rfl rfl rfl<|yl rfl (b false) yp<|ya rfl (b false)<|zN ?_
   refine RunC.ret ?_
   have hq := oI h
   subst q0
   exact bodyQ.pure (.inr rfl) rfl (Res.one rfl (RV.tmp rfl))
 ·refine yW<|yl rfl (agg [(sFc a0), (sFc a1), (sFc a2)]) (yL agg47 siz47)<|yd rfl (b false) (TOp.eqb (TOp.callB (CallAs.func ent28 rfl rfl) (Bors.cons (Bor.agg (bS (bS (bS bN)))) bN) rfl rfl (i_ValidThirds_ok a0 a1 a2 r1 hf1)) hc2)<|ym rfl (b false)<|ROps.s rfl rfl rfl<|ROps.s rfl rfl rfl<|ROps.s rfl rfl rfl<|ROps.s rfl rfl rfl<|ROps.s rfl rfl rfl<|ROps.s rfl rfl rfl<|yl rfl (b false) yp<|ym rfl (b false)<|ROps.s rfl rfl rfl<|ROps.s rfl rfl rfl<|yl rfl (b false) yp<|ya rfl (b false)<|zN ?_
  refine RunC.ret ?_
  have hq := oI h
  subst q0
  exact bodyQ.pure (.inr rfl) rfl (Res.one rfl (RV.tmp rfl))
def x_slices_Index_float32_float32_b1 (a0 : List F) (a1 : F) (v1 : Int) : Option (LR (Int) (Unit) (Int)) :=
 bsel (decide (v1 < (a0.length : Int))) (
  obind (at? a0 v1) fun (e2 : F) =>
  bsel (feq .f32 a1 e2) (
   some (LR.ret v1)) (
   olet (IntKind.i64.wrap (v1 + 1)) fun (x3 : Int) =>
   some (LR.next x3))) (
  some (LR.out ()))
def x_slices_Index_float32_float32_s1 (a0 : List F) (a1 : F) : (Int) → Option (LR (Int) (Unit) (Int)) := fun s => x_slices_Index_float32_float32_b1 a0 a1 s
def x_slices_Index_float32_float32_k1  : Option (Int) :=
 some (-1)
def x_slices_Index_float32_float32 (a0 : List F) (a1 : F) : Option (Int) :=
 obind (loopM (x_slices_Index_float32_float32_s1 a0 a1) 0) fun z => osum z (fun _ => x_slices_Index_float32_float32_k1) (fun r => some r)
theorem x_slices_Index_float32_float32_ok (a0 : List F) (a1 : F) (q0 : Int) (h : x_slices_Index_float32_float32 a0 a1 = some q0) : Ev Try.prog 146 [(sFc a0), f32 a1] [] (i64 q0) [] := by
 refine yE Try.func146 0 39 0 [(0, (sFc a0)), (1, f32 a1)] [] rfl ?_
 unfold x_slices_Index_float32_float32 at h
 refine zQ<|ya rfl (i64 0)<|zN ?_
 refine yS<|zQ<|ym rfl (sFc a0)<|yl rfl (i64 (a0.length : Int)) (LOp.len_sl und26 rfl rfl)<|ym rfl (i64 0)<|zN ?_
 obtain ⟨z2, hz_2, h⟩ := oS h
 refine RunC.cutN (fun τ Γ => WeakLe τ [] ∧ DeadLe Γ [] ∧ z2 = .inl ()) ?_ ?_
 ·refine RunC.block (RunC.loop (RunL.loopM (x := z2) (x_slices_Index_float32_float32_s1 a0 a1) (fun (s : Int) τ Γ => WeakLe τ [(0, (sFc a0)), (1, f32 a1), (7, i64 (a0.length : Int)), (8, i64 s)] ∧ DeadLe Γ []) ?_ _ _ _ hz_2 ⟨⟨aR, aR, aR, aR, trivial⟩, trivial⟩))
  rintro v1 τ2 Γ2 y2_ ⟨hw2, hd2⟩ h2_ ho2 hr2
  refine RunC.wl (τ' := [(0, (sFc a0)), (1, f32 a1), (7, i64 (a0.length : Int)), (8, i64 v1)]) (Γ' := []) hw2 hd2 ?_
  replace h2_ : x_slices_Index_float32_float32_b1 a0 a1 v1 = some y2_ := h2_
  unfold x_slices_Index_float32_float32_b1 at h2_
  refine yS ?_
  rcases oB h2_ with ⟨hc1, h2_⟩ | ⟨hc1, h2_⟩
  ·refine yW<|yl rfl (b true) (LOp.eqb (LOp.lss rfl rfl rfl) hc1)<|zN ?_
   refine yS<|yT<|RunC.skip<|yS<|RunC.block<|zQ<|ym rfl (i64 v1)<|ya rfl (i64 v1)<|zN ?_
   refine yS ?_
   obtain ⟨e2, he2, h2_⟩ := oS h2_
   rcases oB h2_ with ⟨hc3, h2_⟩ | ⟨hc3, h2_⟩
   ·refine yW<|ym rfl (f32 a1)<|ym rfl (sFc a0)<|ym rfl (i64 v1)<|yl rfl (ptr [f32 e2]) (LOp.le (LOp.ix (f := f32) und26 siz28 rfl rfl rfl rfl he2) ALe.ptr)<|yl rfl (f32 e2) (y2 agg28)<|yl rfl (b true) (LOp.eqb (LOp.feq rfl (OpF.tmp rfl) (OpF.tmp rfl)) hc3)<|zN ?_
    refine yT<|zQ<|ym rfl (i64 v1)<|ya rfl (i64 v1)<|zN ?_
    refine RunC.ret ?_
    cases oI h2_
    have hx3_ := hr2 _ rfl
    subst hx3_
    have hq := oI h
    subst q0
    exact bodyQ.pure (.inr rfl) rfl (Res.one rfl (RV.tmp rfl))
   ·refine yW<|ym rfl (f32 a1)<|ym rfl (sFc a0)<|ym rfl (i64 v1)<|yl rfl (ptr [f32 e2]) (LOp.le (LOp.ix (f := f32) und26 siz28 rfl rfl rfl rfl he2) ALe.ptr)<|yl rfl (f32 e2) (y2 agg28)<|yl rfl (b false) (LOp.eqb (LOp.feq rfl (OpF.tmp rfl) (OpF.tmp rfl)) hc3)<|zN ?_
    refine yF<|RunC.skip ?_
    obtain ⟨x3, hx4, h2_⟩ := oL h2_
    refine yW<|yl rfl (i64 x3) (LOp.eqr (LOp.add rfl rfl rfl) (congrArg (ik .i64) hx4))<|ym rfl (i64 x3)<|zN ?_
    cases oI h2_
    exact ⟨_, rfl, ⟨aR, aR, aR, aR, trivial⟩, trivial⟩
  ·refine yW<|yl rfl (b false) (LOp.eqb (LOp.lss rfl rfl rfl) hc1)<|zN ?_
   refine yS<|yF<|RunC.exit ?_
   cases oI h2_
   have hx := ho2 _ rfl
   exact ⟨trivial, trivial, hx⟩
 ·rintro τ4 Γ4 ⟨hw4, hd4, rfl⟩
  refine RunC.wl hw4 hd4 ?_
  replace h : x_slices_Index_float32_float32_k1 = some q0 := h
  unfold x_slices_Index_float32_float32_k1 at h
  refine zQ<|ya rfl (i64 (-1))<|zN ?_
  refine RunC.ret ?_
  have hq := oI h
  subst q0
  exact bodyQ.pure (.inr rfl) rfl (Res.one rfl (RV.tmp rfl))
def x_slices_Contains_float32_float32 (a0 : List F) (a1 : F) : Option (Bool) :=
 obind (x_slices_Index_float32_float32 a0 a1) fun (r1 : Int) =>
 some (decide (0 ≤ r1))
theorem x_slices_Contains_float32_float32_ok (a0 : List F) (a1 : F) (q0 : Bool) (h : x_slices_Contains_float32_float32 a0 a1 = some q0) : Ev Try.prog 83 [(sFc a0), f32 a1] [] (b q0) [] := by
 refine yE Try.func83 0 19 0 [(0, (sFc a0)), (1, f32 a1)] [] rfl ?_
 unfold x_slices_Contains_float32_float32 at h
 refine zQ<|ya rfl (b false)<|zN ?_
 refine yS ?_
 obtain ⟨r1, hf1, h⟩ := oS h
 refine yW<|ym rfl (sFc a0)<|ym rfl (f32 a1)<|yd rfl (i64 r1) (yc ent146 rfl rfl (bS bN0) (x_slices_Index_float32_float32_ok a0 a1 r1 hf1))<|yl rfl (b (decide (0 ≤ r1))) (LOp.geq rfl rfl rfl)<|ya rfl (b (decide (0 ≤ r1)))<|zN ?_
 refine RunC.ret ?_
 have hq := oI h
 subst q0
 exact bodyQ.pure (.inr rfl) rfl (Res.one rfl (RV.tmp rfl))
def i_ThirdsSolve_b1 (a0 : List F) (a2 : List F) (a3 : List F) (L4 : List F) (L6 : List F) (v8 : Int) : Option (LR ((List F) × (List F) × Int) ((List F) × (List F)) (Bool × (List F))) :=
 bsel (decide (v8 < (a3.length : Int))) (
  obind (at? a0 v8) fun (e9 : F) =>
  olet (IntKind.i64.wrap (v8 - 1)) fun (x10 : Int) =>
  obind (at? L4 x10) fun (e11 : F) =>
  olet (fop .quo .f32 e9 e11) fun (x12 : F) =>
  obind (at? L4 v8) fun (e13 : F) =>
  olet (IntKind.i64.wrap (v8 - 1)) fun (x14 : Int) =>
  obind (at? a2 x14) fun (e15 : F) =>
  obind (i_mul x12 e15) fun (r16 : F) =>
  olet (fop .sub .f32 e13 r16) fun (x17 : F) =>
  obind (setAt? L4 v8 x17) fun (L18 : List F) =>
  obind (at? L6 v8) fun (e19 : F) =>
  olet (IntKind.i64.wrap (v8 - 1)) fun (x20 : Int) =>
  obind (at? L6 x20) fun (e21 : F) =>
  obind (i_mul x12 e21) fun (r22 : F) =>
  olet (fop .sub .f32 e19 r22) fun (x23 : F) =>
  obind (setAt? L6 v8 x23) fun (L24 : List F) =>
  olet (IntKind.i64.wrap (v8 + 1)) fun (x25 : Int) =>
  some (LR.next (L18, L24, x25))) (
  some (LR.out (L4, L6)))
def i_ThirdsSolve_s1 (a0 : List F) (a2 : List F) (a3 : List F) : ((List F) × (List F) × Int) → Option (LR ((List F) × (List F) × Int) ((List F) × (List F)) (Bool × (List F))) := fun s => i_ThirdsSolve_b1 a0 a2 a3 s.1 s.2.1 s.2.2
def i_ThirdsSolve_k3 (L26 : List F) (v34 : Int) (L43 : List F) : Option (LR ((List F) × Int) ((List F)) (Bool × (List F))) :=
 obind (at? L43 v34) fun (e46 : F) =>
 obind (at? L26 v34) fun (e47 : F) =>
 olet (fop .quo .f32 e46 e47) fun (x48 : F) =>
 obind (setAt? L43 v34 x48) fun (L49 : List F) =>
 olet (IntKind.i64.wrap (v34 - 1)) fun (x50 : Int) =>
 some (LR.next (L49, x50))
def i_ThirdsSolve_b4 (a2 : List F) (a3 : List F) (L26 : List F) (L32 : List F) (v34 : Int) : Option (LR ((List F) × Int) ((List F)) (Bool × (List F))) :=
 bsel (decide (0 ≤ v34)) (
  olet (IntKind.i64.wrap (v34 + 1)) fun (x35 : Int) =>
  bsel (decide (x35 < (a3.length : Int))) (
   obind (at? L32 v34) fun (e36 : F) =>
   obind (at? a2 v34) fun (e37 : F) =>
   olet (IntKind.i64.wrap (v34 + 1)) fun (x38 : Int) =>
   obind (at? L32 x38) fun (e39 : F) =>
   obind (i_mul e37 e39) fun (r40 : F) =>
   olet (fop .sub .f32 e36 r40) fun (x41 : F) =>
   obind (setAt? L32 v34 x41) fun (L42 : List F) =>
   i_ThirdsSolve_k3 L26 v34 L42) (
   i_ThirdsSolve_k3 L26 v34 L32)) (
  some (LR.out L32))
def i_ThirdsSolve_s4 (a2 : List F) (a3 : List F) (L26 : List F) : ((List F) × Int) → Option (LR ((List F) × Int) ((List F)) (Bool × (List F))) := fun s => i_ThirdsSolve_b4 a2 a3 L26 s.1 s.2
def i_ThirdsSolve_k4 (r3 : List F) (L51 : List F) : Option (Bool × (List F)) :=
 obind (i_allFinite_0o L51) (fun z => osum z (fun y => obind2 (some y) fun (r53 : Bool) (r54 : List F) =>
  need (decide (r54.length = r3.length)) <|
  some (r53, r54)) (fun y => obind3 (some y) fun (r55 : Bool) (r56 : List F) (r57 : List F) =>
  need (decide (r56.length = r3.length)) <|
  some (r55, r57)))
def i_ThirdsSolve_k1 (a2 : List F) (a3 : List F) (r3 : List F) (L26 : List F) (L28 : List F) : Option (Bool × (List F)) :=
 obind (x_slices_Contains_float32_float32 L26 (some 0)) fun (r30 : Bool) =>
 bsel r30 (
  some (false, ([] : List F))) (
  olet (IntKind.i64.wrap ((a3.length : Int) - 1)) fun (x31 : Int) =>
  obind (loopM (i_ThirdsSolve_s4 a2 a3 L26) (L28, x31)) fun z => osum z (fun e => i_ThirdsSolve_k4 r3 e) (fun r => some r))
def i_ThirdsSolve (a0 : List F) (a1 : List F) (a2 : List F) (a3 : List F) : Option (Bool × (List F)) :=
 obind (i_Thirds_takes a0 a1 a2 a3) fun (r1 : Bool) =>
 bsel r1 (
  obind (x_slices_Clone_float32_float32 a1) fun (r2 : List F) =>
  obind (x_slices_Clone_float32_float32 a3) fun (r3 : List F) =>
  obind (loopM (i_ThirdsSolve_s1 a0 a2 a3) (r2, r3, 1)) fun z => osum z (fun e => i_ThirdsSolve_k1 a2 a3 r3 e.1 e.2) (fun r => some r)) (
  some (false, ([] : List F)))
theorem i_ThirdsSolve_ok (a0 : List F) (a1 : List F) (a2 : List F) (a3 : List F) (q0 : Bool) (q1 : List F) (h : i_ThirdsSolve a0 a1 a2 a3 = some (q0, q1)) : Ev Try.prog 24 [agg [(sFc a0), (sFc a1), (sFc a2)], (sFc a3)] [] (tup [oref 0 0 0 q1.length, b q0]) [⟨0, some (q1.map f32)⟩] := by
 refine yE Try.func24 3 219 0 ([(0, agg [(sFc a0), (sFc a1), (sFc a2)]), (1, (sFc a3))]) [⟨0, none⟩, ⟨0, none⟩, ⟨0, none⟩] rfl ?_
 unfold i_ThirdsSolve at h
 refine zQ<|yd rfl (ptr [(sFc a0), (sFc a1), (sFc a2)]) (TOp.box_s rfl rfl rfl)<|ya rfl nilsl<|ya rfl (b false)<|zN ?_
 refine yS<|yS ?_
 obtain ⟨r1, hf1, h⟩ := oS h
 rcases oB h with ⟨hc2, h⟩ | ⟨hc2, h⟩
 ·refine yW<|yl rfl (agg [(sFc a0), (sFc a1), (sFc a2)]) (yL agg47 siz47)<|ym rfl (sFc a3)<|yd rfl (b true) (TOp.eqb (TOp.callB (CallAs.func ent81 rfl rfl) (Bors.cons (Bor.agg (bS (bS (bS bN)))) (bS bN)) rfl rfl (i_Thirds_takes_ok a0 a1 a2 a3 r1 hf1)) hc2)<|yl rfl (b false) y1<|zN ?_
  refine yF<|RunC.skip<|yS ?_
  obtain ⟨r2, hf3, h⟩ := oS h
  obtain ⟨r3, hf4, h⟩ := oS h
  refine yW<|yl rfl (ptr [(sFc a1), (sFc a2)]) (LOp.fap und47 rfl siz26 rfl rfl rfl)<|yl rfl (sFc a1) (y2 agg26)<|ye rfl (oref 0 1 0 r2.length) [⟨1, some (r2.map f32)⟩, ⟨0, none⟩, ⟨0, none⟩] (TOp.callBN (ls := [(r2.map f32)]) [0] (CallAs.func ent82 rfl rfl) (bS bN) rfl (x_slices_Clone_float32_float32_ok a1 r2 hf3) (and_all (lts0_map (f := f32) (fun _ => rfl) _) rfl) (and_all (noss_map (f := f32) (fun _ => rfl) _) rfl) rfl (by decide) (ns_of ⟨⟨_, rfl⟩, trivial⟩))<|ym rfl (sFc a3)<|ye rfl (oref 1 1 0 r3.length) [⟨1, some (r2.map f32)⟩, ⟨1, some (r3.map f32)⟩, ⟨0, none⟩] (TOp.callBN (ls := [(r3.map f32)]) [1] (CallAs.func ent82 rfl rfl) (bS bN) rfl (x_slices_Clone_float32_float32_ok a3 r3 hf4) (and_all (lts0_map (f := f32) (fun _ => rfl) _) rfl) (and_all (noss_map (f := f32) (fun _ => rfl) _) rfl) rfl (by decide) (ns_of ⟨⟨_, rfl⟩, trivial⟩))<|ym rfl (sFc a3)<|yl rfl (i64 (a3.length : Int)) (LOp.len_sl und26 rfl rfl)<|ya rfl (oref 0 1 0 r2.length)<|ya rfl (oref 1 1 0 r3.length)<|ya rfl (i64 (a3.length : Int))<|zN ?_
  refine RunC.wl (τ' := [(2, ptr [(sFc a0), (sFc a1), (sFc a2)]), (6, oref 0 1 0 r2.length), (7, oref 1 1 0 r3.length), (8, i64 (a3.length : Int))]) (Γ' := [⟨1, some (r2.map f32)⟩, ⟨1, some (r3.map f32)⟩, ⟨0, none⟩]) ⟨aR, aR, aR, aR, trivial⟩ ⟨⟨rfl, .inr rfl⟩, ⟨rfl, .inr rfl⟩, ⟨rfl, .inr rfl⟩, trivial⟩<|yS<|zQ<|ya rfl (i64 1)<|zN ?_
  obtain ⟨z5, hz_5, h⟩ := oS h
  refine RunC.cutN (fun τ Γ => ∃ (L26 : List F) (L28 : List F), L26.length = r2.length ∧ L28.length = r3.length ∧ WeakLe τ [(2, ptr [(sFc a0), (sFc a1), (sFc a2)]), (6, oref 0 1 0 r2.length), (7, oref 1 1 0 r3.length), (8, i64 (a3.length : Int))] ∧ DeadLe Γ [⟨1, some (L26.map f32)⟩, ⟨1, some (L28.map f32)⟩, ⟨0, none⟩] ∧ z5 = .inl (L26, L28)) ?_ ?_
  ·refine RunC.block (RunC.loop (RunL.loopM (x := z5) (i_ThirdsSolve_s1 a0 a2 a3) (fun (s : (List F) × (List F) × Int) τ Γ => s.1.length = r2.length ∧ s.2.1.length = r3.length ∧ WeakLe τ [(2, ptr [(sFc a0), (sFc a1), (sFc a2)]), (6, oref 0 1 0 r2.length), (7, oref 1 1 0 r3.length), (8, i64 (a3.length : Int)), (9, i64 s.2.2)] ∧ DeadLe Γ [⟨1, some (s.1.map f32)⟩, ⟨1, some (s.2.1.map f32)⟩, ⟨0, none⟩]) ?_ _ _ _ hz_5 ⟨rfl, rfl, ⟨aR, aR, aR, aR, aR, trivial⟩, ⟨⟨rfl, .inr rfl⟩, ⟨rfl, .inr rfl⟩, ⟨rfl, .inr rfl⟩, trivial⟩⟩))
   rintro ⟨L4, L6, v8⟩ τ5 Γ5 y5_ ⟨hl5, hl7, hw5, hd5⟩ h5_ ho5 hr5
   refine RunC.wl (τ' := [(2, ptr [(sFc a0), (sFc a1), (sFc a2)]), (6, oref 0 1 0 r2.length), (7, oref 1 1 0 r3.length), (8, i64 (a3.length : Int)), (9, i64 v8)]) (Γ' := [⟨1, some (L4.map f32)⟩, ⟨1, some (L6.map f32)⟩, ⟨0, none⟩]) hw5 hd5 ?_
   replace hl5 : L4.length = r2.length := hl5
   replace hl7 : L6.length = r3.length := hl7
   replace h5_ : i_ThirdsSolve_b1 a0 a2 a3 L4 L6 v8 = some y5_ := h5_
   unfold i_ThirdsSolve_b1 at h5_
   refine yS<|yS ?_
   rcases oB h5_ with ⟨hc5, h5_⟩ | ⟨hc5, h5_⟩
   ·refine yW<|ym rfl (i64 v8)<|ym rfl (i64 (a3.length : Int))<|yl rfl (b true) (LOp.eqb (LOp.lss rfl rfl rfl) hc5)<|zN ?_
    refine yT<|RunC.skip<|yS<|RunC.block<|yS ?_
    obtain ⟨e9, he6, h5_⟩ := oS h5_
    obtain ⟨x10, hx7, h5_⟩ := oL h5_
    obtain ⟨e11, he8, h5_⟩ := oS h5_
    obtain ⟨x12, hx9, h5_⟩ := oL h5_
    refine RunC.region_draw (Γ' := [⟨1, some (L4.map f32)⟩, ⟨1, some (L6.map f32)⟩, ⟨0, none⟩]) 12 mixed 
     (tl rfl (ptr [(sFc a0), (sFc a1), (sFc a2)]) (LOp.fap und47 rfl siz26 rfl rfl rfl) <|
     (tl rfl (sFc a0) (y2 agg26) <|
     (tm rfl (i64 v8) <|
     (tl rfl (ptr [f32 e9]) (LOp.le (LOp.ix (f := f32) und26 siz28 rfl rfl rfl rfl he6) ALe.ptr) <|
     (tl rfl (f32 e9) (y2 agg28) <|
     (tm rfl (oref 0 1 0 r2.length) <|
     (tm rfl (i64 v8) <|
     (tl rfl (i64 x10) (LOp.eqr (LOp.sub rfl rfl rfl) (congrArg (ik .i64) hx7)) <|
     (TR.d (r := optr 0 1 x10.toNat) (fs := []) rfl rfl (TOp.ixo und26 siz28 rfl rfl rfl (at_in he8 hl5) rfl) <|
     (TR.d (r := f32 e11) (fs := []) rfl rfl (TOp.load1_o rfl (at_cell he8) agg28 rfl rfl) <|
     (TR.d (r := f32 x12) (fs := []) rfl rfl (TOp.eqr (TOp.fop (.inr (.inr (.inr rfl))) rfl (OpF.tmp rfl) (OpF.tmp rfl)) (congrArg (f .f32) hx9)) <|
     (tl rfl (f32 x12) (LOp.assign rfl rfl) <|
     TR.nil)))))))))))) rfl (by kernel_rfl) rfl fills_nil rfl ?_
    iterate 12 refine ROps.dropS ?_
    refine ROps.drop0<|zN ?_
    refine RunC.wl (τ' := [(2, ptr [(sFc a0), (sFc a1), (sFc a2)]), (6, oref 0 1 0 r2.length), (7, oref 1 1 0 r3.length), (8, i64 (a3.length : Int)), (9, i64 v8), (10, f32 x12)]) (Γ' := [⟨1, some (L4.map f32)⟩, ⟨1, some (L6.map f32)⟩, ⟨0, none⟩]) ⟨aR, aR, aR, aR, aR, aR, trivial⟩ ⟨⟨rfl, .inr rfl⟩, ⟨rfl, .inr rfl⟩, ⟨rfl, .inr rfl⟩, trivial⟩<|yS ?_
    obtain ⟨e13, he10, h5_⟩ := oS h5_
    obtain ⟨x14, hx11, h5_⟩ := oL h5_
    obtain ⟨e15, he12, h5_⟩ := oS h5_
    obtain ⟨r16, hf13, h5_⟩ := oS h5_
    obtain ⟨x17, hx14, h5_⟩ := oL h5_
    obtain ⟨L18, he15, h5_⟩ := oS h5_
    refine RunC.region_draw (Γ' := [⟨1, some (L4.map f32)⟩, ⟨1, some (L6.map f32)⟩, ⟨0, none⟩]) 14 mixed 
     (tm rfl (oref 0 1 0 r2.length) <|
     (tm rfl (i64 v8) <|
     (TR.d (r := optr 0 1 v8.toNat) (fs := []) rfl rfl (TOp.ixo und26 siz28 rfl rfl rfl (at_in he10 hl5) rfl) <|
     (TR.d (r := f32 e13) (fs := []) rfl rfl (TOp.load1_o rfl (at_cell he10) agg28 rfl rfl) <|
     (tm rfl (f32 x12) <|
     (tl rfl (ptr [(sFc a2)]) (LOp.fap und47 rfl siz26 rfl rfl rfl) <|
     (tl rfl (sFc a2) (y2 agg26) <|
     (tm rfl (i64 v8) <|
     (tl rfl (i64 x14) (LOp.eqr (LOp.sub rfl rfl rfl) (congrArg (ik .i64) hx11)) <|
     (tl rfl (ptr [f32 e15]) (LOp.le (LOp.ix (f := f32) und26 siz28 rfl rfl rfl rfl he12) ALe.ptr) <|
     (tl rfl (f32 e15) (y2 agg28) <|
     (TR.d (r := f32 r16) (fs := []) rfl rfl (yc ent76 rfl rfl (bP bN0) (i_mul_ok x12 e15 r16 hf13)) <|
     (TR.d (r := f32 x17) (fs := []) rfl rfl (TOp.eqr (TOp.fop (.inr (.inl rfl)) rfl (OpF.tmp rfl) (OpF.tmp rfl)) (congrArg (f .f32) hx14)) <|
     (TR.d (r := optr 0 1 v8.toNat) (fs := []) rfl rfl (TOp.ixo und26 siz28 rfl rfl rfl (set_in he15 hl5) rfl) <|
     TR.nil)))))))))))))) rfl (by kernel_rfl) rfl fills_nil rfl ?_
    iterate 14 refine ROps.dropS ?_
    refine ROps.drop0<|ROps.st (f := f32) (i := v8) (Γ' := [⟨1, some (L18.map f32)⟩, ⟨1, some (L6.map f32)⟩, ⟨0, none⟩]) rfl siz28 rfl rfl rfl aR rfl rfl rfl he15 rfl<|zN ?_
    refine RunC.wl (τ' := [(2, ptr [(sFc a0), (sFc a1), (sFc a2)]), (6, oref 0 1 0 r2.length), (7, oref 1 1 0 r3.length), (8, i64 (a3.length : Int)), (9, i64 v8), (10, f32 x12)]) (Γ' := [⟨1, some (L18.map f32)⟩, ⟨1, some (L6.map f32)⟩, ⟨0, none⟩]) ⟨aR, aR, aR, aR, aR, aR, trivial⟩ ⟨⟨rfl, .inr rfl⟩, ⟨rfl, .inr rfl⟩, ⟨rfl, .inr rfl⟩, trivial⟩ ?_
    obtain ⟨e19, he16, h5_⟩ := oS h5_
    obtain ⟨x20, hx17, h5_⟩ := oL h5_
    obtain ⟨e21, he18, h5_⟩ := oS h5_
    obtain ⟨r22, hf19, h5_⟩ := oS h5_
    obtain ⟨x23, hx20, h5_⟩ := oL h5_
    obtain ⟨L24, he21, h5_⟩ := oS h5_
    refine RunC.region_draw (Γ' := [⟨1, some (L18.map f32)⟩, ⟨1, some (L6.map f32)⟩, ⟨0, none⟩]) 13 mixed 
     (tm rfl (oref 1 1 0 r3.length) <|
     (tm rfl (i64 v8) <|
     (TR.d (r := optr 1 1 v8.toNat) (fs := []) rfl rfl (TOp.ixo und26 siz28 rfl rfl rfl (at_in he16 hl7) rfl) <|
     (TR.d (r := f32 e19) (fs := []) rfl rfl (TOp.load1_o rfl (at_cell he16) agg28 rfl rfl) <|
     (tm rfl (f32 x12) <|
     (tm rfl (oref 1 1 0 r3.length) <|
     (tm rfl (i64 v8) <|
     (tl rfl (i64 x20) (LOp.eqr (LOp.sub rfl rfl rfl) (congrArg (ik .i64) hx17)) <|
     (TR.d (r := optr 1 1 x20.toNat) (fs := []) rfl rfl (TOp.ixo und26 siz28 rfl rfl rfl (at_in he18 hl7) rfl) <|
     (TR.d (r := f32 e21) (fs := []) rfl rfl (TOp.load1_o rfl (at_cell he18) agg28 rfl rfl) <|
     (TR.d (r := f32 r22) (fs := []) rfl rfl (yc ent76 rfl rfl (bP bN0) (i_mul_ok x12 e21 r22 hf19)) <|
     (TR.d (r := f32 x23) (fs := []) rfl rfl (TOp.eqr (TOp.fop (.inr (.inl rfl)) rfl (OpF.tmp rfl) (OpF.tmp rfl)) (congrArg (f .f32) hx20)) <|
     (TR.d (r := optr 1 1 v8.toNat) (fs := []) rfl rfl (TOp.ixo und26 siz28 rfl rfl rfl (set_in he21 hl7) rfl) <|
     TR.nil))))))))))))) rfl (by kernel_rfl) rfl fills_nil rfl ?_
    iterate 13 refine ROps.dropS ?_
    refine ROps.drop0<|ROps.st (f := f32) (i := v8) (Γ' := [⟨1, some (L18.map f32)⟩, ⟨1, some (L24.map f32)⟩, ⟨0, none⟩]) rfl siz28 rfl rfl rfl aR rfl rfl rfl he21 rfl<|zN ?_
    refine RunC.wl (τ' := [(2, ptr [(sFc a0), (sFc a1), (sFc a2)]), (6, oref 0 1 0 r2.length), (7, oref 1 1 0 r3.length), (8, i64 (a3.length : Int)), (9, i64 v8)]) (Γ' := [⟨1, some (L18.map f32)⟩, ⟨1, some (L24.map f32)⟩, ⟨0, none⟩]) ⟨aR, aR, aR, aR, aR, trivial⟩ ⟨⟨rfl, .inr rfl⟩, ⟨rfl, .inr rfl⟩, ⟨rfl, .inr rfl⟩, trivial⟩ ?_
    obtain ⟨x25, hx22, h5_⟩ := oL h5_
    refine yW<|ym rfl (i64 v8)<|yl rfl (i64 x25) (LOp.eqr (LOp.add rfl rfl rfl) (congrArg (ik .i64) hx22))<|ya rfl (i64 x25)<|zN ?_
    cases oI h5_
    exact ⟨_, rfl, ((setAt?_len he15).trans hl5), ((setAt?_len he21).trans hl7), ⟨aR, aR, aR, aR, aR, trivial⟩, ⟨⟨rfl, .inr rfl⟩, ⟨rfl, .inr rfl⟩, ⟨rfl, .inr rfl⟩, trivial⟩⟩
   ·refine yW<|ym rfl (i64 v8)<|ym rfl (i64 (a3.length : Int))<|yl rfl (b false) (LOp.eqb (LOp.lss rfl rfl rfl) hc5)<|zN ?_
    refine yF<|RunC.exit ?_
    cases oI h5_
    have hx := ho5 _ rfl
    exact ⟨L4, L6, hl5, hl7, ⟨aR, aR, aR, aR, trivial⟩, ⟨⟨rfl, .inr rfl⟩, ⟨rfl, .inr rfl⟩, ⟨rfl, .inr rfl⟩, trivial⟩, hx⟩
  ·rintro τ6 Γ6 ⟨L26, L28, hl27, hl29, hw6, hd6, rfl⟩
   refine RunC.wl hw6 hd6 ?_
   replace h : i_ThirdsSolve_k1 a2 a3 r3 L26 L28 = some (q0, q1) := h
   unfold i_ThirdsSolve_k1 at h
   refine yS<|yS ?_
   obtain ⟨r30, hf23, h⟩ := oS h
   rcases oB h with ⟨hc24, h⟩ | ⟨hc24, h⟩
   ·refine yW<|ym rfl (oref 0 1 0 r2.length)<|yd rfl (b true) (TOp.eqb (yc ent83 rfl rfl (Bors.cons (Bor.own (f := f32) (fun _ => rfl) rfl hl27) (Bors.cons (Bor.le (ALe.fl (by kernel_rfl) (by kernel_rfl)) (Bor.pure rfl)) bN)) (x_slices_Contains_float32_float32_ok L26 (some 0) r30 hf23)) hc24)<|zN ?_
    refine yT<|zQ<|ya rfl nilsl<|ya rfl (b false)<|zN ?_
    refine RunC.nil_slot (Γ' := [⟨1, some (L26.map f32)⟩, ⟨1, some (L28.map f32)⟩, ⟨1, some (([] : List F).map f32)⟩]) 4 2 rfl rfl rfl<|RunC.ret ?_
    have hq := oI h
    obtain ⟨hq0, hq⟩ := Prod.mk.inj hq
    subst q0
    subst q1
    exact yB (tup [oref 2 1 0 (([] : List F).length), b false]) [(2, 1)] (Res.eq (Res.two rfl (RV.tmp rfl) (RV.tmp rfl)) (by first | rfl | (rw [(show ([] : List F).length = 0 from rfl)] <;> rfl))) (SelL.arr0 (f := f32) (fun _ => rfl) rfl trivial)
   ·refine yW<|ym rfl (oref 0 1 0 r2.length)<|yd rfl (b false) (TOp.eqb (yc ent83 rfl rfl (Bors.cons (Bor.own (f := f32) (fun _ => rfl) rfl hl27) (Bors.cons (Bor.le (ALe.fl (by kernel_rfl) (by kernel_rfl)) (Bor.pure rfl)) bN)) (x_slices_Contains_float32_float32_ok L26 (some 0) r30 hf23)) hc24)<|zN ?_
    refine yF<|RunC.skip<|yS<|yS ?_
    obtain ⟨x31, hx25, h⟩ := oL h
    refine yW<|ym rfl (i64 (a3.length : Int))<|yl rfl (i64 x31) (LOp.eqr (LOp.sub rfl rfl rfl) (congrArg (ik .i64) hx25))<|ya rfl (i64 x31)<|zN ?_
    obtain ⟨z7, hz_7, h⟩ := oS h
    refine RunC.cutN (fun τ Γ => ∃ (L51 : List F), L51.length = r3.length ∧ WeakLe τ [(7, oref 1 1 0 r3.length)] ∧ DeadLe Γ [⟨1, none⟩, ⟨1, some (L51.map f32)⟩, ⟨0, none⟩] ∧ z7 = .inl L51) ?_ ?_
    ·refine RunC.block (RunC.loop (RunL.loopM (x := z7) (i_ThirdsSolve_s4 a2 a3 L26) (fun (s : (List F) × Int) τ Γ => s.1.length = r3.length ∧ WeakLe τ [(2, ptr [(sFc a0), (sFc a1), (sFc a2)]), (6, oref 0 1 0 r2.length), (7, oref 1 1 0 r3.length), (8, i64 (a3.length : Int)), (11, i64 s.2)] ∧ DeadLe Γ [⟨1, some (L26.map f32)⟩, ⟨1, some (s.1.map f32)⟩, ⟨0, none⟩]) ?_ _ _ _ hz_7 ⟨hl29, ⟨aR, aR, aR, aR, aR, trivial⟩, ⟨⟨rfl, .inr rfl⟩, ⟨rfl, .inr rfl⟩, ⟨rfl, .inr rfl⟩, trivial⟩⟩))
     rintro ⟨L32, v34⟩ τ7 Γ7 y7_ ⟨hl33, hw7, hd7⟩ h7_ ho7 hr7
     refine RunC.wl (τ' := [(2, ptr [(sFc a0), (sFc a1), (sFc a2)]), (6, oref 0 1 0 r2.length), (7, oref 1 1 0 r3.length), (8, i64 (a3.length : Int)), (11, i64 v34)]) (Γ' := [⟨1, some (L26.map f32)⟩, ⟨1, some (L32.map f32)⟩, ⟨0, none⟩]) hw7 hd7 ?_
     replace hl33 : L32.length = r3.length := hl33
     replace h7_ : i_ThirdsSolve_b4 a2 a3 L26 L32 v34 = some y7_ := h7_
     unfold i_ThirdsSolve_b4 at h7_
     refine yS<|yS ?_
     rcases oB h7_ with ⟨hc26, h7_⟩ | ⟨hc26, h7_⟩
     ·refine yW<|ym rfl (i64 v34)<|yl rfl (b true) (LOp.eqb (LOp.geq rfl rfl rfl) hc26)<|zN ?_
      refine yT<|RunC.skip<|yS<|RunC.block<|yS<|RunC.cutN (fun τ Γ => ∃ (L43 : List F), L43.length = r3.length ∧ L26.length = r2.length ∧ WeakLe τ [(2, ptr [(sFc a0), (sFc a1), (sFc a2)]), (6, oref 0 1 0 r2.length), (7, oref 1 1 0 r3.length), (8, i64 (a3.length : Int)), (11, i64 v34)] ∧ DeadLe Γ [⟨1, some (L26.map f32)⟩, ⟨1, some (L43.map f32)⟩, ⟨0, none⟩] ∧ i_ThirdsSolve_k3 L26 v34 L43 = some y7_) ?_ ?_
      ·refine yS ?_
       obtain ⟨x35, hx27, h7_⟩ := oL h7_
       rcases oB h7_ with ⟨hc28, h7_⟩ | ⟨hc28, h7_⟩
       ·refine yW<|ym rfl (i64 v34)<|yl rfl (i64 x35) (LOp.eqr (LOp.add rfl rfl rfl) (congrArg (ik .i64) hx27))<|ym rfl (i64 (a3.length : Int))<|yl rfl (b true) (LOp.eqb (LOp.lss rfl rfl rfl) hc28)<|zN ?_
        refine yT ?_
        obtain ⟨e36, he29, h7_⟩ := oS h7_
        obtain ⟨e37, he30, h7_⟩ := oS h7_
        obtain ⟨x38, hx31, h7_⟩ := oL h7_
        obtain ⟨e39, he32, h7_⟩ := oS h7_
        obtain ⟨r40, hf33, h7_⟩ := oS h7_
        obtain ⟨x41, hx34, h7_⟩ := oL h7_
        obtain ⟨L42, he35, h7_⟩ := oS h7_
        refine RunC.region_draw (Γ' := [⟨1, some (L26.map f32)⟩, ⟨1, some (L32.map f32)⟩, ⟨0, none⟩]) 17 mixed 
         (tm rfl (oref 1 1 0 r3.length) <|
         (tm rfl (i64 v34) <|
         (TR.d (r := optr 1 1 v34.toNat) (fs := []) rfl rfl (TOp.ixo und26 siz28 rfl rfl rfl (at_in he29 hl33) rfl) <|
         (TR.d (r := f32 e36) (fs := []) rfl rfl (TOp.load1_o rfl (at_cell he29) agg28 rfl rfl) <|
         (tl rfl (ptr [(sFc a2)]) (LOp.fap und47 rfl siz26 rfl rfl rfl) <|
         (tl rfl (sFc a2) (y2 agg26) <|
         (tm rfl (i64 v34) <|
         (tl rfl (ptr [f32 e37]) (LOp.le (LOp.ix (f := f32) und26 siz28 rfl rfl rfl rfl he30) ALe.ptr) <|
         (tl rfl (f32 e37) (y2 agg28) <|
         (tm rfl (oref 1 1 0 r3.length) <|
         (tm rfl (i64 v34) <|
         (tl rfl (i64 x38) (LOp.eqr (LOp.add rfl rfl rfl) (congrArg (ik .i64) hx31)) <|
         (TR.d (r := optr 1 1 x38.toNat) (fs := []) rfl rfl (TOp.ixo und26 siz28 rfl rfl rfl (at_in he32 hl33) rfl) <|
         (TR.d (r := f32 e39) (fs := []) rfl rfl (TOp.load1_o rfl (at_cell he32) agg28 rfl rfl) <|
         (TR.d (r := f32 r40) (fs := []) rfl rfl (yc ent76 rfl rfl (bP bN0) (i_mul_ok e37 e39 r40 hf33)) <|
         (TR.d (r := f32 x41) (fs := []) rfl rfl (TOp.eqr (TOp.fop (.inr (.inl rfl)) rfl (OpF.tmp rfl) (OpF.tmp rfl)) (congrArg (f .f32) hx34)) <|
         (TR.d (r := optr 1 1 v34.toNat) (fs := []) rfl rfl (TOp.ixo und26 siz28 rfl rfl rfl (set_in he35 hl33) rfl) <|
         TR.nil))))))))))))))))) rfl (by kernel_rfl) rfl fills_nil rfl ?_
        iterate 17 refine ROps.dropS ?_
        refine ROps.drop0<|ROps.st (f := f32) (i := v34) (Γ' := [⟨1, some (L26.map f32)⟩, ⟨1, some (L42.map f32)⟩, ⟨0, none⟩]) rfl siz28 rfl rfl rfl aR rfl rfl rfl he35 rfl<|zN ?_
        exact ⟨L42, ((setAt?_len he35).trans hl33), hl27, ⟨aR, aR, aR, aR, aR, trivial⟩, ⟨⟨rfl, .inr rfl⟩, ⟨rfl, .inr rfl⟩, ⟨rfl, .inr rfl⟩, trivial⟩, h7_⟩
       ·refine yW<|ym rfl (i64 v34)<|yl rfl (i64 x35) (LOp.eqr (LOp.add rfl rfl rfl) (congrArg (ik .i64) hx27))<|ym rfl (i64 (a3.length : Int))<|yl rfl (b false) (LOp.eqb (LOp.lss rfl rfl rfl) hc28)<|zN ?_
        refine yF<|RunC.skip ?_
        exact ⟨L32, hl33, hl27, ⟨aR, aR, aR, aR, aR, trivial⟩, ⟨⟨rfl, .inr rfl⟩, ⟨rfl, .inr rfl⟩, ⟨rfl, .inr rfl⟩, trivial⟩, h7_⟩
      ·rintro τ8 Γ8 ⟨L43, hl44, hl45, hw8, hd8, h7_⟩
       refine RunC.wl hw8 hd8 ?_
       unfold i_ThirdsSolve_k3 at h7_
       obtain ⟨e46, he36, h7_⟩ := oS h7_
       obtain ⟨e47, he37, h7_⟩ := oS h7_
       obtain ⟨x48, hx38, h7_⟩ := oL h7_
       obtain ⟨L49, he39, h7_⟩ := oS h7_
       refine RunC.region_draw (Γ' := [⟨1, some (L26.map f32)⟩, ⟨1, some (L43.map f32)⟩, ⟨0, none⟩]) 10 mixed 
        (tm rfl (oref 1 1 0 r3.length) <|
        (tm rfl (i64 v34) <|
        (TR.d (r := optr 1 1 v34.toNat) (fs := []) rfl rfl (TOp.ixo und26 siz28 rfl rfl rfl (at_in he36 hl44) rfl) <|
        (TR.d (r := f32 e46) (fs := []) rfl rfl (TOp.load1_o rfl (at_cell he36) agg28 rfl rfl) <|
        (tm rfl (oref 0 1 0 r2.length) <|
        (tm rfl (i64 v34) <|
        (TR.d (r := optr 0 1 v34.toNat) (fs := []) rfl rfl (TOp.ixo und26 siz28 rfl rfl rfl (at_in he37 hl45) rfl) <|
        (TR.d (r := f32 e47) (fs := []) rfl rfl (TOp.load1_o rfl (at_cell he37) agg28 rfl rfl) <|
        (TR.d (r := f32 x48) (fs := []) rfl rfl (TOp.eqr (TOp.fop (.inr (.inr (.inr rfl))) rfl (OpF.tmp rfl) (OpF.tmp rfl)) (congrArg (f .f32) hx38)) <|
        (TR.d (r := optr 1 1 v34.toNat) (fs := []) rfl rfl (TOp.ixo und26 siz28 rfl rfl rfl (set_in he39 hl44) rfl) <|
        TR.nil)))))))))) rfl (by kernel_rfl) rfl fills_nil rfl ?_
       iterate 10 refine ROps.dropS ?_
       refine ROps.drop0<|ROps.st (f := f32) (i := v34) (Γ' := [⟨1, some (L26.map f32)⟩, ⟨1, some (L49.map f32)⟩, ⟨0, none⟩]) rfl siz28 rfl rfl rfl aR rfl rfl rfl he39 rfl<|zN ?_
       obtain ⟨x50, hx40, h7_⟩ := oL h7_
       refine yW<|ym rfl (i64 v34)<|yl rfl (i64 x50) (LOp.eqr (LOp.sub rfl rfl rfl) (congrArg (ik .i64) hx40))<|ya rfl (i64 x50)<|zN ?_
       cases oI h7_
       exact ⟨_, rfl, ((setAt?_len he39).trans hl44), ⟨aR, aR, aR, aR, aR, trivial⟩, ⟨⟨rfl, .inr rfl⟩, ⟨rfl, .inr rfl⟩, ⟨rfl, .inr rfl⟩, trivial⟩⟩
     ·refine yW<|ym rfl (i64 v34)<|yl rfl (b false) (LOp.eqb (LOp.geq rfl rfl rfl) hc26)<|zN ?_
      refine yF<|RunC.exit ?_
      cases oI h7_
      have hx := ho7 _ rfl
      exact ⟨L32, hl33, ⟨aR, trivial⟩, ⟨⟨rfl, .inl rfl⟩, ⟨rfl, .inr rfl⟩, ⟨rfl, .inr rfl⟩, trivial⟩, hx⟩
    ·rintro τ9 Γ9 ⟨L51, hl52, hw9, hd9, rfl⟩
     refine RunC.wl hw9 hd9 ?_
     replace h : i_ThirdsSolve_k4 r3 L51 = some (q0, q1) := h
     unfold i_ThirdsSolve_k4 at h
     refine yS ?_
     obtain ⟨z10, hf41, h⟩ := oS h
     rcases z10 with z10 | z10
     ·replace h := (osum_inl _ _ _).symm.trans h
      obtain ⟨r53, r54, hz11, h⟩ := obind2_some h
      cases hz11
      obtain ⟨hn42, h⟩ := need_some h
      refine yW<|ym rfl (oref 1 1 0 r3.length)<|ROps.callO (A := [oref 1 1 0 r3.length]) (args := [oref 0 0 0 L51.length]) (Γc := [⟨0, some (L51.map f32)⟩]) (Γc' := [⟨0, some (r54.map f32)⟩]) (r' := tup [oref 1 1 0 r3.length, b r53]) (Γ' := [⟨1, none⟩, ⟨1, some (r54.map f32)⟩, ⟨0, none⟩]) [(1, 1)] [] rfl (CallAs.func ent77 rfl rfl) rfl rfl (SelOk.of (ndB_ok rfl) (SelL.arr0 (f := f32) (fun _ => rfl) rfl trivial)) (live_of ⟨⟨_, _, rfl⟩, trivial⟩) (by simp [ren, rens, sigma, rens_f32, rens_f64, rens_i64, rens_ik, rens_str, rens_cp, hl52]) rfl (i_allFinite_0o_ok0 L51 r53 r54 hf41) rfl (news_of trivial) (ndB_ok rfl) (by simp [ren, rens, sigma, of_decide_eq_true hn42]) (by simp [backOb, sigma, ren, rens, rens_f32, rens_f64, rens_i64, rens_ik, rens_str, rens_cp] <;> omega)<|yl rfl (oref 1 1 0 r3.length) y3<|yl rfl (b r53) y3<|ya rfl (oref 1 1 0 r3.length)<|ya rfl (b r53)<|zN ?_
      refine RunC.ret ?_
      have hq := oI h
      obtain ⟨hq0, hq⟩ := Prod.mk.inj hq
      subst q0
      subst q1
      exact yB (tup [oref 1 1 0 r54.length, b r53]) [(1, 1)] (Res.eq (Res.two rfl (RV.tmp rfl) (RV.tmp rfl)) (by first | rfl | (rw [(show r54.length = r3.length from (of_decide_eq_true hn42))] <;> rfl))) (SelL.arr0 (f := f32) (fun _ => rfl) rfl trivial)
     ·replace h := (osum_inr _ _ _).symm.trans h
      obtain ⟨r55, r56, r57, hz12, h⟩ := obind3_some h
      cases hz12
      obtain ⟨hn43, h⟩ := need_some h
      refine yW<|ym rfl (oref 1 1 0 r3.length)<|ROps.callO (A := [oref 1 1 0 r3.length]) (args := [oref 0 0 0 L51.length]) (Γc := [⟨0, some (L51.map f32)⟩]) (Γc' := [⟨0, some (r56.map f32)⟩, ⟨0, some (r57.map f32)⟩]) (r' := tup [oref 0 2 0 r57.length, b r55]) (Γ' := [⟨2, some (r57.map f32)⟩, ⟨1, some (r56.map f32)⟩, ⟨0, none⟩]) [(1, 1)] [(0, 2)] rfl (CallAs.func ent77 rfl rfl) rfl rfl (SelOk.of (ndB_ok rfl) (SelL.arr0 (f := f32) (fun _ => rfl) rfl trivial)) (live_of ⟨⟨_, _, rfl⟩, trivial⟩) (by simp [ren, rens, sigma, rens_f32, rens_f64, rens_i64, rens_ik, rens_str, rens_cp, hl52]) rfl (i_allFinite_0o_ok1 L51 r55 r56 r57 hf41) rfl (news_of ⟨⟨_, rfl, rfl⟩, trivial⟩) (show List.Nodup [1, 0] from by decide) (by simp [ren, rens, sigma, of_decide_eq_true hn43]) (by simp [backOb, sigma, ren, rens, rens_f32, rens_f64, rens_i64, rens_ik, rens_str, rens_cp] <;> omega)<|yl rfl (oref 0 2 0 r57.length) y3<|yl rfl (b r55) y3<|ya rfl (oref 0 2 0 r57.length)<|ya rfl (b r55)<|zN ?_
      refine RunC.ret ?_
      have hq := oI h
      obtain ⟨hq0, hq⟩ := Prod.mk.inj hq
      subst q0
      subst q1
      exact yB (tup [oref 0 2 0 r57.length, b r55]) [(0, 2)] (Res.two rfl (RV.tmp rfl) (RV.tmp rfl)) (SelL.arr0 (f := f32) (fun _ => rfl) rfl trivial)
 ·refine yW<|yl rfl (agg [(sFc a0), (sFc a1), (sFc a2)]) (yL agg47 siz47)<|ym rfl (sFc a3)<|yd rfl (b false) (TOp.eqb (TOp.callB (CallAs.func ent81 rfl rfl) (Bors.cons (Bor.agg (bS (bS (bS bN)))) (bS bN)) rfl rfl (i_Thirds_takes_ok a0 a1 a2 a3 r1 hf1)) hc2)<|yl rfl (b true) y0<|zN ?_
  refine yT<|zQ<|ya rfl nilsl<|ya rfl (b false)<|zN ?_
  refine RunC.nil_slot (Γ' := [⟨1, some (([] : List F).map f32)⟩, ⟨0, none⟩, ⟨0, none⟩]) 4 0 rfl rfl rfl<|RunC.ret ?_
  have hq := oI h
  obtain ⟨hq0, hq⟩ := Prod.mk.inj hq
  subst q0
  subst q1
  exact yB (tup [oref 0 1 0 (([] : List F).length), b false]) [(0, 1)] (Res.eq (Res.two rfl (RV.tmp rfl) (RV.tmp rfl)) (by first | rfl | (rw [(show ([] : List F).length = 0 from rfl)] <;> rfl))) (SelL.arr0 (f := f32) (fun _ => rfl) rfl trivial)
def i_ThirdsTimes_k4 (L4 : List F) (v5 : Int) (y22 : F) : Option (LR ((List F) × Int) ((List F)) (Bool × (List F))) :=
 need (apok 4 L4.length 1) <|
 olet (IntKind.i64.wrap (v5 + 1)) fun (x23 : Int) =>
 some (LR.next ((L4 ++ ([y22] : List F)), x23))
def i_ThirdsTimes_k3 (a1 : List F) (a2 : List F) (a3 : List F) (L4 : List F) (v5 : Int) (y11 : F) : Option (LR ((List F) × Int) ((List F)) (Bool × (List F))) :=
 obind (at? a1 v5) fun (e12 : F) =>
 obind (at? a3 v5) fun (e13 : F) =>
 obind (i_mul e12 e13) fun (r14 : F) =>
 olet (fop .add .f32 y11 r14) fun (x15 : F) =>
 olet (IntKind.i64.wrap (v5 + 1)) fun (x16 : Int) =>
 bsel (decide (x16 < (a3.length : Int))) (
  obind (at? a2 v5) fun (e17 : F) =>
  olet (IntKind.i64.wrap (v5 + 1)) fun (x18 : Int) =>
  obind (at? a3 x18) fun (e19 : F) =>
  obind (i_mul e17 e19) fun (r20 : F) =>
  olet (fop .add .f32 x15 r20) fun (x21 : F) =>
  i_ThirdsTimes_k4 L4 v5 x21) (
  i_ThirdsTimes_k4 L4 v5 x15)
def i_ThirdsTimes_b5 (a0 : List F) (a1 : List F) (a2 : List F) (a3 : List F) (L4 : List F) (v5 : Int) : Option (LR ((List F) × Int) ((List F)) (Bool × (List F))) :=
 bsel (decide (v5 < (a3.length : Int))) (
  bsel (decide (0 < v5)) (
   obind (at? a0 v5) fun (e6 : F) =>
   olet (IntKind.i64.wrap (v5 - 1)) fun (x7 : Int) =>
   obind (at? a3 x7) fun (e8 : F) =>
   obind (i_mul e6 e8) fun (r9 : F) =>
   olet (fop .add .f32 (some 0) r9) fun (x10 : F) =>
   i_ThirdsTimes_k3 a1 a2 a3 L4 v5 x10) (
   i_ThirdsTimes_k3 a1 a2 a3 L4 v5 (some 0))) (
  some (LR.out L4))
def i_ThirdsTimes_s5 (a0 : List F) (a1 : List F) (a2 : List F) (a3 : List F) : ((List F) × Int) → Option (LR ((List F) × Int) ((List F)) (Bool × (List F))) := fun s => i_ThirdsTimes_b5 a0 a1 a2 a3 s.1 s.2
def i_ThirdsTimes_k5 (L26 : List F) : Option (Bool × (List F)) :=
 obind (i_allFinite_0o L26) (fun z => osum z (fun y => obind2 (some y) fun (r27 : Bool) (r28 : List F) =>
  need (decide (r28.length = L26.length)) <|
  some (r27, r28)) (fun y => obind3 (some y) fun (r29 : Bool) (r30 : List F) (r31 : List F) =>
  need (decide (r30.length = L26.length)) <|
  some (r29, r31)))
def i_ThirdsTimes (a0 : List F) (a1 : List F) (a2 : List F) (a3 : List F) : Option (Bool × (List F)) :=
 obind (i_Thirds_takes a0 a1 a2 a3) fun (r1 : Bool) =>
 bsel r1 (
  obind (loopM (i_ThirdsTimes_s5 a0 a1 a2 a3) (([] : List F), 0)) fun z => osum z (fun e => i_ThirdsTimes_k5 e) (fun r => some r)) (
  some (false, ([] : List F)))
theorem i_ThirdsTimes_ok (a0 : List F) (a1 : List F) (a2 : List F) (a3 : List F) (q0 : Bool) (q1 : List F) (h : i_ThirdsTimes a0 a1 a2 a3 = some (q0, q1)) : Ev Try.prog 25 [agg [(sFc a0), (sFc a1), (sFc a2)], (sFc a3)] [] (tup [oref 0 0 0 q1.length, b q0]) [⟨0, some (q1.map f32)⟩] := by
 refine yE Try.func25 2 147 0 ([(0, agg [(sFc a0), (sFc a1), (sFc a2)]), (1, (sFc a3))]) [⟨0, none⟩, ⟨0, none⟩] rfl ?_
 unfold i_ThirdsTimes at h
 refine zQ<|yd rfl (ptr [(sFc a0), (sFc a1), (sFc a2)]) (TOp.box_s rfl rfl rfl)<|ya rfl nilsl<|ya rfl (b false)<|zN ?_
 refine yS<|yS ?_
 obtain ⟨r1, hf1, h⟩ := oS h
 rcases oB h with ⟨hc2, h⟩ | ⟨hc2, h⟩
 ·refine yW<|yl rfl (agg [(sFc a0), (sFc a1), (sFc a2)]) (yL agg47 siz47)<|ym rfl (sFc a3)<|yd rfl (b true) (TOp.eqb (TOp.callB (CallAs.func ent81 rfl rfl) (Bors.cons (Bor.agg (bS (bS (bS bN)))) (bS bN)) rfl rfl (i_Thirds_takes_ok a0 a1 a2 a3 r1 hf1)) hc2)<|yl rfl (b false) y1<|zN ?_
  refine yF<|RunC.skip<|zQ<|ye rfl (oref 0 1 0 0) ([⟨1, some (([] : List F).map f32)⟩, ⟨0, none⟩]) (TOp.buildSlice_o (g := ⟨0, none⟩) (za := f32 (some 0)) (qs := []) 0 rfl und26 siz28 zer28 rfl zel28 rfl rfl trivial rfl)<|ya rfl (oref 0 1 0 0)<|zN ?_
  refine yS<|zQ<|ym rfl (sFc a3)<|yl rfl (i64 (a3.length : Int)) (LOp.len_sl und26 rfl rfl)<|ym rfl (i64 0)<|zN ?_
  obtain ⟨z6, hz_6, h⟩ := oS h
  refine RunC.cutN (fun τ Γ => ∃ (L26 : List F) (u24 : Nat) (u25 : Nat), WeakLe τ [(6, oref 0 u24 0 L26.length)] ∧ DeadLe Γ [⟨u24, some (L26.map f32)⟩, ⟨u25, none⟩] ∧ z6 = .inl L26) ?_ ?_
  ·refine RunC.block (RunC.loop (RunL.loopM (x := z6) (i_ThirdsTimes_s5 a0 a1 a2 a3) (fun (s : (List F) × Int) τ Γ => ∃ (u2 : Nat) (u3 : Nat), WeakLe τ [(1, (sFc a3)), (2, ptr [(sFc a0), (sFc a1), (sFc a2)]), (6, oref 0 u2 0 s.1.length), (15, i64 (a3.length : Int)), (16, i64 s.2)] ∧ DeadLe Γ [⟨u2, some (s.1.map f32)⟩, ⟨u3, none⟩]) ?_ _ _ _ hz_6 ⟨1, 0, ⟨aR, aR, aR, aR, aR, trivial⟩, ⟨⟨rfl, .inr rfl⟩, ⟨rfl, .inl rfl⟩, trivial⟩⟩))
   rintro ⟨L4, v5⟩ τ6 Γ6 y6_ ⟨u2, u3, hw6, hd6⟩ h6_ ho6 hr6
   refine RunC.wl (τ' := [(1, (sFc a3)), (2, ptr [(sFc a0), (sFc a1), (sFc a2)]), (6, oref 0 u2 0 L4.length), (15, i64 (a3.length : Int)), (16, i64 v5)]) (Γ' := [⟨u2, some (L4.map f32)⟩, ⟨u3, none⟩]) hw6 hd6 ?_
   replace h6_ : i_ThirdsTimes_b5 a0 a1 a2 a3 L4 v5 = some y6_ := h6_
   unfold i_ThirdsTimes_b5 at h6_
   refine yS ?_
   rcases oB h6_ with ⟨hc3, h6_⟩ | ⟨hc3, h6_⟩
   ·refine yW<|yl rfl (b true) (LOp.eqb (LOp.lss rfl rfl rfl) hc3)<|zN ?_
    refine yS<|yT<|RunC.skip<|yS<|RunC.block<|zQ<|ym rfl (i64 v5)<|ya rfl (i64 v5)<|zN ?_
    refine zQ<|yl rfl (f32 (some 0)) (LOp.le (LOp.assign rfl rfl) (ALe.fl (by kernel_rfl) (by kernel_rfl)))<|zN ?_
    refine yS<|RunC.cutN (fun τ Γ => ∃ (y11 : F), WeakLe τ [(1, (sFc a3)), (2, ptr [(sFc a0), (sFc a1), (sFc a2)]), (6, oref 0 u2 0 L4.length), (7, i64 v5), (8, f32 y11), (15, i64 (a3.length : Int)), (16, i64 v5)] ∧ DeadLe Γ [⟨u2, some (L4.map f32)⟩, ⟨u3, none⟩] ∧ i_ThirdsTimes_k3 a1 a2 a3 L4 v5 y11 = some y6_) ?_ ?_
    ·refine yS ?_
     rcases oB h6_ with ⟨hc4, h6_⟩ | ⟨hc4, h6_⟩
     ·refine yW<|ym rfl (i64 v5)<|yl rfl (b true) (LOp.eqb (LOp.gtr rfl rfl rfl) hc4)<|zN ?_
      refine yT ?_
      obtain ⟨e6, he5, h6_⟩ := oS h6_
      obtain ⟨x7, hx6, h6_⟩ := oL h6_
      obtain ⟨e8, he7, h6_⟩ := oS h6_
      obtain ⟨r9, hf8, h6_⟩ := oS h6_
      obtain ⟨x10, hx9, h6_⟩ := oL h6_
      refine RunC.region_draw (Γ' := [⟨u2, some (L4.map f32)⟩, ⟨u3, none⟩]) 14 mixed 
       (tm rfl (f32 (some 0)) <|
       (tl rfl (ptr [(sFc a0), (sFc a1), (sFc a2)]) (LOp.fap und47 rfl siz26 rfl rfl rfl) <|
       (tl rfl (sFc a0) (y2 agg26) <|
       (tm rfl (i64 v5) <|
       (tl rfl (ptr [f32 e6]) (LOp.le (LOp.ix (f := f32) und26 siz28 rfl rfl rfl rfl he5) ALe.ptr) <|
       (tl rfl (f32 e6) (y2 agg28) <|
       (tm rfl (sFc a3) <|
       (tm rfl (i64 v5) <|
       (tl rfl (i64 x7) (LOp.eqr (LOp.sub rfl rfl rfl) (congrArg (ik .i64) hx6)) <|
       (tl rfl (ptr [f32 e8]) (LOp.le (LOp.ix (f := f32) und26 siz28 rfl rfl rfl rfl he7) ALe.ptr) <|
       (tl rfl (f32 e8) (y2 agg28) <|
       (TR.d (r := f32 r9) (fs := []) rfl rfl (yc ent76 rfl rfl (bP bN0) (i_mul_ok e6 e8 r9 hf8)) <|
       (TR.d (r := f32 x10) (fs := []) rfl rfl (TOp.eqr (TOp.fop (.inl rfl) rfl (OpF.tmp rfl) (OpF.tmp rfl)) (congrArg (f .f32) hx9)) <|
       (tl rfl (f32 x10) (LOp.assign rfl rfl) <|
       TR.nil)))))))))))))) rfl (by kernel_rfl) rfl fills_nil rfl ?_
      iterate 14 refine ROps.dropS ?_
      refine ROps.drop0<|zN ?_
      exact ⟨x10, ⟨aR, aR, aR, aR, aR, aR, aR, trivial⟩, ⟨⟨rfl, .inr rfl⟩, ⟨rfl, .inl rfl⟩, trivial⟩, h6_⟩
     ·refine yW<|ym rfl (i64 v5)<|yl rfl (b false) (LOp.eqb (LOp.gtr rfl rfl rfl) hc4)<|zN ?_
      refine yF<|RunC.skip ?_
      exact ⟨some 0, ⟨aR, aR, aR, aR, aR, aR, aR, trivial⟩, ⟨⟨rfl, .inr rfl⟩, ⟨rfl, .inl rfl⟩, trivial⟩, h6_⟩
    ·rintro τ7 Γ7 ⟨y11, hw7, hd7, h6_⟩
     refine RunC.wl hw7 hd7 ?_
     unfold i_ThirdsTimes_k3 at h6_
     refine yS ?_
     obtain ⟨e12, he10, h6_⟩ := oS h6_
     obtain ⟨e13, he11, h6_⟩ := oS h6_
     obtain ⟨r14, hf12, h6_⟩ := oS h6_
     obtain ⟨x15, hx13, h6_⟩ := oL h6_
     refine RunC.region_draw (Γ' := [⟨u2, some (L4.map f32)⟩, ⟨u3, none⟩]) 13 mixed 
      (tm rfl (f32 y11) <|
      (tl rfl (ptr [(sFc a1), (sFc a2)]) (LOp.fap und47 rfl siz26 rfl rfl rfl) <|
      (tl rfl (sFc a1) (y2 agg26) <|
      (tm rfl (i64 v5) <|
      (tl rfl (ptr [f32 e12]) (LOp.le (LOp.ix (f := f32) und26 siz28 rfl rfl rfl rfl he10) ALe.ptr) <|
      (tl rfl (f32 e12) (y2 agg28) <|
      (tm rfl (sFc a3) <|
      (tm rfl (i64 v5) <|
      (tl rfl (ptr [f32 e13]) (LOp.le (LOp.ix (f := f32) und26 siz28 rfl rfl rfl rfl he11) ALe.ptr) <|
      (tl rfl (f32 e13) (y2 agg28) <|
      (TR.d (r := f32 r14) (fs := []) rfl rfl (yc ent76 rfl rfl (bP bN0) (i_mul_ok e12 e13 r14 hf12)) <|
      (TR.d (r := f32 x15) (fs := []) rfl rfl (TOp.eqr (TOp.fop (.inl rfl) rfl (OpF.tmp rfl) (OpF.tmp rfl)) (congrArg (f .f32) hx13)) <|
      (tl rfl (f32 x15) (LOp.assign rfl rfl) <|
      TR.nil))))))))))))) rfl (by kernel_rfl) rfl fills_nil rfl ?_
     iterate 13 refine ROps.dropS ?_
     refine ROps.drop0<|zN ?_
     refine yS<|RunC.cutN (fun τ Γ => ∃ (y22 : F), WeakLe τ [(1, (sFc a3)), (2, ptr [(sFc a0), (sFc a1), (sFc a2)]), (6, oref 0 u2 0 L4.length), (8, f32 y22), (15, i64 (a3.length : Int)), (16, i64 v5)] ∧ DeadLe Γ [⟨u2, some (L4.map f32)⟩, ⟨u3, none⟩] ∧ i_ThirdsTimes_k4 L4 v5 y22 = some y6_) ?_ ?_
     ·refine yS ?_
      obtain ⟨x16, hx14, h6_⟩ := oL h6_
      rcases oB h6_ with ⟨hc15, h6_⟩ | ⟨hc15, h6_⟩
      ·refine yW<|ym rfl (i64 v5)<|yl rfl (i64 x16) (LOp.eqr (LOp.add rfl rfl rfl) (congrArg (ik .i64) hx14))<|ym rfl (sFc a3)<|yl rfl (i64 (a3.length : Int)) (LOp.len_sl und26 rfl rfl)<|yl rfl (b true) (LOp.eqb (LOp.lss rfl rfl rfl) hc15)<|zN ?_
       refine RunC.wl (τ' := [(1, (sFc a3)), (2, ptr [(sFc a0), (sFc a1), (sFc a2)]), (6, oref 0 u2 0 L4.length), (7, i64 v5), (8, f32 x15), (15, i64 (a3.length : Int)), (16, i64 v5), (50, b true)]) (Γ' := [⟨u2, some (L4.map f32)⟩, ⟨u3, none⟩]) ⟨aR, aR, aR, aR, aR, aR, aR, aR, trivial⟩ ⟨⟨rfl, .inr rfl⟩, ⟨rfl, .inl rfl⟩, trivial⟩<|yT ?_
       obtain ⟨e17, he16, h6_⟩ := oS h6_
       obtain ⟨x18, hx17, h6_⟩ := oL h6_
       obtain ⟨e19, he18, h6_⟩ := oS h6_
       obtain ⟨r20, hf19, h6_⟩ := oS h6_
       obtain ⟨x21, hx20, h6_⟩ := oL h6_
       refine RunC.region_draw (Γ' := [⟨u2, some (L4.map f32)⟩, ⟨u3, none⟩]) 14 mixed 
        (tm rfl (f32 x15) <|
        (tl rfl (ptr [(sFc a2)]) (LOp.fap und47 rfl siz26 rfl rfl rfl) <|
        (tl rfl (sFc a2) (y2 agg26) <|
        (tm rfl (i64 v5) <|
        (tl rfl (ptr [f32 e17]) (LOp.le (LOp.ix (f := f32) und26 siz28 rfl rfl rfl rfl he16) ALe.ptr) <|
        (tl rfl (f32 e17) (y2 agg28) <|
        (tm rfl (sFc a3) <|
        (tm rfl (i64 v5) <|
        (tl rfl (i64 x18) (LOp.eqr (LOp.add rfl rfl rfl) (congrArg (ik .i64) hx17)) <|
        (tl rfl (ptr [f32 e19]) (LOp.le (LOp.ix (f := f32) und26 siz28 rfl rfl rfl rfl he18) ALe.ptr) <|
        (tl rfl (f32 e19) (y2 agg28) <|
        (TR.d (r := f32 r20) (fs := []) rfl rfl (yc ent76 rfl rfl (bP bN0) (i_mul_ok e17 e19 r20 hf19)) <|
        (TR.d (r := f32 x21) (fs := []) rfl rfl (TOp.eqr (TOp.fop (.inl rfl) rfl (OpF.tmp rfl) (OpF.tmp rfl)) (congrArg (f .f32) hx20)) <|
        (tl rfl (f32 x21) (LOp.assign rfl rfl) <|
        TR.nil)))))))))))))) rfl (by kernel_rfl) rfl fills_nil rfl ?_
       iterate 14 refine ROps.dropS ?_
       refine ROps.drop0<|zN ?_
       exact ⟨x21, ⟨aR, aR, aR, aR, aR, aR, trivial⟩, ⟨⟨rfl, .inr rfl⟩, ⟨rfl, .inl rfl⟩, trivial⟩, h6_⟩
      ·refine yW<|ym rfl (i64 v5)<|yl rfl (i64 x16) (LOp.eqr (LOp.add rfl rfl rfl) (congrArg (ik .i64) hx14))<|ym rfl (sFc a3)<|yl rfl (i64 (a3.length : Int)) (LOp.len_sl und26 rfl rfl)<|yl rfl (b false) (LOp.eqb (LOp.lss rfl rfl rfl) hc15)<|zN ?_
       refine RunC.wl (τ' := [(1, (sFc a3)), (2, ptr [(sFc a0), (sFc a1), (sFc a2)]), (6, oref 0 u2 0 L4.length), (7, i64 v5), (8, f32 x15), (15, i64 (a3.length : Int)), (16, i64 v5), (50, b false)]) (Γ' := [⟨u2, some (L4.map f32)⟩, ⟨u3, none⟩]) ⟨aR, aR, aR, aR, aR, aR, aR, aR, trivial⟩ ⟨⟨rfl, .inr rfl⟩, ⟨rfl, .inl rfl⟩, trivial⟩<|yF<|RunC.skip ?_
       exact ⟨x15, ⟨aR, aR, aR, aR, aR, aR, trivial⟩, ⟨⟨rfl, .inr rfl⟩, ⟨rfl, .inl rfl⟩, trivial⟩, h6_⟩
     ·rintro τ8 Γ8 ⟨y22, hw8, hd8, h6_⟩
      refine RunC.wl hw8 hd8 ?_
      unfold i_ThirdsTimes_k4 at h6_
      obtain ⟨hm21, h6_⟩ := need_some h6_
      refine yW<|ym rfl (oref 0 u2 0 L4.length)<|ym rfl (f32 y22)<|ye rfl (oref 1 (u3 + 1) 0 1) ([⟨u2, some (L4.map f32)⟩, ⟨(u3 + 1), some (([y22] : List F).map f32)⟩]) (TOp.buildSlice_o (g := ⟨u3, none⟩) (za := f32 (some 0)) (qs := [(0, [f32 y22])]) 1 rfl und26 siz28 zer28 rfl zel28 rfl rfl ⟨rfl, ⟨_, ALe.refl _, rfl⟩, trivial⟩ rfl)<|ROps.app (f := f32) (xs := L4) (ys := ([y22] : List F)) (Γ' := [⟨(u2 + 1), some ((L4 ++ ([y22] : List F)).map f32)⟩, ⟨(u3 + 1), some (([y22] : List F).map f32)⟩]) rfl pun26 inf28 rfl rfl rfl rfl rfl rfl rfl rfl rfl (by simp) (ReadAs.own rfl (by simp)) (ones_map (fun _ => rfl)) (ap_by hm21) (ap_mx hm21) rfl<|ya rfl (oref 0 (u2 + 1) 0 (L4.length + 1))<|zN ?_
      refine RunC.wl (τ' := [(1, (sFc a3)), (2, ptr [(sFc a0), (sFc a1), (sFc a2)]), (6, oref 0 (u2 + 1) 0 (L4.length + 1)), (15, i64 (a3.length : Int)), (16, i64 v5)]) (Γ' := [⟨(u2 + 1), some ((L4 ++ ([y22] : List F)).map f32)⟩, ⟨(u3 + 1), none⟩]) ⟨aR, aR, aR, aR, aR, trivial⟩ ⟨⟨rfl, .inr rfl⟩, ⟨rfl, .inl rfl⟩, trivial⟩ ?_
      obtain ⟨x23, hx22, h6_⟩ := oL h6_
      refine yW<|yl rfl (i64 x23) (LOp.eqr (LOp.add rfl rfl rfl) (congrArg (ik .i64) hx22))<|ym rfl (i64 x23)<|zN ?_
      cases oI h6_
      exact ⟨_, rfl, (u2 + 1), (u3 + 1), ⟨aR, aR, (ALe.eq (by rw [(app_len rfl rfl)] <;> rfl)), aR, aR, trivial⟩, ⟨⟨rfl, .inr rfl⟩, ⟨rfl, .inl rfl⟩, trivial⟩⟩
   ·refine yW<|yl rfl (b false) (LOp.eqb (LOp.lss rfl rfl rfl) hc3)<|zN ?_
    refine yS<|yF<|RunC.exit ?_
    cases oI h6_
    have hx := ho6 _ rfl
    exact ⟨L4, u2, u3, ⟨aR, trivial⟩, ⟨⟨rfl, .inr rfl⟩, ⟨rfl, .inl rfl⟩, trivial⟩, hx⟩
  ·rintro τ9 Γ9 ⟨L26, u24, u25, hw9, hd9, rfl⟩
   refine RunC.wl hw9 hd9 ?_
   replace h : i_ThirdsTimes_k5 L26 = some (q0, q1) := h
   unfold i_ThirdsTimes_k5 at h
   refine yS ?_
   obtain ⟨z10, hf23, h⟩ := oS h
   rcases z10 with z10 | z10
   ·replace h := (osum_inl _ _ _).symm.trans h
    obtain ⟨r27, r28, hz11, h⟩ := obind2_some h
    cases hz11
    obtain ⟨hn24, h⟩ := need_some h
    refine yW<|ym rfl (oref 0 u24 0 L26.length)<|ROps.callO (A := [oref 0 u24 0 L26.length]) (args := [oref 0 0 0 L26.length]) (Γc := [⟨0, some (L26.map f32)⟩]) (Γc' := [⟨0, some (r28.map f32)⟩]) (r' := tup [oref 0 u24 0 L26.length, b r27]) (Γ' := [⟨u24, some (r28.map f32)⟩, ⟨u25, none⟩]) [(0, u24)] [] rfl (CallAs.func ent77 rfl rfl) rfl rfl (SelOk.of (ndB_ok rfl) (SelL.arr0 (f := f32) (fun _ => rfl) rfl trivial)) (live_of ⟨⟨_, _, rfl⟩, trivial⟩) (by simp [ren, rens, sigma, rens_f32, rens_f64, rens_i64, rens_ik, rens_str, rens_cp]) rfl (i_allFinite_0o_ok0 L26 r27 r28 hf23) rfl (news_of trivial) (ndB_ok rfl) (by simp [ren, rens, sigma, of_decide_eq_true hn24]) (by simp [backOb, sigma, ren, rens, rens_f32, rens_f64, rens_i64, rens_ik, rens_str, rens_cp] <;> omega)<|yl rfl (oref 0 u24 0 L26.length) y3<|yl rfl (b r27) y3<|ya rfl (oref 0 u24 0 L26.length)<|ya rfl (b r27)<|zN ?_
    refine RunC.ret ?_
    have hq := oI h
    obtain ⟨hq0, hq⟩ := Prod.mk.inj hq
    subst q0
    subst q1
    exact bodyQ.mk (r' := tup [oref 0 u24 0 r28.length, b r27]) [(0, u24)] (.inr rfl) rfl (ndB_ok rfl) (by simp [ren, rens, sigma]) rfl (Res.eq (Res.two rfl (RV.tmp rfl) (RV.tmp rfl)) (by first | rfl | (rw [(show r28.length = L26.length from (of_decide_eq_true hn24))] <;> rfl))) (SelL.arr0 (f := f32) (fun _ => rfl) rfl trivial)
   ·replace h := (osum_inr _ _ _).symm.trans h
    obtain ⟨r29, r30, r31, hz12, h⟩ := obind3_some h
    cases hz12
    obtain ⟨hn25, h⟩ := need_some h
    refine yW<|ym rfl (oref 0 u24 0 L26.length)<|ROps.callO (A := [oref 0 u24 0 L26.length]) (args := [oref 0 0 0 L26.length]) (Γc := [⟨0, some (L26.map f32)⟩]) (Γc' := [⟨0, some (r30.map f32)⟩, ⟨0, some (r31.map f32)⟩]) (r' := tup [oref 1 (u25 + 1) 0 r31.length, b r29]) (Γ' := [⟨u24, some (r30.map f32)⟩, ⟨(u25 + 1), some (r31.map f32)⟩]) [(0, u24)] [(1, (u25 + 1))] rfl (CallAs.func ent77 rfl rfl) rfl rfl (SelOk.of (ndB_ok rfl) (SelL.arr0 (f := f32) (fun _ => rfl) rfl trivial)) (live_of ⟨⟨_, _, rfl⟩, trivial⟩) (by simp [ren, rens, sigma, rens_f32, rens_f64, rens_i64, rens_ik, rens_str, rens_cp]) rfl (i_allFinite_0o_ok1 L26 r29 r30 r31 hf23) rfl (news_of ⟨⟨_, rfl, rfl⟩, trivial⟩) (show List.Nodup [0, 1] from by decide) (by simp [ren, rens, sigma, of_decide_eq_true hn25]) (by simp [backOb, sigma, ren, rens, rens_f32, rens_f64, rens_i64, rens_ik, rens_str, rens_cp] <;> omega)<|yl rfl (oref 1 (u25 + 1) 0 r31.length) y3<|yl rfl (b r29) y3<|ya rfl (oref 1 (u25 + 1) 0 r31.length)<|ya rfl (b r29)<|zN ?_
    refine RunC.ret ?_
    have hq := oI h
    obtain ⟨hq0, hq⟩ := Prod.mk.inj hq
    subst q0
    subst q1
    exact bodyQ.mk (r' := tup [oref 1 (u25 + 1) 0 r31.length, b r29]) [(1, (u25 + 1))] (.inr rfl) rfl (ndB_ok rfl) (by simp [ren, rens, sigma]) rfl (Res.two rfl (RV.tmp rfl) (RV.tmp rfl)) (SelL.arr0 (f := f32) (fun _ => rfl) rfl trivial)
 ·refine yW<|yl rfl (agg [(sFc a0), (sFc a1), (sFc a2)]) (yL agg47 siz47)<|ym rfl (sFc a3)<|yd rfl (b false) (TOp.eqb (TOp.callB (CallAs.func ent81 rfl rfl) (Bors.cons (Bor.agg (bS (bS (bS bN)))) (bS bN)) rfl rfl (i_Thirds_takes_ok a0 a1 a2 a3 r1 hf1)) hc2)<|yl rfl (b true) y0<|zN ?_
  refine yT<|zQ<|ya rfl nilsl<|ya rfl (b false)<|zN ?_
  refine RunC.nil_slot (Γ' := [⟨1, some (([] : List F).map f32)⟩, ⟨0, none⟩]) 4 0 rfl rfl rfl<|RunC.ret ?_
  have hq := oI h
  obtain ⟨hq0, hq⟩ := Prod.mk.inj hq
  subst q0
  subst q1
  exact yB (tup [oref 0 1 0 (([] : List F).length), b false]) [(0, 1)] (Res.eq (Res.two rfl (RV.tmp rfl) (RV.tmp rfl)) (by first | rfl | (rw [(show ([] : List F).length = 0 from rfl)] <;> rfl))) (SelL.arr0 (f := f32) (fun _ => rfl) rfl trivial)
def i_less_0o_2o1_b1 (a0 : F) (a1 : List F) (a2 : List F) (L1 : List F) (v3 : Int) : Option (LR ((List F) × Int) ((List F)) ((List F) × (List F))) :=
 bsel (decide (v3 < ((a1.length : Nat) : Int))) (
  obind (at? L1 v3) fun (e4 : F) =>
  obind (at? a2 v3) fun (e5 : F) =>
  obind (i_mul a0 e5) fun (r6 : F) =>
  olet (fop .sub .f32 e4 r6) fun (x7 : F) =>
  obind (setAt? L1 v3 x7) fun (L8 : List F) =>
  olet (IntKind.i64.wrap (v3 + 1)) fun (x9 : Int) =>
  some (LR.next (L8, x9))) (
  some (LR.out L1))
def i_less_0o_2o1_s1 (a0 : F) (a1 : List F) (a2 : List F) : ((List F) × Int) → Option (LR ((List F) × Int) ((List F)) ((List F) × (List F))) := fun s => i_less_0o_2o1_b1 a0 a1 a2 s.1 s.2
def i_less_0o_2o1_k1 (a2 : List F) (L10 : List F) : Option ((List F) × (List F)) :=
 some (L10, a2)
def i_less_0o_2o1 (a0 : F) (a1 : List F) (a2 : List F) : Option ((List F) × (List F)) :=
 obind (loopM (i_less_0o_2o1_s1 a0 a1 a2) (a1, 0)) fun z => osum z (fun e => i_less_0o_2o1_k1 a2 e) (fun r => some r)
theorem i_less_0o_2o1_ok (a0 : F) (a1 : List F) (a2 : List F) (q0 : List F) (q1 : List F) (h : i_less_0o_2o1 a0 a1 a2 = some (q0, q1)) : Ev Try.prog 84 [oref 0 0 0 a1.length, f32 a0, oref 1 0 0 a2.length] [⟨0, some (a1.map f32)⟩, ⟨0, some (a2.map f32)⟩] (tup []) [⟨0, some (q0.map f32)⟩, ⟨0, some (q1.map f32)⟩] := by
 refine Ev.start Try.func84 rfl rfl 0 (τ := [(0, oref 0 0 0 a1.length), (1, f32 a0), (2, oref 1 0 0 a2.length)]) rfl (Γ' := [⟨0, some (a1.map f32)⟩, ⟨0, some (a2.map f32)⟩]) rfl (n := 50) rfl (g := 2) rfl (by decide) ?_
 unfold i_less_0o_2o1 at h
 refine zQ<|ym rfl (oref 0 0 0 a1.length)<|yl rfl (i64 ((a1.length : Nat) : Int)) (LOp.len_oref und26 rfl rfl)<|ym rfl (i64 0)<|zN ?_
 obtain ⟨z2, hz_2, h⟩ := oS h
 refine RunC.cutN (fun τ Γ => ∃ (L10 : List F), L10.length = a1.length ∧ WeakLe τ [] ∧ DeadLe Γ [⟨0, some (L10.map f32)⟩, ⟨0, some (a2.map f32)⟩] ∧ z2 = .inl L10) ?_ ?_
 ·refine RunC.block (RunC.loop (RunL.loopM (x := z2) (i_less_0o_2o1_s1 a0 a1 a2) (fun (s : (List F) × Int) τ Γ => s.1.length = a1.length ∧ WeakLe τ [(0, oref 0 0 0 a1.length), (1, f32 a0), (2, oref 1 0 0 a2.length), (8, i64 ((a1.length : Nat) : Int)), (9, i64 s.2)] ∧ DeadLe Γ [⟨0, some (s.1.map f32)⟩, ⟨0, some (a2.map f32)⟩]) ?_ _ _ _ hz_2 ⟨rfl, ⟨aR, aR, aR, aR, aR, trivial⟩, ⟨⟨rfl, .inr rfl⟩, ⟨rfl, .inr rfl⟩, trivial⟩⟩))
  rintro ⟨L1, v3⟩ τ2 Γ2 y2_ ⟨hl2, hw2, hd2⟩ h2_ ho2 hr2
  refine RunC.wl (τ' := [(0, oref 0 0 0 a1.length), (1, f32 a0), (2, oref 1 0 0 a2.length), (8, i64 ((a1.length : Nat) : Int)), (9, i64 v3)]) (Γ' := [⟨0, some (L1.map f32)⟩, ⟨0, some (a2.map f32)⟩]) hw2 hd2 ?_
  replace hl2 : L1.length = a1.length := hl2
  replace h2_ : i_less_0o_2o1_b1 a0 a1 a2 L1 v3 = some y2_ := h2_
  unfold i_less_0o_2o1_b1 at h2_
  refine yS ?_
  rcases oB h2_ with ⟨hc1, h2_⟩ | ⟨hc1, h2_⟩
  ·refine yW<|yl rfl (b true) (LOp.eqb (LOp.lss rfl rfl rfl) hc1)<|zN ?_
   refine yS<|yT<|RunC.skip<|yS<|RunC.block<|zQ<|ym rfl (i64 v3)<|ya rfl (i64 v3)<|zN ?_
   obtain ⟨e4, he2, h2_⟩ := oS h2_
   obtain ⟨e5, he3, h2_⟩ := oS h2_
   obtain ⟨r6, hf4, h2_⟩ := oS h2_
   obtain ⟨x7, hx5, h2_⟩ := oL h2_
   obtain ⟨L8, he6, h2_⟩ := oS h2_
   refine RunC.region_draw (Γ' := [⟨0, some (L1.map f32)⟩, ⟨0, some (a2.map f32)⟩]) 12 mixed 
    (tm rfl (oref 0 0 0 a1.length) <|
    (tm rfl (i64 v3) <|
    (TR.d (r := optr 0 0 v3.toNat) (fs := []) rfl rfl (TOp.ixo und26 siz28 rfl rfl rfl (at_in he2 hl2) rfl) <|
    (TR.d (r := f32 e4) (fs := []) rfl rfl (TOp.load1_o rfl (at_cell he2) agg28 rfl rfl) <|
    (tm rfl (f32 a0) <|
    (tm rfl (oref 1 0 0 a2.length) <|
    (tm rfl (i64 v3) <|
    (TR.d (r := optr 1 0 v3.toNat) (fs := []) rfl rfl (TOp.ixo und26 siz28 rfl rfl rfl (at_in he3 rfl) rfl) <|
    (TR.d (r := f32 e5) (fs := []) rfl rfl (TOp.load1_o rfl (at_cell he3) agg28 rfl rfl) <|
    (TR.d (r := f32 r6) (fs := []) rfl rfl (yc ent76 rfl rfl (bP bN0) (i_mul_ok a0 e5 r6 hf4)) <|
    (TR.d (r := f32 x7) (fs := []) rfl rfl (TOp.eqr (TOp.fop (.inr (.inl rfl)) rfl (OpF.tmp rfl) (OpF.tmp rfl)) (congrArg (f .f32) hx5)) <|
    (TR.d (r := optr 0 0 v3.toNat) (fs := []) rfl rfl (TOp.ixo und26 siz28 rfl rfl rfl (set_in he6 hl2) rfl) <|
    TR.nil)))))))))))) rfl (by kernel_rfl) rfl fills_nil rfl ?_
   iterate 12 refine ROps.dropS ?_
   refine ROps.drop0<|ROps.st (f := f32) (i := v3) (Γ' := [⟨0, some (L8.map f32)⟩, ⟨0, some (a2.map f32)⟩]) rfl siz28 rfl rfl rfl aR rfl rfl rfl he6 rfl<|zN ?_
   refine RunC.wl (τ' := [(0, oref 0 0 0 a1.length), (1, f32 a0), (2, oref 1 0 0 a2.length), (8, i64 ((a1.length : Nat) : Int)), (9, i64 v3)]) (Γ' := [⟨0, some (L8.map f32)⟩, ⟨0, some (a2.map f32)⟩]) ⟨aR, aR, aR, aR, aR, trivial⟩ ⟨⟨rfl, .inr rfl⟩, ⟨rfl, .inr rfl⟩, trivial⟩ ?_
   obtain ⟨x9, hx7, h2_⟩ := oL h2_
   refine yW<|yl rfl (i64 x9) (LOp.eqr (LOp.add rfl rfl rfl) (congrArg (ik .i64) hx7))<|ym rfl (i64 x9)<|zN ?_
   cases oI h2_
   exact ⟨_, rfl, ((setAt?_len he6).trans hl2), ⟨aR, aR, aR, aR, aR, trivial⟩, ⟨⟨rfl, .inr rfl⟩, ⟨rfl, .inr rfl⟩, trivial⟩⟩
  ·refine yW<|yl rfl (b false) (LOp.eqb (LOp.lss rfl rfl rfl) hc1)<|zN ?_
   refine yS<|yF<|RunC.exit ?_
   cases oI h2_
   have hx := ho2 _ rfl
   exact ⟨L1, hl2, trivial, ⟨⟨rfl, .inr rfl⟩, ⟨rfl, .inr rfl⟩, trivial⟩, hx⟩
 ·rintro τ3 Γ3 ⟨L10, hl11, hw3, hd3, rfl⟩
  replace h : i_less_0o_2o1_k1 a2 L10 = some (q0, q1) := h
  unfold i_less_0o_2o1_k1 at h
  refine bodyQ.wl hw3 hd3 ?_
  have hq := oI h
  obtain ⟨hq0, hq⟩ := Prod.mk.inj hq
  subst q0
  subst q1
  exact yB (tup []) [(0, 0), (1, 0)] (Res.zero rfl) (SelL.arr (f := f32) (fun _ => rfl) rfl (SelL.arr (f := f32) (fun _ => rfl) rfl trivial))
end
end Go.Proofs.Ytkdociaoknmgbaa
