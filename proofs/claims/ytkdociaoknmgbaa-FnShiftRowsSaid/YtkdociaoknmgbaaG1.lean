/- Generated. -/
import Derived.Test.YtkdociaoknmgbaaG0
namespace Go.Proofs.Ytkdociaoknmgbaa
open Go Go.AM Go.AM.AV
set_option maxRecDepth 20000
set_option maxHeartbeats 4000000
set_option linter.unusedVariables false
set_option linter.unusedSimpArgs false
noncomputable section
def i_ShiftSolve_b3 (a0 : List F) (L11 : List F) (v15 : Int) (y20 : F) (v21 : Int) : Option (LR (F × Int) (F) (Bool × (List F))) :=
 bsel (decide (v21 < ((L11.length : Nat) : Int))) (
  obind (at? L11 v21) fun (e22 : F) =>
  olet (IntKind.i64.wrap (v15 - v21)) fun (x23 : Int) =>
  obind (at? a0 x23) fun (e24 : F) =>
  obind (i_mul e22 e24) fun (r25 : F) =>
  olet (fop .add .f32 y20 r25) fun (x26 : F) =>
  olet (IntKind.i64.wrap (v21 + 1)) fun (x27 : Int) =>
  some (LR.next (x26, x27))) (
  some (LR.out y20))
def i_ShiftSolve_s3 (a0 : List F) (L11 : List F) (v15 : Int) : (F × Int) → Option (LR (F × Int) (F) (Bool × (List F))) := fun s => i_ShiftSolve_b3 a0 L11 v15 s.1 s.2
def i_ShiftSolve_b4 (L11 : List F) (v15 : Int) (r18 : List F) (x31 : F) (L32 : List F) (v34 : Int) : Option (LR ((List F) × Int) ((List F)) (Bool × (List F))) :=
 bsel (decide (v34 < ((L11.length : Nat) : Int))) (
  obind (at? L32 v34) fun (e35 : F) =>
  olet (IntKind.i64.wrap (v15 - 1)) fun (x36 : Int) =>
  olet (IntKind.i64.wrap (x36 - v34)) fun (x37 : Int) =>
  obind (at? r18 x37) fun (e38 : F) =>
  obind (i_mul x31 e38) fun (r39 : F) =>
  olet (fop .sub .f32 e35 r39) fun (x40 : F) =>
  obind (setAt? L32 v34 x40) fun (L41 : List F) =>
  olet (IntKind.i64.wrap (v34 + 1)) fun (x42 : Int) =>
  some (LR.next (L41, x42))) (
  some (LR.out L32))
def i_ShiftSolve_s4 (L11 : List F) (v15 : Int) (r18 : List F) (x31 : F) : ((List F) × Int) → Option (LR ((List F) × Int) ((List F)) (Bool × (List F))) := fun s => i_ShiftSolve_b4 L11 v15 r18 x31 s.1 s.2
def i_ShiftSolve_k4 (L11 : List F) (v15 : Int) (r17 : F) (r18 : List F) (r19 : List F) (x31 : F) (L43 : List F) : Option (LR ((List F) × (List F) × (List F) × F × Int) ((List F)) (Bool × (List F))) :=
 need (apok 4 L11.length 1) <|
 olet (IntKind.i64.wrap (v15 + 1)) fun (x45 : Int) =>
 some (LR.next ((L43 ++ ([x31] : List F)), r18, r19, r17, x45))
def i_ShiftSolve_k3 (a1 : List F) (L11 : List F) (v15 : Int) (r17 : F) (r18 : List F) (r19 : List F) (y28 : F) : Option (LR ((List F) × (List F) × (List F) × F × Int) ((List F)) (Bool × (List F))) :=
 obind (at? a1 v15) fun (e29 : F) =>
 olet (fop .sub .f32 e29 y28) fun (x30 : F) =>
 olet (fop .quo .f32 x30 r17) fun (x31 : F) =>
 obind (loopM (i_ShiftSolve_s4 L11 v15 r18 x31) (L11, 0)) fun z => osum z (fun e => i_ShiftSolve_k4 L11 v15 r17 r18 r19 x31 e) (fun r => some (LR.ret r))
def i_ShiftSolve_b5 (a0 : List F) (a1 : List F) (L11 : List F) (L12 : List F) (L13 : List F) (y14 : F) (v15 : Int) : Option (LR ((List F) × (List F) × (List F) × F × Int) ((List F)) (Bool × (List F))) :=
 bsel (decide (v15 < (a0.length : Int))) (
  obind4 (i_reflections_next_0p0_C00o1_1o2 a0 v15 y14 L12 L13) fun (r16 : Bool) (r17 : F) (r18 : List F) (r19 : List F) =>
  bsel (!r16) (
   some (LR.ret (false, ([] : List F)))) (
   obind (loopM (i_ShiftSolve_s3 a0 L11 v15) (some 0, 0)) fun z => osum z (fun e => i_ShiftSolve_k3 a1 L11 v15 r17 r18 r19 e) (fun r => some (LR.ret r)))) (
  some (LR.out L11))
def i_ShiftSolve_s5 (a0 : List F) (a1 : List F) : ((List F) × (List F) × (List F) × F × Int) → Option (LR ((List F) × (List F) × (List F) × F × Int) ((List F)) (Bool × (List F))) := fun s => i_ShiftSolve_b5 a0 a1 s.1 s.2.1 s.2.2.1 s.2.2.2.1 s.2.2.2.2
def i_ShiftSolve_k5 (L50 : List F) : Option (Bool × (List F)) :=
 obind (i_allFinite_0o L50) (fun z => osum z (fun y => obind2 (some y) fun (r51 : Bool) (r52 : List F) =>
  need (decide (r52.length = L50.length)) <|
  some (r51, r52)) (fun y => obind3 (some y) fun (r53 : Bool) (r54 : List F) (r55 : List F) =>
  need (decide (r54.length = L50.length)) <|
  some (r53, r55)))
def i_ShiftSolve (a0 : List F) (a1 : List F) : Option (Bool × (List F)) :=
 obind (i_isShiftList a0) fun (r1 : Bool) =>
 bsel r1 (
  bsel (!decide ((a1.length : Int) = (a0.length : Int))) (
   some (false, ([] : List F))) (
   obind (i_areFinite a1) fun (r2 : Bool) =>
   bsel r2 (
    obind (at? a0 0) fun (e3 : F) =>
    obind (at? a1 0) fun (e4 : F) =>
    obind (at? a0 0) fun (e5 : F) =>
    olet (fop .quo .f32 e4 e5) fun (x6 : F) =>
    obind (loopM (i_ShiftSolve_s5 a0 a1) (([x6] : List F), ([] : List F), ([] : List F), e3, 1)) fun z => osum z (fun e => i_ShiftSolve_k5 e) (fun r => some r)) (
    some (false, ([] : List F))))) (
  some (false, ([] : List F)))
theorem i_ShiftSolve_ok (a0 : List F) (a1 : List F) (q0 : Bool) (q1 : List F) (h : i_ShiftSolve a0 a1 = some (q0, q1)) : Ev Try.prog 19 [(sFc a0), (sFc a1)] [] (tup [oref 0 0 0 q1.length, b q0]) [⟨0, some (q1.map f32)⟩] := by
 refine yE Try.func19 5 229 0 [(0, (sFc a0)), (1, (sFc a1))] [⟨0, none⟩, ⟨0, none⟩, ⟨0, none⟩, ⟨0, none⟩, ⟨0, none⟩] rfl ?_
 unfold i_ShiftSolve at h
 refine zQ<|ya rfl nilsl<|ya rfl (b false)<|zN ?_
 refine yS<|yS ?_
 obtain ⟨r1, hf1, h⟩ := oS h
 rcases oB h with ⟨hc2, h⟩ | ⟨hc2, h⟩
 ·rcases oB h with ⟨hc3, h⟩ | ⟨hc3, h⟩
  ·refine yW<|ym rfl (sFc a0)<|yd rfl (b true) (TOp.eqb (yc ent73 rfl rfl (bS bN) (i_isShiftList_ok a0 r1 hf1)) hc2)<|yl rfl (b false) y1<|ym rfl (b false)<|ym rfl (sFc a1)<|yl rfl (i64 (a1.length : Int)) (LOp.len_sl und26 rfl rfl)<|ym rfl (sFc a0)<|yl rfl (i64 (a0.length : Int)) (LOp.len_sl und26 rfl rfl)<|yl rfl (b true) (LOp.eqb (LOp.neq rfl rfl rfl) hc3)<|yl rfl (b true) yp<|ym rfl (b true)<|ROps.s rfl rfl rfl<|ROps.s rfl rfl rfl<|ROps.s rfl rfl rfl<|yl rfl (b true) yq<|zN ?_
   refine RunC.wl (τ' := [(0, (sFc a0)), (1, (sFc a1)), (28, b true)]) (Γ' := [⟨0, none⟩, ⟨0, none⟩, ⟨0, none⟩, ⟨0, none⟩, ⟨0, none⟩]) ⟨aR, aR, aR, trivial⟩ ⟨⟨rfl, .inr rfl⟩, ⟨rfl, .inr rfl⟩, ⟨rfl, .inr rfl⟩, ⟨rfl, .inr rfl⟩, ⟨rfl, .inr rfl⟩, trivial⟩<|yT<|zQ<|ya rfl nilsl<|ya rfl (b false)<|zN ?_
   refine RunC.nil_slot (Γ' := [⟨1, some (([] : List F).map f32)⟩, ⟨0, none⟩, ⟨0, none⟩, ⟨0, none⟩, ⟨0, none⟩]) 4 0 rfl rfl rfl<|RunC.ret ?_
   have hq := oI h
   obtain ⟨hq0, hq⟩ := Prod.mk.inj hq
   subst q0
   subst q1
   exact yB (tup [oref 0 1 0 (([] : List F).length), b false]) [(0, 1)] (Res.eq (Res.two rfl (RV.tmp rfl) (RV.tmp rfl)) (by first | rfl | (rw [(show ([] : List F).length = 0 from rfl)] <;> rfl))) (SelL.arr0 (f := f32) (fun _ => rfl) rfl trivial)
  ·obtain ⟨r2, hf4, h⟩ := oS h
   rcases oB h with ⟨hc5, h⟩ | ⟨hc5, h⟩
   ·refine yW<|ym rfl (sFc a0)<|yd rfl (b true) (TOp.eqb (yc ent73 rfl rfl (bS bN) (i_isShiftList_ok a0 r1 hf1)) hc2)<|yl rfl (b false) y1<|ym rfl (b false)<|ym rfl (sFc a1)<|yl rfl (i64 (a1.length : Int)) (LOp.len_sl und26 rfl rfl)<|ym rfl (sFc a0)<|yl rfl (i64 (a0.length : Int)) (LOp.len_sl und26 rfl rfl)<|yl rfl (b false) (LOp.eqb (LOp.neq rfl rfl rfl) hc3)<|yl rfl (b false) yp<|ym rfl (b false)<|ym rfl (sFc a1)<|yd rfl (b true) (TOp.eqb (yc ent74 rfl rfl (bS bN) (i_areFinite_ok a1 r2 hf4)) hc5)<|yl rfl (b false) y1<|yl rfl (b false) yp<|zN ?_
    refine RunC.wl (τ' := [(0, (sFc a0)), (1, (sFc a1)), (28, b false)]) (Γ' := [⟨0, none⟩, ⟨0, none⟩, ⟨0, none⟩, ⟨0, none⟩, ⟨0, none⟩]) ⟨aR, aR, aR, trivial⟩ ⟨⟨rfl, .inr rfl⟩, ⟨rfl, .inr rfl⟩, ⟨rfl, .inr rfl⟩, ⟨rfl, .inr rfl⟩, ⟨rfl, .inr rfl⟩, trivial⟩<|yF<|RunC.skip<|yS ?_
    obtain ⟨e3, he6, h⟩ := oS h
    obtain ⟨e4, he7, h⟩ := oS h
    obtain ⟨e5, he8, h⟩ := oS h
    obtain ⟨x6, hx9, h⟩ := oL h
    refine RunC.region_draw (Γ' := [⟨1, some [nilsl, nilsl, f32 e3]⟩, ⟨1, some (([x6] : List F).map f32)⟩, ⟨0, none⟩, ⟨0, none⟩, ⟨0, none⟩]) 15 mixed 
     (tm rfl (sFc a0) <|
     (tl rfl (ptr [f32 e3]) (LOp.le (LOp.ix (f := f32) und26 siz28 rfl rfl rfl rfl he6) ALe.ptr) <|
     (tl rfl (f32 e3) (y2 agg28) <|
     (tl rfl (agg [nilsl, nilsl, f32 e3]) (LOp.build (qs := [(2, [f32 e3])]) zer93 zok93 und93 plc93 rfl ⟨rfl, ⟨_, ALe.refl _, rfl⟩, trivial⟩ rfl) <|
     (TR.d (r := optr 0 1 0) (fs := [(0, [nilsl, nilsl, f32 e3])]) rfl rfl (TOp.box_o (g := ⟨0, none⟩) 0 rfl rfl rfl rfl) <|
     (tm rfl (sFc a1) <|
     (tl rfl (ptr [f32 e4]) (LOp.le (LOp.ix (f := f32) und26 siz28 rfl rfl rfl rfl he7) ALe.ptr) <|
     (tl rfl (f32 e4) (y2 agg28) <|
     (tm rfl (sFc a0) <|
     (tl rfl (ptr [f32 e5]) (LOp.le (LOp.ix (f := f32) und26 siz28 rfl rfl rfl rfl he8) ALe.ptr) <|
     (tl rfl (f32 e5) (y2 agg28) <|
     (TR.d (r := f32 x6) (fs := []) rfl rfl (TOp.eqr (TOp.fop (.inr (.inr (.inr rfl))) rfl (OpF.tmp rfl) (OpF.tmp rfl)) (congrArg (f .f32) hx9)) <|
     (TR.d (r := oref 1 1 0 1) (fs := [(1, (([x6] : List F).map f32))]) rfl rfl (TOp.buildSlice_o (g := ⟨0, none⟩) (za := f32 (some 0)) (qs := [(0, [f32 x6])]) 1 rfl und26 siz28 zer28 rfl zel28 rfl rfl ⟨rfl, ⟨_, ALe.refl _, rfl⟩, trivial⟩ rfl) <|
     (tl rfl (optr 0 1 0) (LOp.assign rfl rfl) <|
     (tl rfl (oref 1 1 0 1) (LOp.assign rfl rfl) <|
     TR.nil))))))))))))))) rfl (by kernel_rfl) rfl (fills_of (by show List.Nodup [0, 1]; decide) ⟨⟨_, rfl⟩, ⟨_, rfl⟩, trivial⟩) rfl ?_
    iterate 15 refine ROps.dropS ?_
    refine ROps.drop0<|zN ?_
    refine RunC.wl (τ' := [(0, (sFc a0)), (1, (sFc a1)), (6, optr 0 1 0), (7, oref 1 1 0 1)]) (Γ' := [⟨1, some [nilsl, nilsl, f32 e3]⟩, ⟨1, some (([x6] : List F).map f32)⟩, ⟨0, none⟩, ⟨0, none⟩, ⟨0, none⟩]) ⟨aR, aR, aR, aR, trivial⟩ ⟨⟨rfl, .inr rfl⟩, ⟨rfl, .inr rfl⟩, ⟨rfl, .inr rfl⟩, ⟨rfl, .inr rfl⟩, ⟨rfl, .inr rfl⟩, trivial⟩<|yS<|zQ<|ya rfl (i64 1)<|zN ?_
    refine RunC.nil_cell (l' := [oref 2 1 0 0, nilsl, f32 e3]) (Γ' := [⟨1, some [oref 2 1 0 0, nilsl, f32 e3]⟩, ⟨1, some (([x6] : List F).map f32)⟩, ⟨1, some (([] : List F).map f32)⟩, ⟨0, none⟩, ⟨0, none⟩]) 0 0 2 rfl rfl rfl rfl rfl<|RunC.nil_cell (l' := [oref 2 1 0 0, oref 3 1 0 0, f32 e3]) (Γ' := [⟨1, some [oref 2 1 0 0, oref 3 1 0 0, f32 e3]⟩, ⟨1, some (([x6] : List F).map f32)⟩, ⟨1, some (([] : List F).map f32)⟩, ⟨1, some (([] : List F).map f32)⟩, ⟨0, none⟩]) 0 1 3 rfl rfl rfl rfl rfl ?_
    obtain ⟨z6, hz_6, h⟩ := oS h
    refine RunC.cutN (fun τ Γ => ∃ (L50 : List F) (u46 : Nat) (u47 : Nat) (u48 : Nat) (u49 : Nat), WeakLe τ [(7, oref 1 u46 0 L50.length)] ∧ DeadLe Γ [⟨1, none⟩, ⟨u46, some (L50.map f32)⟩, ⟨u47, none⟩, ⟨u48, none⟩, ⟨u49, none⟩] ∧ z6 = .inl L50) ?_ ?_
    ·refine RunC.block (RunC.loop (RunL.loopM (x := z6) (i_ShiftSolve_s5 a0 a1) (fun (s : (List F) × (List F) × (List F) × F × Int) τ Γ => ∃ (u7 : Nat) (u8 : Nat) (u9 : Nat) (u10 : Nat), WeakLe τ [(0, (sFc a0)), (1, (sFc a1)), (6, optr 0 1 0), (7, oref 1 u7 0 s.1.length), (8, i64 s.2.2.2.2)] ∧ DeadLe Γ [⟨1, some [oref 2 u8 0 s.2.1.length, oref 3 u9 0 s.2.2.1.length, f32 s.2.2.2.1]⟩, ⟨u7, some (s.1.map f32)⟩, ⟨u8, some (s.2.1.map f32)⟩, ⟨u9, some (s.2.2.1.map f32)⟩, ⟨u10, none⟩]) ?_ _ _ _ hz_6 ⟨1, 1, 1, 0, ⟨aR, aR, aR, aR, aR, trivial⟩, ⟨⟨rfl, .inr (by first | rfl | simp)⟩, ⟨rfl, .inr rfl⟩, ⟨rfl, .inr rfl⟩, ⟨rfl, .inr rfl⟩, ⟨rfl, .inl rfl⟩, trivial⟩⟩))
     rintro ⟨L11, L12, L13, y14, v15⟩ τ6 Γ6 y6_ ⟨u7, u8, u9, u10, hw6, hd6⟩ h6_ ho6 hr6
     refine RunC.wl (τ' := [(0, (sFc a0)), (1, (sFc a1)), (6, optr 0 1 0), (7, oref 1 u7 0 L11.length), (8, i64 v15)]) (Γ' := [⟨1, some [oref 2 u8 0 L12.length, oref 3 u9 0 L13.length, f32 y14]⟩, ⟨u7, some (L11.map f32)⟩, ⟨u8, some (L12.map f32)⟩, ⟨u9, some (L13.map f32)⟩, ⟨u10, none⟩]) hw6 hd6 ?_
     replace h6_ : i_ShiftSolve_b5 a0 a1 L11 L12 L13 y14 v15 = some y6_ := h6_
     unfold i_ShiftSolve_b5 at h6_
     refine yS<|yS ?_
     rcases oB h6_ with ⟨hc10, h6_⟩ | ⟨hc10, h6_⟩
     ·refine yW<|ym rfl (i64 v15)<|ym rfl (sFc a0)<|yl rfl (i64 (a0.length : Int)) (LOp.len_sl und26 rfl rfl)<|yl rfl (b true) (LOp.eqb (LOp.lss rfl rfl rfl) hc10)<|zN ?_
      refine yT<|RunC.skip<|yS<|RunC.block<|yS<|yS ?_
      obtain ⟨r16, r17, r18, r19, hf11, h6_⟩ := obind4_some h6_
      rcases oB h6_ with ⟨hc12, h6_⟩ | ⟨hc12, h6_⟩
      ·refine yW<|ym rfl (optr 0 1 0)<|ym rfl (sFc a0)<|ym rfl (i64 v15)<|ROps.callO (A := [optr 0 1 0, (sFc a0), i64 v15]) (args := [optr 0 0 0, (sFc a0), i64 v15]) (Γc := [⟨0, some [oref 1 0 0 L12.length, oref 2 0 0 L13.length, f32 y14]⟩, ⟨0, some (L12.map f32)⟩, ⟨0, some (L13.map f32)⟩]) (Γc' := [⟨0, some [oref 1 1 0 r18.length, oref 2 1 0 r19.length, f32 r17]⟩, ⟨1, some (r18.map f32)⟩, ⟨1, some (r19.map f32)⟩]) (r' := b r16) (Γ' := [⟨1, some [oref 2 (u8 + 1) 0 r18.length, oref 3 (u9 + 1) 0 r19.length, f32 r17]⟩, ⟨u7, some (L11.map f32)⟩, ⟨(u8 + 1), some (r18.map f32)⟩, ⟨(u9 + 1), some (r19.map f32)⟩, ⟨u10, none⟩]) [(0, 1), (2, u8), (3, u9)] [] rfl (CallAs.func ent75 rfl rfl) rfl rfl (SelOk.of (show List.Nodup [0, 2, 3] from by decide) (SelL.cells0 rfl (by simp [ren, rens, sigma, rens_f32, rens_f64, rens_i64, rens_ik, rens_str, rens_cp]) rfl (SelL.arr0 (f := f32) (fun _ => rfl) rfl (SelL.arr0 (f := f32) (fun _ => rfl) rfl trivial)))) (live_of ⟨⟨_, _, rfl⟩, ⟨_, _, rfl⟩, ⟨_, _, rfl⟩, trivial⟩) (by simp [ren, rens, sigma, rens_f32, rens_f64, rens_i64, rens_ik, rens_str, rens_cp]) (lts_cons rfl (lts_cons (lt_slk (fun _ => rfl)) (lts_cons rfl lts_nil))) (i_reflections_next_0p0_C00o1_1o2_ok a0 v15 y14 L12 L13 r16 r17 r18 r19 hf11) rfl (news_of trivial) (show List.Nodup [0, 2, 3] from by decide) (by simp [ren, rens, sigma]) (by simp [backOb, sigma, ren, rens, rens_f32, rens_f64, rens_i64, rens_ik, rens_str, rens_cp] <;> omega)<|yl rfl (b true) (LOp.eqb (LOp.not rfl rfl) hc12)<|zN ?_
       refine yT<|zQ<|ya rfl nilsl<|ya rfl (b false)<|zN ?_
       refine RunC.nil_slot (Γ' := [⟨1, some [oref 2 (u8 + 1) 0 r18.length, oref 3 (u9 + 1) 0 r19.length, f32 r17]⟩, ⟨u7, some (L11.map f32)⟩, ⟨(u8 + 1), some (r18.map f32)⟩, ⟨(u9 + 1), some (r19.map f32)⟩, ⟨(u10 + 1), some (([] : List F).map f32)⟩]) 4 4 rfl rfl rfl<|RunC.ret ?_
       cases oI h6_
       have hx7_ := hr6 _ rfl
       subst hx7_
       have hq := oI h
       obtain ⟨hq0, hq⟩ := Prod.mk.inj hq
       subst q0
       subst q1
       exact bodyQ.mk (r' := tup [oref 4 (u10 + 1) 0 (([] : List F).length), b false]) [(4, (u10 + 1))] (.inr rfl) rfl (show List.Nodup [4] from by decide) (by simp [ren, rens, sigma]) rfl (Res.eq (Res.two rfl (RV.tmp rfl) (RV.tmp rfl)) (by first | rfl | (rw [(show ([] : List F).length = 0 from rfl)] <;> rfl))) (SelL.arr0 (f := f32) (fun _ => rfl) rfl trivial)
      ·refine yW<|ym rfl (optr 0 1 0)<|ym rfl (sFc a0)<|ym rfl (i64 v15)<|ROps.callO (A := [optr 0 1 0, (sFc a0), i64 v15]) (args := [optr 0 0 0, (sFc a0), i64 v15]) (Γc := [⟨0, some [oref 1 0 0 L12.length, oref 2 0 0 L13.length, f32 y14]⟩, ⟨0, some (L12.map f32)⟩, ⟨0, some (L13.map f32)⟩]) (Γc' := [⟨0, some [oref 1 1 0 r18.length, oref 2 1 0 r19.length, f32 r17]⟩, ⟨1, some (r18.map f32)⟩, ⟨1, some (r19.map f32)⟩]) (r' := b r16) (Γ' := [⟨1, some [oref 2 (u8 + 1) 0 r18.length, oref 3 (u9 + 1) 0 r19.length, f32 r17]⟩, ⟨u7, some (L11.map f32)⟩, ⟨(u8 + 1), some (r18.map f32)⟩, ⟨(u9 + 1), some (r19.map f32)⟩, ⟨u10, none⟩]) [(0, 1), (2, u8), (3, u9)] [] rfl (CallAs.func ent75 rfl rfl) rfl rfl (SelOk.of (show List.Nodup [0, 2, 3] from by decide) (SelL.cells0 rfl (by simp [ren, rens, sigma, rens_f32, rens_f64, rens_i64, rens_ik, rens_str, rens_cp]) rfl (SelL.arr0 (f := f32) (fun _ => rfl) rfl (SelL.arr0 (f := f32) (fun _ => rfl) rfl trivial)))) (live_of ⟨⟨_, _, rfl⟩, ⟨_, _, rfl⟩, ⟨_, _, rfl⟩, trivial⟩) (by simp [ren, rens, sigma, rens_f32, rens_f64, rens_i64, rens_ik, rens_str, rens_cp]) (lts_cons rfl (lts_cons (lt_slk (fun _ => rfl)) (lts_cons rfl lts_nil))) (i_reflections_next_0p0_C00o1_1o2_ok a0 v15 y14 L12 L13 r16 r17 r18 r19 hf11) rfl (news_of trivial) (show List.Nodup [0, 2, 3] from by decide) (by simp [ren, rens, sigma]) (by simp [backOb, sigma, ren, rens, rens_f32, rens_f64, rens_i64, rens_ik, rens_str, rens_cp] <;> omega)<|yl rfl (b false) (LOp.eqb (LOp.not rfl rfl) hc12)<|zN ?_
       refine yF<|RunC.skip<|zQ<|yl rfl (f32 (some 0)) (LOp.le (LOp.assign rfl rfl) (ALe.fl (by kernel_rfl) (by kernel_rfl)))<|zN ?_
       refine yS<|zQ<|ym rfl (oref 1 u7 0 L11.length)<|yl rfl (i64 ((L11.length : Nat) : Int)) (LOp.len_oref und26 rfl rfl)<|ym rfl (i64 0)<|zN ?_
       obtain ⟨z8, hz_8, h6_⟩ := oS h6_
       refine RunC.cutN (fun τ Γ => ∃ (y28 : F), WeakLe τ [(0, (sFc a0)), (1, (sFc a1)), (6, optr 0 1 0), (7, oref 1 u7 0 L11.length), (8, i64 v15), (9, f32 y28)] ∧ DeadLe Γ [⟨1, some [oref 2 (u8 + 1) 0 r18.length, oref 3 (u9 + 1) 0 r19.length, f32 r17]⟩, ⟨u7, some (L11.map f32)⟩, ⟨(u8 + 1), some (r18.map f32)⟩, ⟨(u9 + 1), some (r19.map f32)⟩, ⟨u10, none⟩] ∧ z8 = .inl y28) ?_ ?_
       ·refine RunC.block (RunC.loop (RunL.loopM (x := z8) (i_ShiftSolve_s3 a0 L11 v15) (fun (s : F × Int) τ Γ => WeakLe τ [(0, (sFc a0)), (1, (sFc a1)), (6, optr 0 1 0), (7, oref 1 u7 0 L11.length), (8, i64 v15), (9, f32 s.1), (53, oref 1 u7 0 L11.length), (54, i64 ((L11.length : Nat) : Int)), (55, i64 s.2)] ∧ DeadLe Γ [⟨1, some [oref 2 (u8 + 1) 0 r18.length, oref 3 (u9 + 1) 0 r19.length, f32 r17]⟩, ⟨u7, some (L11.map f32)⟩, ⟨(u8 + 1), some (r18.map f32)⟩, ⟨(u9 + 1), some (r19.map f32)⟩, ⟨u10, none⟩]) ?_ _ _ _ hz_8 ⟨⟨aR, aR, aR, aR, aR, aR, aR, aR, aR, trivial⟩, ⟨⟨rfl, .inr rfl⟩, ⟨rfl, .inr rfl⟩, ⟨rfl, .inr rfl⟩, ⟨rfl, .inr rfl⟩, ⟨rfl, .inl rfl⟩, trivial⟩⟩))
        rintro ⟨y20, v21⟩ τ8 Γ8 y8_ ⟨hw8, hd8⟩ h8_ ho8 hr8
        refine RunC.wl (τ' := [(0, (sFc a0)), (1, (sFc a1)), (6, optr 0 1 0), (7, oref 1 u7 0 L11.length), (8, i64 v15), (9, f32 y20), (53, oref 1 u7 0 L11.length), (54, i64 ((L11.length : Nat) : Int)), (55, i64 v21)]) (Γ' := [⟨1, some [oref 2 (u8 + 1) 0 r18.length, oref 3 (u9 + 1) 0 r19.length, f32 r17]⟩, ⟨u7, some (L11.map f32)⟩, ⟨(u8 + 1), some (r18.map f32)⟩, ⟨(u9 + 1), some (r19.map f32)⟩, ⟨u10, none⟩]) hw8 hd8 ?_
        replace h8_ : i_ShiftSolve_b3 a0 L11 v15 y20 v21 = some y8_ := h8_
        unfold i_ShiftSolve_b3 at h8_
        refine yS ?_
        rcases oB h8_ with ⟨hc13, h8_⟩ | ⟨hc13, h8_⟩
        ·refine yW<|yl rfl (b true) (LOp.eqb (LOp.lss rfl rfl rfl) hc13)<|zN ?_
         refine yS<|yT<|RunC.skip<|yS<|RunC.block<|yS ?_
         obtain ⟨e22, he14, h8_⟩ := oS h8_
         refine yW<|ym rfl (i64 v21)<|yd rfl (optr 1 u7 v21.toNat) (TOp.ixo und26 siz28 rfl rfl rfl (at_in he14 rfl) rfl)<|yd rfl (f32 e22) (TOp.load1_o rfl (at_cell he14) agg28 rfl rfl)<|ya rfl (i64 v21)<|ya rfl (f32 e22)<|zN ?_
         obtain ⟨x23, hx15, h8_⟩ := oL h8_
         obtain ⟨e24, he16, h8_⟩ := oS h8_
         obtain ⟨r25, hf17, h8_⟩ := oS h8_
         obtain ⟨x26, hx18, h8_⟩ := oL h8_
         refine yW<|ym rfl (f32 y20)<|ym rfl (f32 e22)<|ym rfl (sFc a0)<|ym rfl (i64 v15)<|ym rfl (i64 v21)<|yl rfl (i64 x23) (LOp.eqr (LOp.sub rfl rfl rfl) (congrArg (ik .i64) hx15))<|yl rfl (ptr [f32 e24]) (LOp.le (LOp.ix (f := f32) und26 siz28 rfl rfl rfl rfl he16) ALe.ptr)<|yl rfl (f32 e24) (y2 agg28)<|yd rfl (f32 r25) (yc ent76 rfl rfl (bP bN0) (i_mul_ok e22 e24 r25 hf17))<|yd rfl (f32 x26) (TOp.eqr (TOp.fop (.inl rfl) rfl (OpF.tmp rfl) (OpF.tmp rfl)) (congrArg (f .f32) hx18))<|ya rfl (f32 x26)<|zN ?_
         refine RunC.wl (τ' := [(0, (sFc a0)), (1, (sFc a1)), (6, optr 0 1 0), (7, oref 1 u7 0 L11.length), (8, i64 v15), (9, f32 x26), (53, oref 1 u7 0 L11.length), (54, i64 ((L11.length : Nat) : Int)), (55, i64 v21)]) (Γ' := [⟨1, some [oref 2 (u8 + 1) 0 r18.length, oref 3 (u9 + 1) 0 r19.length, f32 r17]⟩, ⟨u7, some (L11.map f32)⟩, ⟨(u8 + 1), some (r18.map f32)⟩, ⟨(u9 + 1), some (r19.map f32)⟩, ⟨u10, none⟩]) ⟨aR, aR, aR, aR, aR, aR, aR, aR, aR, trivial⟩ ⟨⟨rfl, .inr rfl⟩, ⟨rfl, .inr rfl⟩, ⟨rfl, .inr rfl⟩, ⟨rfl, .inr rfl⟩, ⟨rfl, .inl rfl⟩, trivial⟩ ?_
         obtain ⟨x27, hx19, h8_⟩ := oL h8_
         refine yW<|yl rfl (i64 x27) (LOp.eqr (LOp.add rfl rfl rfl) (congrArg (ik .i64) hx19))<|ym rfl (i64 x27)<|zN ?_
         cases oI h8_
         exact ⟨_, rfl, ⟨aR, aR, aR, aR, aR, aR, aR, aR, aR, trivial⟩, ⟨⟨rfl, .inr rfl⟩, ⟨rfl, .inr rfl⟩, ⟨rfl, .inr rfl⟩, ⟨rfl, .inr rfl⟩, ⟨rfl, .inl rfl⟩, trivial⟩⟩
        ·refine yW<|yl rfl (b false) (LOp.eqb (LOp.lss rfl rfl rfl) hc13)<|zN ?_
         refine yS<|yF<|RunC.exit ?_
         cases oI h8_
         have hx := ho8 _ rfl
         exact ⟨y20, ⟨aR, aR, aR, aR, aR, aR, trivial⟩, ⟨⟨rfl, .inr rfl⟩, ⟨rfl, .inr rfl⟩, ⟨rfl, .inr rfl⟩, ⟨rfl, .inr rfl⟩, ⟨rfl, .inl rfl⟩, trivial⟩, hx⟩
       ·rintro τ9 Γ9 ⟨y28, hw9, hd9, rfl⟩
        refine RunC.wl hw9 hd9 ?_
        replace h6_ : i_ShiftSolve_k3 a1 L11 v15 r17 r18 r19 y28 = some y6_ := h6_
        unfold i_ShiftSolve_k3 at h6_
        refine yS ?_
        obtain ⟨e29, he20, h6_⟩ := oS h6_
        obtain ⟨x30, hx21, h6_⟩ := oL h6_
        obtain ⟨x31, hx22, h6_⟩ := oL h6_
        refine RunC.region_draw (Γ' := [⟨1, some [oref 2 (u8 + 1) 0 r18.length, oref 3 (u9 + 1) 0 r19.length, f32 r17]⟩, ⟨u7, some (L11.map f32)⟩, ⟨(u8 + 1), some (r18.map f32)⟩, ⟨(u9 + 1), some (r19.map f32)⟩, ⟨u10, none⟩]) 12 mixed 
         (tm rfl (sFc a1) <|
         (tm rfl (i64 v15) <|
         (tl rfl (ptr [f32 e29]) (LOp.le (LOp.ix (f := f32) und26 siz28 rfl rfl rfl rfl he20) ALe.ptr) <|
         (tl rfl (f32 e29) (y2 agg28) <|
         (tm rfl (f32 y28) <|
         (TR.d (r := f32 x30) (fs := []) rfl rfl (TOp.eqr (TOp.fop (.inr (.inl rfl)) rfl (OpF.tmp rfl) (OpF.tmp rfl)) (congrArg (f .f32) hx21)) <|
         (tm rfl (optr 0 1 0) <|
         (tl rfl (optr 0 1 0) (LOp.nilCheck_optr rfl rfl) <|
         (tl rfl (optr 0 1 2) (LOp.fao und93 rfl siz28 rfl rfl rfl) <|
         (TR.d (r := f32 r17) (fs := []) rfl rfl (TOp.load1_o rfl rfl agg28 rfl rfl) <|
         (TR.d (r := f32 x31) (fs := []) rfl rfl (TOp.eqr (TOp.fop (.inr (.inr (.inr rfl))) rfl (OpF.tmp rfl) (OpF.tmp rfl)) (congrArg (f .f32) hx22)) <|
         (tl rfl (f32 x31) (LOp.assign rfl rfl) <|
         TR.nil)))))))))))) rfl (by kernel_rfl) rfl fills_nil rfl ?_
        iterate 12 refine ROps.dropS ?_
        refine ROps.drop0<|zN ?_
        refine yS<|zQ<|ym rfl (oref 1 u7 0 L11.length)<|yl rfl (i64 ((L11.length : Nat) : Int)) (LOp.len_oref und26 rfl rfl)<|ym rfl (i64 0)<|zN ?_
        refine RunC.wl (τ' := [(0, (sFc a0)), (1, (sFc a1)), (6, optr 0 1 0), (7, oref 1 u7 0 L11.length), (8, i64 v15), (12, f32 x31), (83, i64 ((L11.length : Nat) : Int)), (84, i64 0)]) (Γ' := [⟨1, some [oref 2 (u8 + 1) 0 r18.length, oref 3 (u9 + 1) 0 r19.length, f32 r17]⟩, ⟨u7, some (L11.map f32)⟩, ⟨(u8 + 1), some (r18.map f32)⟩, ⟨(u9 + 1), some (r19.map f32)⟩, ⟨u10, none⟩]) ⟨aR, aR, aR, aR, aR, aR, aR, aR, trivial⟩ ⟨⟨rfl, .inr rfl⟩, ⟨rfl, .inr rfl⟩, ⟨rfl, .inr rfl⟩, ⟨rfl, .inr rfl⟩, ⟨rfl, .inl rfl⟩, trivial⟩ ?_
        obtain ⟨z10, hz_10, h6_⟩ := oS h6_
        refine RunC.cutN (fun τ Γ => ∃ (L43 : List F), L43.length = L11.length ∧ WeakLe τ [(0, (sFc a0)), (1, (sFc a1)), (6, optr 0 1 0), (7, oref 1 u7 0 L11.length), (8, i64 v15), (12, f32 x31)] ∧ DeadLe Γ [⟨1, some [oref 2 (u8 + 1) 0 r18.length, oref 3 (u9 + 1) 0 r19.length, f32 r17]⟩, ⟨u7, some (L43.map f32)⟩, ⟨(u8 + 1), some (r18.map f32)⟩, ⟨(u9 + 1), some (r19.map f32)⟩, ⟨u10, none⟩] ∧ z10 = .inl L43) ?_ ?_
        ·refine RunC.block (RunC.loop (RunL.loopM (x := z10) (i_ShiftSolve_s4 L11 v15 r18 x31) (fun (s : (List F) × Int) τ Γ => s.1.length = L11.length ∧ WeakLe τ [(0, (sFc a0)), (1, (sFc a1)), (6, optr 0 1 0), (7, oref 1 u7 0 L11.length), (8, i64 v15), (12, f32 x31), (83, i64 ((L11.length : Nat) : Int)), (84, i64 s.2)] ∧ DeadLe Γ [⟨1, some [oref 2 (u8 + 1) 0 r18.length, oref 3 (u9 + 1) 0 r19.length, f32 r17]⟩, ⟨u7, some (s.1.map f32)⟩, ⟨(u8 + 1), some (r18.map f32)⟩, ⟨(u9 + 1), some (r19.map f32)⟩, ⟨u10, none⟩]) ?_ _ _ _ hz_10 ⟨rfl, ⟨aR, aR, aR, aR, aR, aR, aR, aR, trivial⟩, ⟨⟨rfl, .inr rfl⟩, ⟨rfl, .inr rfl⟩, ⟨rfl, .inr rfl⟩, ⟨rfl, .inr rfl⟩, ⟨rfl, .inl rfl⟩, trivial⟩⟩))
         rintro ⟨L32, v34⟩ τ10 Γ10 y10_ ⟨hl33, hw10, hd10⟩ h10_ ho10 hr10
         refine RunC.wl (τ' := [(0, (sFc a0)), (1, (sFc a1)), (6, optr 0 1 0), (7, oref 1 u7 0 L11.length), (8, i64 v15), (12, f32 x31), (83, i64 ((L11.length : Nat) : Int)), (84, i64 v34)]) (Γ' := [⟨1, some [oref 2 (u8 + 1) 0 r18.length, oref 3 (u9 + 1) 0 r19.length, f32 r17]⟩, ⟨u7, some (L32.map f32)⟩, ⟨(u8 + 1), some (r18.map f32)⟩, ⟨(u9 + 1), some (r19.map f32)⟩, ⟨u10, none⟩]) hw10 hd10 ?_
         replace hl33 : L32.length = L11.length := hl33
         replace h10_ : i_ShiftSolve_b4 L11 v15 r18 x31 L32 v34 = some y10_ := h10_
         unfold i_ShiftSolve_b4 at h10_
         refine yS ?_
         rcases oB h10_ with ⟨hc23, h10_⟩ | ⟨hc23, h10_⟩
         ·refine yW<|yl rfl (b true) (LOp.eqb (LOp.lss rfl rfl rfl) hc23)<|zN ?_
          refine yS<|yT<|RunC.skip<|yS<|RunC.block<|zQ<|ym rfl (i64 v34)<|ya rfl (i64 v34)<|zN ?_
          obtain ⟨e35, he24, h10_⟩ := oS h10_
          obtain ⟨x36, hx25, h10_⟩ := oL h10_
          obtain ⟨x37, hx26, h10_⟩ := oL h10_
          obtain ⟨e38, he27, h10_⟩ := oS h10_
          obtain ⟨r39, hf28, h10_⟩ := oS h10_
          obtain ⟨x40, hx29, h10_⟩ := oL h10_
          obtain ⟨L41, he30, h10_⟩ := oS h10_
          refine RunC.region_draw (Γ' := [⟨1, some [oref 2 (u8 + 1) 0 r18.length, oref 3 (u9 + 1) 0 r19.length, f32 r17]⟩, ⟨u7, some (L32.map f32)⟩, ⟨(u8 + 1), some (r18.map f32)⟩, ⟨(u9 + 1), some (r19.map f32)⟩, ⟨u10, none⟩]) 18 mixed 
           (tm rfl (oref 1 u7 0 L11.length) <|
           (tm rfl (i64 v34) <|
           (TR.d (r := optr 1 u7 v34.toNat) (fs := []) rfl rfl (TOp.ixo und26 siz28 rfl rfl rfl (at_in he24 hl33) rfl) <|
           (TR.d (r := f32 e35) (fs := []) rfl rfl (TOp.load1_o rfl (at_cell he24) agg28 rfl rfl) <|
           (tm rfl (f32 x31) <|
           (tm rfl (optr 0 1 0) <|
           (tl rfl (optr 0 1 0) (LOp.nilCheck_optr rfl rfl) <|
           (tl rfl (optr 0 1 0) (LOp.fao und93 rfl siz26 rfl rfl rfl) <|
           (TR.d (r := oref 2 (u8 + 1) 0 r18.length) (fs := []) rfl rfl (TOp.load1_o rfl rfl agg26 rfl rfl) <|
           (tm rfl (i64 v15) <|
           (tl rfl (i64 x36) (LOp.eqr (LOp.sub rfl rfl rfl) (congrArg (ik .i64) hx25)) <|
           (tm rfl (i64 v34) <|
           (tl rfl (i64 x37) (LOp.eqr (LOp.sub rfl rfl rfl) (congrArg (ik .i64) hx26)) <|
           (TR.d (r := optr 2 (u8 + 1) x37.toNat) (fs := []) rfl rfl (TOp.ixo und26 siz28 rfl rfl rfl (at_in he27 rfl) rfl) <|
           (TR.d (r := f32 e38) (fs := []) rfl rfl (TOp.load1_o rfl (at_cell he27) agg28 rfl rfl) <|
           (TR.d (r := f32 r39) (fs := []) rfl rfl (yc ent76 rfl rfl (bP bN0) (i_mul_ok x31 e38 r39 hf28)) <|
           (TR.d (r := f32 x40) (fs := []) rfl rfl (TOp.eqr (TOp.fop (.inr (.inl rfl)) rfl (OpF.tmp rfl) (OpF.tmp rfl)) (congrArg (f .f32) hx29)) <|
           (TR.d (r := optr 1 u7 v34.toNat) (fs := []) rfl rfl (TOp.ixo und26 siz28 rfl rfl rfl (set_in he30 hl33) rfl) <|
           TR.nil)))))))))))))))))) rfl (by kernel_rfl) rfl fills_nil rfl ?_
          iterate 18 refine ROps.dropS ?_
          refine ROps.drop0<|ROps.st (f := f32) (i := v34) (Γ' := [⟨1, some [oref 2 (u8 + 1) 0 r18.length, oref 3 (u9 + 1) 0 r19.length, f32 r17]⟩, ⟨u7, some (L41.map f32)⟩, ⟨(u8 + 1), some (r18.map f32)⟩, ⟨(u9 + 1), some (r19.map f32)⟩, ⟨u10, none⟩]) rfl siz28 rfl rfl rfl aR rfl rfl rfl he30 rfl<|zN ?_
          refine RunC.wl (τ' := [(0, (sFc a0)), (1, (sFc a1)), (6, optr 0 1 0), (7, oref 1 u7 0 L11.length), (8, i64 v15), (12, f32 x31), (83, i64 ((L11.length : Nat) : Int)), (84, i64 v34)]) (Γ' := [⟨1, some [oref 2 (u8 + 1) 0 r18.length, oref 3 (u9 + 1) 0 r19.length, f32 r17]⟩, ⟨u7, some (L41.map f32)⟩, ⟨(u8 + 1), some (r18.map f32)⟩, ⟨(u9 + 1), some (r19.map f32)⟩, ⟨u10, none⟩]) ⟨aR, aR, aR, aR, aR, aR, aR, aR, trivial⟩ ⟨⟨rfl, .inr rfl⟩, ⟨rfl, .inr rfl⟩, ⟨rfl, .inr rfl⟩, ⟨rfl, .inr rfl⟩, ⟨rfl, .inl rfl⟩, trivial⟩ ?_
          obtain ⟨x42, hx31, h10_⟩ := oL h10_
          refine yW<|yl rfl (i64 x42) (LOp.eqr (LOp.add rfl rfl rfl) (congrArg (ik .i64) hx31))<|ym rfl (i64 x42)<|zN ?_
          cases oI h10_
          exact ⟨_, rfl, ((setAt?_len he30).trans hl33), ⟨aR, aR, aR, aR, aR, aR, aR, aR, trivial⟩, ⟨⟨rfl, .inr rfl⟩, ⟨rfl, .inr rfl⟩, ⟨rfl, .inr rfl⟩, ⟨rfl, .inr rfl⟩, ⟨rfl, .inl rfl⟩, trivial⟩⟩
         ·refine yW<|yl rfl (b false) (LOp.eqb (LOp.lss rfl rfl rfl) hc23)<|zN ?_
          refine yS<|yF<|RunC.exit ?_
          cases oI h10_
          have hx := ho10 _ rfl
          exact ⟨L32, hl33, ⟨aR, aR, aR, aR, aR, aR, trivial⟩, ⟨⟨rfl, .inr rfl⟩, ⟨rfl, .inr rfl⟩, ⟨rfl, .inr rfl⟩, ⟨rfl, .inr rfl⟩, ⟨rfl, .inl rfl⟩, trivial⟩, hx⟩
        ·rintro τ11 Γ11 ⟨L43, hl44, hw11, hd11, rfl⟩
         refine RunC.wl hw11 hd11 ?_
         replace h6_ : i_ShiftSolve_k4 L11 v15 r17 r18 r19 x31 L43 = some y6_ := h6_
         unfold i_ShiftSolve_k4 at h6_
         obtain ⟨hm32, h6_⟩ := need_some h6_
         refine yW<|ym rfl (oref 1 u7 0 L11.length)<|ym rfl (f32 x31)<|ye rfl (oref 4 (u10 + 1) 0 1) ([⟨1, some [oref 2 (u8 + 1) 0 r18.length, oref 3 (u9 + 1) 0 r19.length, f32 r17]⟩, ⟨u7, some (L43.map f32)⟩, ⟨(u8 + 1), some (r18.map f32)⟩, ⟨(u9 + 1), some (r19.map f32)⟩, ⟨(u10 + 1), some (([x31] : List F).map f32)⟩]) (TOp.buildSlice_o (g := ⟨u10, none⟩) (za := f32 (some 0)) (qs := [(0, [f32 x31])]) 4 rfl und26 siz28 zer28 rfl zel28 rfl rfl ⟨rfl, ⟨_, ALe.refl _, rfl⟩, trivial⟩ rfl)<|ROps.app (f := f32) (xs := L43) (ys := ([x31] : List F)) (Γ' := [⟨1, some [oref 2 (u8 + 1) 0 r18.length, oref 3 (u9 + 1) 0 r19.length, f32 r17]⟩, ⟨(u7 + 1), some ((L43 ++ ([x31] : List F)).map f32)⟩, ⟨(u8 + 1), some (r18.map f32)⟩, ⟨(u9 + 1), some (r19.map f32)⟩, ⟨(u10 + 1), some (([x31] : List F).map f32)⟩]) rfl pun26 inf28 rfl rfl rfl rfl rfl rfl rfl rfl rfl (by simp [hl44]) (ReadAs.own rfl (by simp)) (ones_map (fun _ => rfl)) (ap_by hm32) (ap_mx hm32) rfl<|ya rfl (oref 1 (u7 + 1) 0 (L11.length + 1))<|zN ?_
         refine RunC.wl (τ' := [(0, (sFc a0)), (1, (sFc a1)), (6, optr 0 1 0), (7, oref 1 (u7 + 1) 0 (L11.length + 1)), (8, i64 v15)]) (Γ' := [⟨1, some [oref 2 (u8 + 1) 0 r18.length, oref 3 (u9 + 1) 0 r19.length, f32 r17]⟩, ⟨(u7 + 1), some ((L43 ++ ([x31] : List F)).map f32)⟩, ⟨(u8 + 1), some (r18.map f32)⟩, ⟨(u9 + 1), some (r19.map f32)⟩, ⟨(u10 + 1), none⟩]) ⟨aR, aR, aR, aR, aR, trivial⟩ ⟨⟨rfl, .inr rfl⟩, ⟨rfl, .inr rfl⟩, ⟨rfl, .inr rfl⟩, ⟨rfl, .inr rfl⟩, ⟨rfl, .inl rfl⟩, trivial⟩ ?_
         obtain ⟨x45, hx33, h6_⟩ := oL h6_
         refine yW<|ym rfl (i64 v15)<|yl rfl (i64 x45) (LOp.eqr (LOp.add rfl rfl rfl) (congrArg (ik .i64) hx33))<|ya rfl (i64 x45)<|zN ?_
         cases oI h6_
         exact ⟨_, rfl, (u7 + 1), (u8 + 1), (u9 + 1), (u10 + 1), ⟨aR, aR, aR, (ALe.eq (by rw [(app_len hl44 rfl)] <;> rfl)), aR, trivial⟩, ⟨⟨rfl, .inr (by first | rfl | simp)⟩, ⟨rfl, .inr rfl⟩, ⟨rfl, .inr rfl⟩, ⟨rfl, .inr rfl⟩, ⟨rfl, .inl rfl⟩, trivial⟩⟩
     ·refine yW<|ym rfl (i64 v15)<|ym rfl (sFc a0)<|yl rfl (i64 (a0.length : Int)) (LOp.len_sl und26 rfl rfl)<|yl rfl (b false) (LOp.eqb (LOp.lss rfl rfl rfl) hc10)<|zN ?_
      refine yF<|RunC.exit ?_
      cases oI h6_
      have hx := ho6 _ rfl
      exact ⟨L11, u7, u8, u9, u10, ⟨aR, trivial⟩, ⟨⟨rfl, .inl rfl⟩, ⟨rfl, .inr rfl⟩, ⟨rfl, .inl rfl⟩, ⟨rfl, .inl rfl⟩, ⟨rfl, .inl rfl⟩, trivial⟩, hx⟩
    ·rintro τ12 Γ12 ⟨L50, u46, u47, u48, u49, hw12, hd12, rfl⟩
     refine RunC.wl hw12 hd12 ?_
     replace h : i_ShiftSolve_k5 L50 = some (q0, q1) := h
     unfold i_ShiftSolve_k5 at h
     refine yS ?_
     obtain ⟨z13, hf34, h⟩ := oS h
     rcases z13 with z13 | z13
     ·replace h := (osum_inl _ _ _).symm.trans h
      obtain ⟨r51, r52, hz14, h⟩ := obind2_some h
      cases hz14
      obtain ⟨hn35, h⟩ := need_some h
      refine yW<|ym rfl (oref 1 u46 0 L50.length)<|ROps.callO (A := [oref 1 u46 0 L50.length]) (args := [oref 0 0 0 L50.length]) (Γc := [⟨0, some (L50.map f32)⟩]) (Γc' := [⟨0, some (r52.map f32)⟩]) (r' := tup [oref 1 u46 0 L50.length, b r51]) (Γ' := [⟨1, none⟩, ⟨u46, some (r52.map f32)⟩, ⟨u47, none⟩, ⟨u48, none⟩, ⟨u49, none⟩]) [(1, u46)] [] rfl (CallAs.func ent77 rfl rfl) rfl rfl (SelOk.of (ndB_ok rfl) (SelL.arr0 (f := f32) (fun _ => rfl) rfl trivial)) (live_of ⟨⟨_, _, rfl⟩, trivial⟩) (by simp [ren, rens, sigma, rens_f32, rens_f64, rens_i64, rens_ik, rens_str, rens_cp]) rfl (i_allFinite_0o_ok0 L50 r51 r52 hf34) rfl (news_of trivial) (ndB_ok rfl) (by simp [ren, rens, sigma, of_decide_eq_true hn35]) (by simp [backOb, sigma, ren, rens, rens_f32, rens_f64, rens_i64, rens_ik, rens_str, rens_cp] <;> omega)<|yl rfl (oref 1 u46 0 L50.length) y3<|yl rfl (b r51) y3<|ya rfl (oref 1 u46 0 L50.length)<|ya rfl (b r51)<|zN ?_
      refine RunC.ret ?_
      have hq := oI h
      obtain ⟨hq0, hq⟩ := Prod.mk.inj hq
      subst q0
      subst q1
      exact bodyQ.mk (r' := tup [oref 1 u46 0 r52.length, b r51]) [(1, u46)] (.inr rfl) rfl (ndB_ok rfl) (by simp [ren, rens, sigma]) rfl (Res.eq (Res.two rfl (RV.tmp rfl) (RV.tmp rfl)) (by first | rfl | (rw [(show r52.length = L50.length from (of_decide_eq_true hn35))] <;> rfl))) (SelL.arr0 (f := f32) (fun _ => rfl) rfl trivial)
     ·replace h := (osum_inr _ _ _).symm.trans h
      obtain ⟨r53, r54, r55, hz15, h⟩ := obind3_some h
      cases hz15
      obtain ⟨hn36, h⟩ := need_some h
      refine yW<|ym rfl (oref 1 u46 0 L50.length)<|ROps.callO (A := [oref 1 u46 0 L50.length]) (args := [oref 0 0 0 L50.length]) (Γc := [⟨0, some (L50.map f32)⟩]) (Γc' := [⟨0, some (r54.map f32)⟩, ⟨0, some (r55.map f32)⟩]) (r' := tup [oref 0 2 0 r55.length, b r53]) (Γ' := [⟨2, some (r55.map f32)⟩, ⟨u46, some (r54.map f32)⟩, ⟨u47, none⟩, ⟨u48, none⟩, ⟨u49, none⟩]) [(1, u46)] [(0, 2)] rfl (CallAs.func ent77 rfl rfl) rfl rfl (SelOk.of (ndB_ok rfl) (SelL.arr0 (f := f32) (fun _ => rfl) rfl trivial)) (live_of ⟨⟨_, _, rfl⟩, trivial⟩) (by simp [ren, rens, sigma, rens_f32, rens_f64, rens_i64, rens_ik, rens_str, rens_cp]) rfl (i_allFinite_0o_ok1 L50 r53 r54 r55 hf34) rfl (news_of ⟨⟨_, rfl, rfl⟩, trivial⟩) (show List.Nodup [1, 0] from by decide) (by simp [ren, rens, sigma, of_decide_eq_true hn36]) (by simp [backOb, sigma, ren, rens, rens_f32, rens_f64, rens_i64, rens_ik, rens_str, rens_cp] <;> omega)<|yl rfl (oref 0 2 0 r55.length) y3<|yl rfl (b r53) y3<|ya rfl (oref 0 2 0 r55.length)<|ya rfl (b r53)<|zN ?_
      refine RunC.ret ?_
      have hq := oI h
      obtain ⟨hq0, hq⟩ := Prod.mk.inj hq
      subst q0
      subst q1
      exact yB (tup [oref 0 2 0 r55.length, b r53]) [(0, 2)] (Res.two rfl (RV.tmp rfl) (RV.tmp rfl)) (SelL.arr0 (f := f32) (fun _ => rfl) rfl trivial)
   ·refine yW<|ym rfl (sFc a0)<|yd rfl (b true) (TOp.eqb (yc ent73 rfl rfl (bS bN) (i_isShiftList_ok a0 r1 hf1)) hc2)<|yl rfl (b false) y1<|ym rfl (b false)<|ym rfl (sFc a1)<|yl rfl (i64 (a1.length : Int)) (LOp.len_sl und26 rfl rfl)<|ym rfl (sFc a0)<|yl rfl (i64 (a0.length : Int)) (LOp.len_sl und26 rfl rfl)<|yl rfl (b false) (LOp.eqb (LOp.neq rfl rfl rfl) hc3)<|yl rfl (b false) yp<|ym rfl (b false)<|ym rfl (sFc a1)<|yd rfl (b false) (TOp.eqb (yc ent74 rfl rfl (bS bN) (i_areFinite_ok a1 r2 hf4)) hc5)<|yl rfl (b true) y0<|yl rfl (b true) yp<|zN ?_
    refine RunC.wl (τ' := [(0, (sFc a0)), (1, (sFc a1)), (28, b true)]) (Γ' := [⟨0, none⟩, ⟨0, none⟩, ⟨0, none⟩, ⟨0, none⟩, ⟨0, none⟩]) ⟨aR, aR, aR, trivial⟩ ⟨⟨rfl, .inr rfl⟩, ⟨rfl, .inr rfl⟩, ⟨rfl, .inr rfl⟩, ⟨rfl, .inr rfl⟩, ⟨rfl, .inr rfl⟩, trivial⟩<|yT<|zQ<|ya rfl nilsl<|ya rfl (b false)<|zN ?_
    refine RunC.nil_slot (Γ' := [⟨1, some (([] : List F).map f32)⟩, ⟨0, none⟩, ⟨0, none⟩, ⟨0, none⟩, ⟨0, none⟩]) 4 0 rfl rfl rfl<|RunC.ret ?_
    have hq := oI h
    obtain ⟨hq0, hq⟩ := Prod.mk.inj hq
    subst q0
    subst q1
    exact yB (tup [oref 0 1 0 (([] : List F).length), b false]) [(0, 1)] (Res.eq (Res.two rfl (RV.tmp rfl) (RV.tmp rfl)) (by first | rfl | (rw [(show ([] : List F).length = 0 from rfl)] <;> rfl))) (SelL.arr0 (f := f32) (fun _ => rfl) rfl trivial)
 ·refine yW<|ym rfl (sFc a0)<|yd rfl (b false) (TOp.eqb (yc ent73 rfl rfl (bS bN) (i_isShiftList_ok a0 r1 hf1)) hc2)<|yl rfl (b true) y0<|ym rfl (b true)<|ROps.s rfl rfl rfl<|ROps.s rfl rfl rfl<|ROps.s rfl rfl rfl<|ROps.s rfl rfl rfl<|ROps.s rfl rfl rfl<|yl rfl (b true) yq<|ym rfl (b true)<|ROps.s rfl rfl rfl<|ROps.s rfl rfl rfl<|ROps.s rfl rfl rfl<|yl rfl (b true) yq<|zN ?_
  refine RunC.wl (τ' := [(0, (sFc a0)), (1, (sFc a1)), (28, b true)]) (Γ' := [⟨0, none⟩, ⟨0, none⟩, ⟨0, none⟩, ⟨0, none⟩, ⟨0, none⟩]) ⟨aR, aR, aR, trivial⟩ ⟨⟨rfl, .inr rfl⟩, ⟨rfl, .inr rfl⟩, ⟨rfl, .inr rfl⟩, ⟨rfl, .inr rfl⟩, ⟨rfl, .inr rfl⟩, trivial⟩<|yT<|zQ<|ya rfl nilsl<|ya rfl (b false)<|zN ?_
  refine RunC.nil_slot (Γ' := [⟨1, some (([] : List F).map f32)⟩, ⟨0, none⟩, ⟨0, none⟩, ⟨0, none⟩, ⟨0, none⟩]) 4 0 rfl rfl rfl<|RunC.ret ?_
  have hq := oI h
  obtain ⟨hq0, hq⟩ := Prod.mk.inj hq
  subst q0
  subst q1
  exact yB (tup [oref 0 1 0 (([] : List F).length), b false]) [(0, 1)] (Res.eq (Res.two rfl (RV.tmp rfl) (RV.tmp rfl)) (by first | rfl | (rw [(show ([] : List F).length = 0 from rfl)] <;> rfl))) (SelL.arr0 (f := f32) (fun _ => rfl) rfl trivial)
def i_newMatrix (a0 : Int) (a1 : Int) : Option (Int × Int × (List F)) :=
 olet (IntKind.i64.wrap (a0 * a1)) fun (x1 : Int) =>
 need (mkok 4 x1) <|
 some (a0, a1, (List.replicate x1.toNat (some 0)))
theorem i_newMatrix_ok (a0 : Int) (a1 : Int) (q0 : Int) (q1 : Int) (q2 : List F) (h : i_newMatrix a0 a1 = some (q0, q1, q2)) : Ev Try.prog 113 [i64 a0, i64 a1] [] (agg (oXc q0 q1 0 0 q2.length)) [⟨0, some (q2.map f32)⟩] := by
 refine yE Try.func113 2 25 0 [(0, i64 a0), (1, i64 a1)] [⟨0, none⟩, ⟨0, none⟩] rfl ?_
 unfold i_newMatrix at h
 refine zQ<|ye rfl (optr 0 1 0) [⟨1, some zMx⟩, ⟨0, none⟩] (TOp.alloc_o (g := ⟨0, none⟩) 0 rfl zer33 zok33 rfl)<|zN ?_
 refine yS ?_
 obtain ⟨x1, hx1, h⟩ := oL h
 obtain ⟨hm2, h⟩ := need_some h
 refine yW<|ym rfl (i64 a0)<|ym rfl (i64 a1)<|ym rfl (i64 a0)<|ym rfl (i64 a1)<|yl rfl (i64 x1) (LOp.eqr (LOp.mul rfl rfl rfl) (congrArg (ik .i64) hx1))<|ye rfl (oref 1 1 0 x1.toNat) [⟨1, some zMx⟩, ⟨1, some ((List.replicate x1.toNat (some 0)).map f32)⟩] (TOp.mkS (g := ⟨0, none⟩) (t := 26) (e := 28) (by_ := 4) (f := f32) (zv := some 0) 1 rfl und26 tin28 rfl siz28 zer28 rfl zel28 rfl rfl rfl hm2)<|yl rfl (agg [i64 a0, i64 a1, oref 1 1 0 x1.toNat]) (LOp.build (qs := [(0, [i64 a0]), (1, [i64 a1]), (2, [oref 1 1 0 x1.toNat])]) zer33 zok33 und33 plc33 rfl ⟨rfl, ⟨_, ALe.refl _, rfl⟩, ⟨rfl, ⟨_, ALe.refl _, rfl⟩, ⟨rfl, ⟨_, ALe.refl _, rfl⟩, trivial⟩⟩⟩ rfl)<|ys (agg [i64 a0, i64 a1, oref 1 1 0 x1.toNat]) [i64 a0, i64 a1, oref 1 1 0 x1.toNat] ([⟨1, some [i64 a0, i64 a1, oref 1 1 0 x1.toNat]⟩, ⟨1, some ((List.replicate x1.toNat (some 0)).map f32)⟩]) siz33<|zN ?_
 refine RunC.ret ?_
 have hq := oI h
 obtain ⟨hq0, hq⟩ := Prod.mk.inj hq
 obtain ⟨hq1, hq⟩ := Prod.mk.inj hq
 subst q0
 subst q1
 subst q2
 exact yB (agg [i64 a0, i64 a1, oref 1 1 0 ((List.replicate x1.toNat (some 0)).length)]) [(1, 1)] (Res.eq (Res.one rfl (RV.cell agg33 siz33 rfl rfl rfl rfl)) (by first | rfl | (rw [(show (List.replicate x1.toNat (some 0)).length = x1.toNat from by simp)] <;> rfl))) (SelL.arr0 (f := f32) (fun _ => rfl) rfl trivial)
def i_shift_1 (a0 : Int) (a1 : Int) (a2 : List F) : Option (F) :=
 olet (IntKind.i64.wrap (a0 - a1)) fun (x1 : Int) =>
 olet (IntKind.i64.wrap (a1 - a0)) fun (x2 : Int) =>
 obind (at? a2 (imax x1 x2)) fun (e3 : F) =>
 some e3
theorem i_shift_1_ok (a0 : Int) (a1 : Int) (a2 : List F) (q0 : F) (h : i_shift_1 a0 a1 a2 = some q0) : Ev Try.prog 142 [i64 a0, i64 a1, ptr [(sFc a2)]] [] (f32 q0) [] := by
 refine yE Try.func142 0 33 0 ([(0, i64 a0), (1, i64 a1), (2, ptr [(sFc a2)])]) [] rfl ?_
 unfold i_shift_1 at h
 refine zQ<|yl rfl (f32 (some 0)) (LOp.le (LOp.assign rfl rfl) (ALe.fl (by kernel_rfl) (by kernel_rfl)))<|zN ?_
 refine yS ?_
 obtain ⟨x1, hx1, h⟩ := oL h
 obtain ⟨x2, hx2, h⟩ := oL h
 obtain ⟨e3, he3, h⟩ := oS h
 refine yW<|yl rfl (sFc a2) (y2 agg26)<|ym rfl (i64 a0)<|ym rfl (i64 a1)<|yl rfl (i64 x1) (LOp.eqr (LOp.sub rfl rfl rfl) (congrArg (ik .i64) hx1))<|ym rfl (i64 a1)<|ym rfl (i64 a0)<|yl rfl (i64 x2) (LOp.eqr (LOp.sub rfl rfl rfl) (congrArg (ik .i64) hx2))<|yl rfl (i64 (imax x1 x2)) (LOp.max2 rfl rfl rfl)<|yl rfl (ptr [f32 e3]) (LOp.le (LOp.ix (f := f32) und26 siz28 rfl rfl rfl rfl he3) ALe.ptr)<|yl rfl (f32 e3) (y2 agg28)<|ya rfl (f32 e3)<|zN ?_
 refine RunC.ret ?_
 have hq := oI h
 subst q0
 exact bodyQ.pure (.inr rfl) rfl (Res.one rfl (RV.tmp rfl))
def i_Matrix_set_02o (a0 : Int) (a1 : Int) (a2 : Int) (a3 : Int) (a4 : F) (a5 : List F) : Option ((List F)) :=
 olet (IntKind.i64.wrap (a2 * a1)) fun (x1 : Int) =>
 olet (IntKind.i64.wrap (x1 + a3)) fun (x2 : Int) =>
 obind (setAt? a5 x2 a4) fun (L3 : List F) =>
 some L3
theorem i_Matrix_set_02o_ok (a0 : Int) (a1 : Int) (a2 : Int) (a3 : Int) (a4 : F) (a5 : List F) (q0 : List F) (h : i_Matrix_set_02o a0 a1 a2 a3 a4 a5 = some q0) : Ev Try.prog 93 [agg (oXc a0 a1 0 0 a5.length), i64 a2, i64 a3, f32 a4] [⟨0, some (a5.map f32)⟩] (tup []) [⟨0, some (q0.map f32)⟩] := by
 refine Ev.start Try.func93 rfl rfl 0 (τ := [(0, agg (oXc a0 a1 0 0 a5.length)), (1, i64 a2), (2, i64 a3), (3, f32 a4)]) rfl (Γ' := [⟨0, some (a5.map f32)⟩]) rfl (n := 36) rfl (g := 1) rfl (by decide) ?_
 unfold i_Matrix_set_02o at h
 refine zQ<|yd rfl (ptr (oXc a0 a1 0 0 a5.length)) (TOp.box_s rfl rfl rfl)<|zN ?_
 obtain ⟨x1, hx1, h⟩ := oL h
 obtain ⟨x2, hx2, h⟩ := oL h
 obtain ⟨L3, he3, h⟩ := oS h
 refine yW<|yl rfl (ptr [oref 0 0 0 a5.length]) (LOp.fap und33 rfl siz26 rfl rfl rfl)<|yl rfl (oref 0 0 0 a5.length) (y2 agg26)<|ym rfl (i64 a2)<|yl rfl (ptr [i64 a1, oref 0 0 0 a5.length]) (LOp.fap und33 rfl siz2 rfl rfl rfl)<|yl rfl (i64 a1) (y2 agg2)<|yl rfl (i64 x1) (LOp.eqr (LOp.mul rfl rfl rfl) (congrArg (ik .i64) hx1))<|ym rfl (i64 a3)<|yl rfl (i64 x2) (LOp.eqr (LOp.add rfl rfl rfl) (congrArg (ik .i64) hx2))<|ym rfl (f32 a4)<|yd rfl (optr 0 0 x2.toNat) (TOp.ixo und26 siz28 rfl rfl rfl (set_in he3 rfl) rfl)<|ROps.st (f := f32) (i := x2) (Γ' := [⟨0, some (L3.map f32)⟩]) rfl siz28 rfl rfl rfl aR rfl rfl rfl he3 rfl<|zN ?_
 have hq := oI h
 subst q0
 exact yB (tup []) [(0, 0)] (Res.zero rfl) (SelL.arr (f := f32) (fun _ => rfl) rfl trivial)
def i_made_2Fi_shift_1_b2 (a1 : Int) (a2 : List F) (r1 : Int) (r2 : Int) (r3 : List F) (v6 : Int) (L7 : List F) (v9 : Int) : Option (LR ((List F) × Int) ((List F)) (Int × Int × (List F))) :=
 bsel (decide (v9 < a1)) (
  obind (i_shift_1 v6 v9 a2) fun (r11 : F) =>
  obind (i_Matrix_set_02o r1 r2 v6 v9 r11 L7) fun (r12 : List F) =>
  need (decide (r12.length = r3.length)) <|
  olet (IntKind.i64.wrap (v9 + 1)) fun (x13 : Int) =>
  some (LR.next (r12, x13))) (
  some (LR.out L7))
def i_made_2Fi_shift_1_s2 (a1 : Int) (a2 : List F) (r1 : Int) (r2 : Int) (r3 : List F) (v6 : Int) : ((List F) × Int) → Option (LR ((List F) × Int) ((List F)) (Int × Int × (List F))) := fun s => i_made_2Fi_shift_1_b2 a1 a2 r1 r2 r3 v6 s.1 s.2
def i_made_2Fi_shift_1_k2 (v6 : Int) (L14 : List F) : Option (LR ((List F) × Int) ((List F)) (Int × Int × (List F))) :=
 olet (IntKind.i64.wrap (v6 + 1)) fun (x16 : Int) =>
 some (LR.next (L14, x16))
def i_made_2Fi_shift_1_b3 (a0 : Int) (a1 : Int) (a2 : List F) (r1 : Int) (r2 : Int) (r3 : List F) (L4 : List F) (v6 : Int) : Option (LR ((List F) × Int) ((List F)) (Int × Int × (List F))) :=
 bsel (decide (v6 < a0)) (
  obind (loopM (i_made_2Fi_shift_1_s2 a1 a2 r1 r2 r3 v6) (L4, 0)) fun z => osum z (fun e => i_made_2Fi_shift_1_k2 v6 e) (fun r => some (LR.ret r))) (
  some (LR.out L4))
def i_made_2Fi_shift_1_s3 (a0 : Int) (a1 : Int) (a2 : List F) (r1 : Int) (r2 : Int) (r3 : List F) : ((List F) × Int) → Option (LR ((List F) × Int) ((List F)) (Int × Int × (List F))) := fun s => i_made_2Fi_shift_1_b3 a0 a1 a2 r1 r2 r3 s.1 s.2
def i_made_2Fi_shift_1_k3 (r1 : Int) (r2 : Int) (L17 : List F) : Option (Int × Int × (List F)) :=
 some (r1, r2, L17)
def i_made_2Fi_shift_1 (a0 : Int) (a1 : Int) (a2 : List F) : Option (Int × Int × (List F)) :=
 obind3 (i_newMatrix a0 a1) fun (r1 : Int) (r2 : Int) (r3 : List F) =>
 obind (loopM (i_made_2Fi_shift_1_s3 a0 a1 a2 r1 r2 r3) (r3, 0)) fun z => osum z (fun e => i_made_2Fi_shift_1_k3 r1 r2 e) (fun r => some r)
theorem i_made_2Fi_shift_1_ok (a0 : Int) (a1 : Int) (a2 : List F) (q0 : Int) (q1 : Int) (q2 : List F) (h : i_made_2Fi_shift_1 a0 a1 a2 = some (q0, q1, q2)) : Ev Try.prog 64 [i64 a0, i64 a1, fn (.func 142) [] [ptr [(sFc a2)]]] [] (agg (oXc q0 q1 0 0 q2.length)) [⟨0, some (q2.map f32)⟩] := by
 refine yE Try.func64 3 65 0 ([(0, i64 a0), (1, i64 a1), (2, fn (.func 142) [] [ptr [(sFc a2)]])]) [⟨0, none⟩, ⟨0, none⟩, ⟨0, none⟩] rfl ?_
 unfold i_made_2Fi_shift_1 at h
 refine zQ<|ye rfl (optr 0 1 0) [⟨1, some zMx⟩, ⟨0, none⟩, ⟨0, none⟩] (TOp.alloc_o (g := ⟨0, none⟩) 0 rfl zer33 zok33 rfl)<|zN ?_
 refine yS ?_
 obtain ⟨r1, r2, r3, hf1, h⟩ := obind3_some h
 refine yW<|ym rfl (i64 a0)<|ym rfl (i64 a1)<|ye rfl (agg (oXc r1 r2 1 1 r3.length)) [⟨1, some zMx⟩, ⟨1, some (r3.map f32)⟩, ⟨0, none⟩] (TOp.callBN (ls := [(r3.map f32)]) [1] (CallAs.func ent113 rfl rfl) (bP bN0) rfl (i_newMatrix_ok a0 a1 r1 r2 r3 hf1) (and_all (lts0_map (f := f32) (fun _ => rfl) _) rfl) (and_all (noss_map (f := f32) (fun _ => rfl) _) rfl) rfl (by decide) (ns_of ⟨⟨_, rfl⟩, trivial⟩))<|ye rfl (optr 2 1 0) [⟨1, some zMx⟩, ⟨1, some (r3.map f32)⟩, ⟨1, some zMx⟩] (TOp.alloc_o (g := ⟨0, none⟩) 2 rfl zer33 zok33 rfl)<|ys (agg (oXc r1 r2 1 1 r3.length)) (oXc r1 r2 1 1 r3.length) [⟨1, some zMx⟩, ⟨1, some (r3.map f32)⟩, ⟨1, some (oXc r1 r2 1 1 r3.length)⟩] siz33<|zN ?_
 refine yS<|zQ<|ym rfl (i64 a0)<|ym rfl (i64 0)<|zN ?_
 obtain ⟨z4, hz_4, h⟩ := oS h
 refine RunC.cutN (fun τ Γ => ∃ (L17 : List F), L17.length = r3.length ∧ WeakLe τ [(6, optr 0 1 0), (7, optr 2 1 0)] ∧ DeadLe Γ [⟨1, some zMx⟩, ⟨1, some (L17.map f32)⟩, ⟨1, some (oXc r1 r2 1 1 r3.length)⟩] ∧ z4 = .inl L17) ?_ ?_
 ·refine RunC.block (RunC.loop (RunL.loopM (x := z4) (i_made_2Fi_shift_1_s3 a0 a1 a2 r1 r2 r3) (fun (s : (List F) × Int) τ Γ => s.1.length = r3.length ∧ WeakLe τ [(1, i64 a1), (2, fn (.func 142) [] [ptr [(sFc a2)]]), (6, optr 0 1 0), (7, optr 2 1 0), (13, i64 a0), (14, i64 s.2)] ∧ DeadLe Γ [⟨1, some zMx⟩, ⟨1, some (s.1.map f32)⟩, ⟨1, some (oXc r1 r2 1 1 r3.length)⟩]) ?_ _ _ _ hz_4 ⟨rfl, ⟨aR, aR, aR, aR, aR, aR, trivial⟩, ⟨⟨rfl, .inr rfl⟩, ⟨rfl, .inr rfl⟩, ⟨rfl, .inr rfl⟩, trivial⟩⟩))
  rintro ⟨L4, v6⟩ τ4 Γ4 y4_ ⟨hl5, hw4, hd4⟩ h4_ ho4 hr4
  refine RunC.wl (τ' := [(1, i64 a1), (2, fn (.func 142) [] [ptr [(sFc a2)]]), (6, optr 0 1 0), (7, optr 2 1 0), (13, i64 a0), (14, i64 v6)]) (Γ' := [⟨1, some zMx⟩, ⟨1, some (L4.map f32)⟩, ⟨1, some (oXc r1 r2 1 1 r3.length)⟩]) hw4 hd4 ?_
  replace hl5 : L4.length = r3.length := hl5
  replace h4_ : i_made_2Fi_shift_1_b3 a0 a1 a2 r1 r2 r3 L4 v6 = some y4_ := h4_
  unfold i_made_2Fi_shift_1_b3 at h4_
  refine yS ?_
  rcases oB h4_ with ⟨hc2, h4_⟩ | ⟨hc2, h4_⟩
  ·refine yW<|yl rfl (b true) (LOp.eqb (LOp.lss rfl rfl rfl) hc2)<|zN ?_
   refine yS<|yT<|RunC.skip<|yS<|RunC.block<|zQ<|ym rfl (i64 v6)<|ya rfl (i64 v6)<|zN ?_
   refine zQ<|ym rfl (i64 a1)<|ym rfl (i64 0)<|zN ?_
   obtain ⟨z5, hz_5, h4_⟩ := oS h4_
   refine RunC.cutN (fun τ Γ => ∃ (L14 : List F), L14.length = r3.length ∧ WeakLe τ [(1, i64 a1), (2, fn (.func 142) [] [ptr [(sFc a2)]]), (6, optr 0 1 0), (7, optr 2 1 0), (13, i64 a0), (14, i64 v6)] ∧ DeadLe Γ [⟨1, some zMx⟩, ⟨1, some (L14.map f32)⟩, ⟨1, some (oXc r1 r2 1 1 r3.length)⟩] ∧ z5 = .inl L14) ?_ ?_
   ·refine RunC.block (RunC.loop (RunL.loopM (x := z5) (i_made_2Fi_shift_1_s2 a1 a2 r1 r2 r3 v6) (fun (s : (List F) × Int) τ Γ => s.1.length = r3.length ∧ WeakLe τ [(1, i64 a1), (2, fn (.func 142) [] [ptr [(sFc a2)]]), (6, optr 0 1 0), (7, optr 2 1 0), (8, i64 v6), (13, i64 a0), (14, i64 v6), (17, i64 a1), (18, i64 s.2)] ∧ DeadLe Γ [⟨1, some zMx⟩, ⟨1, some (s.1.map f32)⟩, ⟨1, some (oXc r1 r2 1 1 r3.length)⟩]) ?_ _ _ _ hz_5 ⟨hl5, ⟨aR, aR, aR, aR, aR, aR, aR, aR, aR, trivial⟩, ⟨⟨rfl, .inr rfl⟩, ⟨rfl, .inr rfl⟩, ⟨rfl, .inr rfl⟩, trivial⟩⟩))
    rintro ⟨L7, v9⟩ τ5 Γ5 y5_ ⟨hl8, hw5, hd5⟩ h5_ ho5 hr5
    refine RunC.wl (τ' := [(1, i64 a1), (2, fn (.func 142) [] [ptr [(sFc a2)]]), (6, optr 0 1 0), (7, optr 2 1 0), (8, i64 v6), (13, i64 a0), (14, i64 v6), (17, i64 a1), (18, i64 v9)]) (Γ' := [⟨1, some zMx⟩, ⟨1, some (L7.map f32)⟩, ⟨1, some (oXc r1 r2 1 1 r3.length)⟩]) hw5 hd5 ?_
    replace hl8 : L7.length = r3.length := hl8
    replace h5_ : i_made_2Fi_shift_1_b2 a1 a2 r1 r2 r3 v6 L7 v9 = some y5_ := h5_
    unfold i_made_2Fi_shift_1_b2 at h5_
    refine yS ?_
    rcases oB h5_ with ⟨hc3, h5_⟩ | ⟨hc3, h5_⟩
    ·refine yW<|yl rfl (b true) (LOp.eqb (LOp.lss rfl rfl rfl) hc3)<|zN ?_
     refine yS<|yT<|RunC.skip<|yS<|RunC.block<|zQ<|ym rfl (i64 v9)<|ya rfl (i64 v9)<|zN ?_
     obtain ⟨r11, hf5, h5_⟩ := oS h5_
     obtain ⟨r12, hf6, h5_⟩ := oS h5_
     obtain ⟨hn7, h5_⟩ := need_some h5_
     refine RunC.region_draw (Γ' := [⟨1, some zMx⟩, ⟨1, some (L7.map f32)⟩, ⟨1, some (oXc r1 r2 1 1 r3.length)⟩]) 7 mixed 
      (TR.d (r := agg (oXc r1 r2 1 1 r3.length)) (fs := []) rfl rfl (TOp.loadAgg_o rfl agg33 siz33 rfl rfl rfl rfl) <|
      (tm rfl (i64 v6) <|
      (tm rfl (i64 v9) <|
      (tm rfl (fn (.func 142) [] [ptr [(sFc a2)]]) <|
      (tm rfl (i64 v6) <|
      (tm rfl (i64 v9) <|
      (TR.d (r := f32 r11) (fs := []) rfl rfl (TOp.callB (CallAs.fn ent142 rfl rfl rfl rfl) (bP (bP (Bors.cons (Bor.ptr (bS bN)) bN))) rfl rfl (i_shift_1_ok v6 v9 a2 r11 hf5)) <|
      TR.nil))))))) rfl (by kernel_rfl) rfl fills_nil rfl ?_
     iterate 7 refine ROps.dropS ?_
     refine ROps.drop0<|ROps.callO (A := [agg (oXc r1 r2 1 1 r3.length), i64 v6, i64 v9, f32 r11]) (args := [agg (oXc r1 r2 0 0 L7.length), i64 v6, i64 v9, f32 r11]) (Γc := [⟨0, some (L7.map f32)⟩]) (Γc' := [⟨0, some (r12.map f32)⟩]) (r' := tup []) (Γ' := [⟨1, some zMx⟩, ⟨1, some (r12.map f32)⟩, ⟨1, some (oXc r1 r2 1 1 r3.length)⟩]) [(1, 1)] [] rfl (CallAs.func ent93 rfl rfl) rfl rfl (SelOk.of (ndB_ok rfl) (SelL.arr0 (f := f32) (fun _ => rfl) rfl trivial)) (live_of ⟨⟨_, _, rfl⟩, trivial⟩) (by simp [ren, rens, sigma, rens_f32, rens_f64, rens_i64, rens_ik, rens_str, rens_cp, hl8]) rfl (i_Matrix_set_02o_ok r1 r2 v6 v9 r11 L7 r12 hf6) rfl (news_of trivial) (ndB_ok rfl) (by simp [ren, rens, sigma, of_decide_eq_true hn7]) (by simp [backOb, sigma, ren, rens, rens_f32, rens_f64, rens_i64, rens_ik, rens_str, rens_cp] <;> omega)<|zN ?_
     obtain ⟨x13, hx8, h5_⟩ := oL h5_
     refine yW<|yl rfl (i64 x13) (LOp.eqr (LOp.add rfl rfl rfl) (congrArg (ik .i64) hx8))<|ym rfl (i64 x13)<|zN ?_
     cases oI h5_
     exact ⟨_, rfl, (of_decide_eq_true hn7), ⟨aR, aR, aR, aR, aR, aR, aR, aR, aR, trivial⟩, ⟨⟨rfl, .inr rfl⟩, ⟨rfl, .inr rfl⟩, ⟨rfl, .inr rfl⟩, trivial⟩⟩
    ·refine yW<|yl rfl (b false) (LOp.eqb (LOp.lss rfl rfl rfl) hc3)<|zN ?_
     refine yS<|yF<|RunC.exit ?_
     cases oI h5_
     have hx := ho5 _ rfl
     exact ⟨L7, hl8, ⟨aR, aR, aR, aR, aR, aR, trivial⟩, ⟨⟨rfl, .inr rfl⟩, ⟨rfl, .inr rfl⟩, ⟨rfl, .inr rfl⟩, trivial⟩, hx⟩
   ·rintro τ6 Γ6 ⟨L14, hl15, hw6, hd6, rfl⟩
    refine RunC.wl hw6 hd6 ?_
    replace h4_ : i_made_2Fi_shift_1_k2 v6 L14 = some y4_ := h4_
    unfold i_made_2Fi_shift_1_k2 at h4_
    obtain ⟨x16, hx9, h4_⟩ := oL h4_
    refine yW<|yl rfl (i64 x16) (LOp.eqr (LOp.add rfl rfl rfl) (congrArg (ik .i64) hx9))<|ym rfl (i64 x16)<|zN ?_
    cases oI h4_
    exact ⟨_, rfl, hl15, ⟨aR, aR, aR, aR, aR, aR, trivial⟩, ⟨⟨rfl, .inr rfl⟩, ⟨rfl, .inr rfl⟩, ⟨rfl, .inr rfl⟩, trivial⟩⟩
  ·refine yW<|yl rfl (b false) (LOp.eqb (LOp.lss rfl rfl rfl) hc2)<|zN ?_
   refine yS<|yF<|RunC.exit ?_
   cases oI h4_
   have hx := ho4 _ rfl
   exact ⟨L4, hl5, ⟨aR, aR, trivial⟩, ⟨⟨rfl, .inr rfl⟩, ⟨rfl, .inr rfl⟩, ⟨rfl, .inr rfl⟩, trivial⟩, hx⟩
 ·rintro τ7 Γ7 ⟨L17, hl18, hw7, hd7, rfl⟩
  refine RunC.wl hw7 hd7 ?_
  replace h : i_made_2Fi_shift_1_k3 r1 r2 L17 = some (q0, q1, q2) := h
  unfold i_made_2Fi_shift_1_k3 at h
  refine zQ<|yd rfl (agg (oXc r1 r2 1 1 r3.length)) (TOp.loadAgg_o rfl agg33 siz33 rfl rfl rfl rfl)<|ys (agg (oXc r1 r2 1 1 r3.length)) (oXc r1 r2 1 1 r3.length) [⟨1, some (oXc r1 r2 1 1 r3.length)⟩, ⟨1, some (L17.map f32)⟩, ⟨1, some (oXc r1 r2 1 1 r3.length)⟩] siz33<|zN ?_
  refine RunC.ret ?_
  have hq := oI h
  obtain ⟨hq0, hq⟩ := Prod.mk.inj hq
  obtain ⟨hq1, hq⟩ := Prod.mk.inj hq
  subst q0
  subst q1
  subst q2
  exact yB (agg (oXc r1 r2 1 1 L17.length)) [(1, 1)] (Res.eq (Res.one rfl (RV.cell agg33 siz33 rfl rfl rfl rfl)) (by first | rfl | (rw [(show L17.length = r3.length from hl18)] <;> rfl))) (SelL.arr0 (f := f32) (fun _ => rfl) rfl trivial)
def i_shift (a0 : List F) : Option (Int × Int × (List F)) :=
 obind (i_length_float32 a0) fun (r1 : Int) =>
 obind3 (i_made_2Fi_shift_1 r1 r1 a0) fun (r2 : Int) (r3 : Int) (r4 : List F) =>
 some (r2, r3, r4)
theorem i_shift_ok (a0 : List F) (q0 : Int) (q1 : Int) (q2 : List F) (h : i_shift a0 = some (q0, q1, q2)) : Ev Try.prog 78 [(sFc a0)] [] (agg (oXc q0 q1 0 0 q2.length)) [⟨0, some (q2.map f32)⟩] := by
 refine yE Try.func78 2 21 0 [(0, (sFc a0))] [⟨0, none⟩, ⟨0, none⟩] rfl ?_
 unfold i_shift at h
 refine zQ<|yd rfl (ptr [(sFc a0)]) (TOp.box_s rfl rfl rfl)<|ye rfl (optr 0 1 0) [⟨1, some zMx⟩, ⟨0, none⟩] (TOp.alloc_o (g := ⟨0, none⟩) 0 rfl zer33 zok33 rfl)<|zN ?_
 refine yS ?_
 obtain ⟨r1, hf1, h⟩ := oS h
 refine yW<|yl rfl (sFc a0) (y2 agg26)<|yd rfl (i64 r1) (yc ent62 rfl rfl (bS bN) (i_length_float32_ok a0 r1 hf1))<|ya rfl (i64 r1)<|zN ?_
 refine yS ?_
 obtain ⟨r2, r3, r4, hf2, h⟩ := obind3_some h
 refine yW<|ym rfl (i64 r1)<|ym rfl (i64 r1)<|yl rfl (fn (.func 142) [] [ptr [(sFc a0)]]) (LOp.makeFunc rfl rfl)<|ye rfl (agg (oXc r2 r3 1 1 r4.length)) [⟨1, some zMx⟩, ⟨1, some (r4.map f32)⟩] (TOp.callBN (ls := [(r4.map f32)]) [1] (CallAs.func ent64 rfl rfl) (bP (bP (Bors.cons (Bor.fn bN (Bors.cons (Bor.ptr (bS bN)) bN)) bN))) rfl (i_made_2Fi_shift_1_ok r1 r1 a0 r2 r3 r4 hf2) (and_all (lts0_map (f := f32) (fun _ => rfl) _) rfl) (and_all (noss_map (f := f32) (fun _ => rfl) _) rfl) rfl (by decide) (ns_of ⟨⟨_, rfl⟩, trivial⟩))<|ys (agg (oXc r2 r3 1 1 r4.length)) (oXc r2 r3 1 1 r4.length) [⟨1, some (oXc r2 r3 1 1 r4.length)⟩, ⟨1, some (r4.map f32)⟩] siz33<|zN ?_
 refine RunC.ret ?_
 have hq := oI h
 obtain ⟨hq0, hq⟩ := Prod.mk.inj hq
 obtain ⟨hq1, hq⟩ := Prod.mk.inj hq
 subst q0
 subst q1
 subst q2
 exact yB (agg (oXc r2 r3 1 1 r4.length)) [(1, 1)] (Res.one rfl (RV.cell agg33 siz33 rfl rfl rfl rfl)) (SelL.arr0 (f := f32) (fun _ => rfl) rfl trivial)
def i_Matrix_row (a0 : Int) (a1 : Int) (a2 : List F) (a3 : Int) : Option ((List F)) :=
 olet (IntKind.i64.wrap (a3 * a1)) fun (x1 : Int) =>
 olet (IntKind.i64.wrap (a3 + 1)) fun (x2 : Int) =>
 olet (IntKind.i64.wrap (x2 * a1)) fun (x3 : Int) =>
 obind (sub? a2 x1 x3) fun (l4 : List F) =>
 obind (x_slices_Clone_float32_float32 l4) fun (r5 : List F) =>
 some r5
theorem i_Matrix_row_ok (a0 : Int) (a1 : Int) (a2 : List F) (a3 : Int) (q0 : List F) (h : i_Matrix_row a0 a1 a2 a3 = some q0) : Ev Try.prog 144 [agg (mXc a0 a1 a2), i64 a3] [] (oref 0 0 0 q0.length) [⟨0, some (q0.map f32)⟩] := by
 refine yE Try.func144 1 37 0 [(0, agg (mXc a0 a1 a2)), (1, i64 a3)] [⟨0, none⟩] rfl ?_
 unfold i_Matrix_row at h
 refine zQ<|yd rfl (ptr (mXc a0 a1 a2)) (TOp.box_s rfl rfl rfl)<|ya rfl nilsl<|zN ?_
 refine yS ?_
 obtain ⟨x1, hx1, h⟩ := oL h
 obtain ⟨x2, hx2, h⟩ := oL h
 obtain ⟨x3, hx3, h⟩ := oL h
 obtain ⟨l4, hs4, h⟩ := oS h
 obtain ⟨r5, hf5, h⟩ := oS h
 refine yW<|yl rfl (ptr [(sFc a2)]) (LOp.fap und33 rfl siz26 rfl rfl rfl)<|yl rfl (sFc a2) (y2 agg26)<|ym rfl (i64 a3)<|yl rfl (ptr [i64 a1, (sFc a2)]) (LOp.fap und33 rfl siz2 rfl rfl rfl)<|yl rfl (i64 a1) (y2 agg2)<|yl rfl (i64 x1) (LOp.eqr (LOp.mul rfl rfl rfl) (congrArg (ik .i64) hx1))<|ym rfl (i64 a3)<|yl rfl (i64 x2) (LOp.eqr (LOp.add rfl rfl rfl) (congrArg (ik .i64) hx2))<|yl rfl (ptr [i64 a1, (sFc a2)]) (LOp.fap und33 rfl siz2 rfl rfl rfl)<|yl rfl (i64 a1) (y2 agg2)<|yl rfl (i64 x3) (LOp.eqr (LOp.mul rfl rfl rfl) (congrArg (ik .i64) hx3))<|yl rfl (sFc l4) (LOp.slice_sl (f := f32) und26 siz28 rfl rfl rfl rfl rfl hs4)<|ye rfl (oref 0 1 0 r5.length) [⟨1, some (r5.map f32)⟩] (TOp.callBN (ls := [(r5.map f32)]) [0] (CallAs.func ent82 rfl rfl) (bS bN) rfl (x_slices_Clone_float32_float32_ok l4 r5 hf5) (and_all (lts0_map (f := f32) (fun _ => rfl) _) rfl) (and_all (noss_map (f := f32) (fun _ => rfl) _) rfl) rfl (by decide) (ns_of ⟨⟨_, rfl⟩, trivial⟩))<|ya rfl (oref 0 1 0 r5.length)<|zN ?_
 refine RunC.ret ?_
 have hq := oI h
 subst q0
 exact yB (oref 0 1 0 r5.length) [(0, 1)] (Res.one rfl (RV.tmp rfl)) (SelL.arr0 (f := f32) (fun _ => rfl) rfl trivial)
def i_dot_b1 (a0 : List F) (a1 : List F) (y1 : F) (v2 : Int) : Option (LR (F × Int) (F) (F)) :=
 bsel (decide (v2 < (a0.length : Int))) (
  obind (at? a0 v2) fun (e3 : F) =>
  obind (at? a1 v2) fun (e4 : F) =>
  obind (i_mul e3 e4) fun (r5 : F) =>
  olet (fop .add .f32 y1 r5) fun (x6 : F) =>
  olet (IntKind.i64.wrap (v2 + 1)) fun (x7 : Int) =>
  some (LR.next (x6, x7))) (
  some (LR.out y1))
def i_dot_s1 (a0 : List F) (a1 : List F) : (F × Int) → Option (LR (F × Int) (F) (F)) := fun s => i_dot_b1 a0 a1 s.1 s.2
def i_dot_k1 (y8 : F) : Option (F) :=
 some y8
def i_dot (a0 : List F) (a1 : List F) : Option (F) :=
 obind (loopM (i_dot_s1 a0 a1) (some 0, 0)) fun z => osum z (fun e => i_dot_k1 e) (fun r => some r)
theorem i_dot_ok (a0 : List F) (a1 : List F) (q0 : F) (h : i_dot a0 a1 = some q0) : Ev Try.prog 143 [(sFc a0), (sFc a1)] [] (f32 q0) [] := by
 refine yE Try.func143 0 51 0 [(0, (sFc a0)), (1, (sFc a1))] [] rfl ?_
 unfold i_dot at h
 refine zQ<|yl rfl (f32 (some 0)) (LOp.le (LOp.assign rfl rfl) (ALe.fl (by kernel_rfl) (by kernel_rfl)))<|zN ?_
 refine zQ<|yl rfl (f32 (some 0)) (LOp.le (LOp.assign rfl rfl) (ALe.fl (by kernel_rfl) (by kernel_rfl)))<|zN ?_
 refine yS<|zQ<|ym rfl (sFc a0)<|yl rfl (i64 (a0.length : Int)) (LOp.len_sl und26 rfl rfl)<|ym rfl (i64 0)<|zN ?_
 obtain ⟨z2, hz_2, h⟩ := oS h
 refine RunC.cutN (fun τ Γ => ∃ (y8 : F), WeakLe τ [(5, f32 y8)] ∧ DeadLe Γ [] ∧ z2 = .inl y8) ?_ ?_
 ·refine RunC.block (RunC.loop (RunL.loopM (x := z2) (i_dot_s1 a0 a1) (fun (s : F × Int) τ Γ => WeakLe τ [(1, (sFc a1)), (5, f32 s.1), (8, (sFc a0)), (9, i64 (a0.length : Int)), (10, i64 s.2)] ∧ DeadLe Γ []) ?_ _ _ _ hz_2 ⟨⟨aR, aR, aR, aR, aR, trivial⟩, trivial⟩))
  rintro ⟨y1, v2⟩ τ2 Γ2 y2_ ⟨hw2, hd2⟩ h2_ ho2 hr2
  refine RunC.wl (τ' := [(1, (sFc a1)), (5, f32 y1), (8, (sFc a0)), (9, i64 (a0.length : Int)), (10, i64 v2)]) (Γ' := []) hw2 hd2 ?_
  replace h2_ : i_dot_b1 a0 a1 y1 v2 = some y2_ := h2_
  unfold i_dot_b1 at h2_
  refine yS ?_
  rcases oB h2_ with ⟨hc1, h2_⟩ | ⟨hc1, h2_⟩
  ·refine yW<|yl rfl (b true) (LOp.eqb (LOp.lss rfl rfl rfl) hc1)<|zN ?_
   refine yS<|yT<|RunC.skip<|yS<|RunC.block<|yS ?_
   obtain ⟨e3, he2, h2_⟩ := oS h2_
   refine yW<|ym rfl (i64 v2)<|yl rfl (ptr [f32 e3]) (LOp.le (LOp.ix (f := f32) und26 siz28 rfl rfl rfl rfl he2) ALe.ptr)<|yl rfl (f32 e3) (y2 agg28)<|ya rfl (i64 v2)<|ya rfl (f32 e3)<|zN ?_
   obtain ⟨e4, he3, h2_⟩ := oS h2_
   obtain ⟨r5, hf4, h2_⟩ := oS h2_
   obtain ⟨x6, hx5, h2_⟩ := oL h2_
   refine yW<|ym rfl (f32 y1)<|ym rfl (f32 e3)<|ym rfl (sFc a1)<|ym rfl (i64 v2)<|yl rfl (ptr [f32 e4]) (LOp.le (LOp.ix (f := f32) und26 siz28 rfl rfl rfl rfl he3) ALe.ptr)<|yl rfl (f32 e4) (y2 agg28)<|yd rfl (f32 r5) (yc ent76 rfl rfl (bP bN0) (i_mul_ok e3 e4 r5 hf4))<|yd rfl (f32 x6) (TOp.eqr (TOp.fop (.inl rfl) rfl (OpF.tmp rfl) (OpF.tmp rfl)) (congrArg (f .f32) hx5))<|ya rfl (f32 x6)<|zN ?_
   refine RunC.wl (τ' := [(1, (sFc a1)), (5, f32 x6), (8, (sFc a0)), (9, i64 (a0.length : Int)), (10, i64 v2)]) (Γ' := []) ⟨aR, aR, aR, aR, aR, trivial⟩ trivial ?_
   obtain ⟨x7, hx6, h2_⟩ := oL h2_
   refine yW<|yl rfl (i64 x7) (LOp.eqr (LOp.add rfl rfl rfl) (congrArg (ik .i64) hx6))<|ym rfl (i64 x7)<|zN ?_
   cases oI h2_
   exact ⟨_, rfl, ⟨aR, aR, aR, aR, aR, trivial⟩, trivial⟩
  ·refine yW<|yl rfl (b false) (LOp.eqb (LOp.lss rfl rfl rfl) hc1)<|zN ?_
   refine yS<|yF<|RunC.exit ?_
   cases oI h2_
   have hx := ho2 _ rfl
   exact ⟨y1, ⟨aR, trivial⟩, trivial, hx⟩
 ·rintro τ3 Γ3 ⟨y8, hw3, hd3, rfl⟩
  refine RunC.wl hw3 hd3 ?_
  replace h : i_dot_k1 y8 = some q0 := h
  unfold i_dot_k1 at h
  refine zQ<|ym rfl (f32 y8)<|ya rfl (f32 y8)<|zN ?_
  refine RunC.ret ?_
  have hq := oI h
  subst q0
  exact bodyQ.pure (.inr rfl) rfl (Res.one rfl (RV.tmp rfl))
def i_Matrix_timesVector_b1 (a0 : Int) (a1 : Int) (a2 : List F) (a3 : List F) (L4 : List F) (v5 : Int) : Option (LR ((List F) × Int) ((List F)) ((List F))) :=
 bsel (decide (v5 < a0)) (
  obind (i_Matrix_row a0 a1 a2 v5) fun (r6 : List F) =>
  obind (i_dot r6 a3) fun (r7 : F) =>
  need (apok 4 L4.length 1) <|
  olet (IntKind.i64.wrap (v5 + 1)) fun (x8 : Int) =>
  some (LR.next ((L4 ++ ([r7] : List F)), x8))) (
  some (LR.out L4))
def i_Matrix_timesVector_s1 (a0 : Int) (a1 : Int) (a2 : List F) (a3 : List F) : ((List F) × Int) → Option (LR ((List F) × Int) ((List F)) ((List F))) := fun s => i_Matrix_timesVector_b1 a0 a1 a2 a3 s.1 s.2
def i_Matrix_timesVector_k1 (L12 : List F) : Option ((List F)) :=
 some L12
def i_Matrix_timesVector (a0 : Int) (a1 : Int) (a2 : List F) (a3 : List F) : Option ((List F)) :=
 obind (loopM (i_Matrix_timesVector_s1 a0 a1 a2 a3) (([] : List F), 0)) fun z => osum z (fun e => i_Matrix_timesVector_k1 e) (fun r => some r)
theorem i_Matrix_timesVector_ok (a0 : Int) (a1 : Int) (a2 : List F) (a3 : List F) (q0 : List F) (h : i_Matrix_timesVector a0 a1 a2 a3 = some q0) : Ev Try.prog 79 [agg (mXc a0 a1 a2), (sFc a3)] [] (oref 0 0 0 q0.length) [⟨0, some (q0.map f32)⟩] := by
 refine yE Try.func79 3 47 0 [(0, agg (mXc a0 a1 a2)), (1, (sFc a3))] [⟨0, none⟩, ⟨0, none⟩, ⟨0, none⟩] rfl ?_
 unfold i_Matrix_timesVector at h
 refine zQ<|yd rfl (ptr (mXc a0 a1 a2)) (TOp.box_s rfl rfl rfl)<|ya rfl nilsl<|zN ?_
 refine zQ<|ye rfl (oref 0 1 0 0) ([⟨1, some (([] : List F).map f32)⟩, ⟨0, none⟩, ⟨0, none⟩]) (TOp.buildSlice_o (g := ⟨0, none⟩) (za := f32 (some 0)) (qs := []) 0 rfl und26 siz28 zer28 rfl zel28 rfl rfl trivial rfl)<|ya rfl (oref 0 1 0 0)<|zN ?_
 refine yS<|zQ<|yl rfl (ptr (mXc a0 a1 a2)) (LOp.fap und33 rfl siz2 rfl rfl rfl)<|yl rfl (i64 a0) (y2 agg2)<|ym rfl (i64 0)<|zN ?_
 obtain ⟨z2, hz_2, h⟩ := oS h
 refine RunC.cutN (fun τ Γ => ∃ (L12 : List F) (u9 : Nat) (u10 : Nat) (u11 : Nat), WeakLe τ [(5, oref 0 u9 0 L12.length)] ∧ DeadLe Γ [⟨u9, some (L12.map f32)⟩, ⟨u10, none⟩, ⟨u11, none⟩] ∧ z2 = .inl L12) ?_ ?_
 ·refine RunC.block (RunC.loop (RunL.loopM (x := z2) (i_Matrix_timesVector_s1 a0 a1 a2 a3) (fun (s : (List F) × Int) τ Γ => ∃ (u1 : Nat) (u2 : Nat) (u3 : Nat), WeakLe τ [(1, (sFc a3)), (2, ptr (mXc a0 a1 a2)), (5, oref 0 u1 0 s.1.length), (9, i64 a0), (10, i64 s.2)] ∧ DeadLe Γ [⟨u1, some (s.1.map f32)⟩, ⟨u2, none⟩, ⟨u3, none⟩]) ?_ _ _ _ hz_2 ⟨1, 0, 0, ⟨aR, aR, aR, aR, aR, trivial⟩, ⟨⟨rfl, .inr rfl⟩, ⟨rfl, .inl rfl⟩, ⟨rfl, .inl rfl⟩, trivial⟩⟩))
  rintro ⟨L4, v5⟩ τ2 Γ2 y2_ ⟨u1, u2, u3, hw2, hd2⟩ h2_ ho2 hr2
  refine RunC.wl (τ' := [(1, (sFc a3)), (2, ptr (mXc a0 a1 a2)), (5, oref 0 u1 0 L4.length), (9, i64 a0), (10, i64 v5)]) (Γ' := [⟨u1, some (L4.map f32)⟩, ⟨u2, none⟩, ⟨u3, none⟩]) hw2 hd2 ?_
  replace h2_ : i_Matrix_timesVector_b1 a0 a1 a2 a3 L4 v5 = some y2_ := h2_
  unfold i_Matrix_timesVector_b1 at h2_
  refine yS ?_
  rcases oB h2_ with ⟨hc1, h2_⟩ | ⟨hc1, h2_⟩
  ·refine yW<|yl rfl (b true) (LOp.eqb (LOp.lss rfl rfl rfl) hc1)<|zN ?_
   refine yS<|yT<|RunC.skip<|yS<|RunC.block<|zQ<|ym rfl (i64 v5)<|ya rfl (i64 v5)<|zN ?_
   obtain ⟨r6, hf2, h2_⟩ := oS h2_
   obtain ⟨r7, hf3, h2_⟩ := oS h2_
   obtain ⟨hm4, h2_⟩ := need_some h2_
   refine yW<|ym rfl (oref 0 u1 0 L4.length)<|yl rfl (agg (mXc a0 a1 a2)) (yL agg33 siz33)<|ym rfl (i64 v5)<|ye rfl (oref 1 (u2 + 1) 0 r6.length) [⟨u1, some (L4.map f32)⟩, ⟨(u2 + 1), some (r6.map f32)⟩, ⟨u3, none⟩] (TOp.eqr (TOp.callBN (ls := [(r6.map f32)]) [1] (CallAs.func ent144 rfl rfl) (Bors.cons (Bor.agg (bP (bP (bS bN)))) bN0) rfl (i_Matrix_row_ok a0 a1 a2 v5 r6 hf2) (and_all (lts0_map (f := f32) (fun _ => rfl) _) rfl) (and_all (noss_map (f := f32) (fun _ => rfl) _) rfl) rfl (by decide) (ns_of ⟨⟨_, rfl⟩, trivial⟩)) (by simp [ren, rens, sigma, newNames]))<|ym rfl (sFc a3)<|yd rfl (f32 r7) (yc ent143 rfl rfl (Bors.cons (Bor.own (f := f32) (fun _ => rfl) rfl rfl) (bS bN)) (i_dot_ok r6 a3 r7 hf3))<|ye rfl (oref 2 (u3 + 1) 0 1) ([⟨u1, some (L4.map f32)⟩, ⟨(u2 + 1), some (r6.map f32)⟩, ⟨(u3 + 1), some (([r7] : List F).map f32)⟩]) (TOp.buildSlice_o (g := ⟨u3, none⟩) (za := f32 (some 0)) (qs := [(0, [f32 r7])]) 2 rfl und26 siz28 zer28 rfl zel28 rfl rfl ⟨rfl, ⟨_, ALe.refl _, rfl⟩, trivial⟩ rfl)<|ROps.app (f := f32) (xs := L4) (ys := ([r7] : List F)) (Γ' := [⟨(u1 + 1), some ((L4 ++ ([r7] : List F)).map f32)⟩, ⟨(u2 + 1), some (r6.map f32)⟩, ⟨(u3 + 1), some (([r7] : List F).map f32)⟩]) rfl pun26 inf28 rfl rfl rfl rfl rfl rfl rfl rfl rfl (by simp) (ReadAs.own rfl (by simp)) (ones_map (fun _ => rfl)) (ap_by hm4) (ap_mx hm4) rfl<|ya rfl (oref 0 (u1 + 1) 0 (L4.length + 1))<|zN ?_
   refine RunC.wl (τ' := [(1, (sFc a3)), (2, ptr (mXc a0 a1 a2)), (5, oref 0 (u1 + 1) 0 (L4.length + 1)), (9, i64 a0), (10, i64 v5)]) (Γ' := [⟨(u1 + 1), some ((L4 ++ ([r7] : List F)).map f32)⟩, ⟨(u2 + 1), none⟩, ⟨(u3 + 1), none⟩]) ⟨aR, aR, aR, aR, aR, trivial⟩ ⟨⟨rfl, .inr rfl⟩, ⟨rfl, .inl rfl⟩, ⟨rfl, .inl rfl⟩, trivial⟩ ?_
   obtain ⟨x8, hx5, h2_⟩ := oL h2_
   refine yW<|yl rfl (i64 x8) (LOp.eqr (LOp.add rfl rfl rfl) (congrArg (ik .i64) hx5))<|ym rfl (i64 x8)<|zN ?_
   cases oI h2_
   exact ⟨_, rfl, (u1 + 1), (u2 + 1), (u3 + 1), ⟨aR, aR, (ALe.eq (by rw [(app_len rfl rfl)] <;> rfl)), aR, aR, trivial⟩, ⟨⟨rfl, .inr rfl⟩, ⟨rfl, .inl rfl⟩, ⟨rfl, .inl rfl⟩, trivial⟩⟩
  ·refine yW<|yl rfl (b false) (LOp.eqb (LOp.lss rfl rfl rfl) hc1)<|zN ?_
   refine yS<|yF<|RunC.exit ?_
   cases oI h2_
   have hx := ho2 _ rfl
   exact ⟨L4, u1, u2, u3, ⟨aR, trivial⟩, ⟨⟨rfl, .inr rfl⟩, ⟨rfl, .inl rfl⟩, ⟨rfl, .inl rfl⟩, trivial⟩, hx⟩
 ·rintro τ3 Γ3 ⟨L12, u9, u10, u11, hw3, hd3, rfl⟩
  refine RunC.wl hw3 hd3 ?_
  replace h : i_Matrix_timesVector_k1 L12 = some q0 := h
  unfold i_Matrix_timesVector_k1 at h
  refine zQ<|ym rfl (oref 0 u9 0 L12.length)<|ya rfl (oref 0 u9 0 L12.length)<|zN ?_
  refine RunC.ret ?_
  have hq := oI h
  subst q0
  exact bodyQ.mk (r' := oref 0 u9 0 L12.length) [(0, u9)] (.inr rfl) rfl (ndB_ok rfl) (by simp [ren, rens, sigma]) rfl (Res.one rfl (RV.tmp rfl)) (SelL.arr0 (f := f32) (fun _ => rfl) rfl trivial)
def i_ShiftTimes (a0 : List F) (a1 : List F) : Option (Bool × (List F)) :=
 obind (i_isList a0 12) fun (r1 : Bool) =>
 bsel r1 (
  bsel (!decide ((a1.length : Int) = (a0.length : Int))) (
   some (false, ([] : List F))) (
   obind (i_areFinite a1) fun (r2 : Bool) =>
   bsel r2 (
    obind3 (i_shift a0) fun (r3 : Int) (r4 : Int) (r5 : List F) =>
    obind (i_Matrix_timesVector r3 r4 r5 a1) fun (r6 : List F) =>
    obind (i_allFinite_0o r6) (fun z => osum z (fun y => obind2 (some y) fun (r7 : Bool) (r8 : List F) =>
     need (decide (r8.length = r6.length)) <|
     some (r7, r8)) (fun y => obind3 (some y) fun (r9 : Bool) (r10 : List F) (r11 : List F) =>
     need (decide (r10.length = r6.length)) <|
     some (r9, r11)))) (
    some (false, ([] : List F))))) (
  some (false, ([] : List F)))
theorem i_ShiftTimes_ok (a0 : List F) (a1 : List F) (q0 : Bool) (q1 : List F) (h : i_ShiftTimes a0 a1 = some (q0, q1)) : Ev Try.prog 20 [(sFc a0), (sFc a1)] [] (tup [oref 0 0 0 q1.length, b q0]) [⟨0, some (q1.map f32)⟩] := by
 refine yE Try.func20 3 57 0 [(0, (sFc a0)), (1, (sFc a1))] [⟨0, none⟩, ⟨0, none⟩, ⟨0, none⟩] rfl ?_
 unfold i_ShiftTimes at h
 refine zQ<|ya rfl nilsl<|ya rfl (b false)<|zN ?_
 refine yS<|yS ?_
 obtain ⟨r1, hf1, h⟩ := oS h
 rcases oB h with ⟨hc2, h⟩ | ⟨hc2, h⟩
 ·rcases oB h with ⟨hc3, h⟩ | ⟨hc3, h⟩
  ·refine yW<|ym rfl (sFc a0)<|yd rfl (b true) (TOp.eqb (yc ent63 rfl rfl (bS bN0) (i_isList_ok a0 12 r1 hf1)) hc2)<|yl rfl (b false) y1<|ym rfl (b false)<|ym rfl (sFc a1)<|yl rfl (i64 (a1.length : Int)) (LOp.len_sl und26 rfl rfl)<|ym rfl (sFc a0)<|yl rfl (i64 (a0.length : Int)) (LOp.len_sl und26 rfl rfl)<|yl rfl (b true) (LOp.eqb (LOp.neq rfl rfl rfl) hc3)<|yl rfl (b true) yp<|ym rfl (b true)<|ROps.s rfl rfl rfl<|ROps.s rfl rfl rfl<|ROps.s rfl rfl rfl<|yl rfl (b true) yq<|zN ?_
   refine RunC.wl (τ' := [(0, (sFc a0)), (1, (sFc a1)), (20, b true)]) (Γ' := [⟨0, none⟩, ⟨0, none⟩, ⟨0, none⟩]) ⟨aR, aR, aR, trivial⟩ ⟨⟨rfl, .inr rfl⟩, ⟨rfl, .inr rfl⟩, ⟨rfl, .inr rfl⟩, trivial⟩<|yT<|zQ<|ya rfl nilsl<|ya rfl (b false)<|zN ?_
   refine RunC.nil_slot (Γ' := [⟨1, some (([] : List F).map f32)⟩, ⟨0, none⟩, ⟨0, none⟩]) 4 0 rfl rfl rfl<|RunC.ret ?_
   have hq := oI h
   obtain ⟨hq0, hq⟩ := Prod.mk.inj hq
   subst q0
   subst q1
   exact yB (tup [oref 0 1 0 (([] : List F).length), b false]) [(0, 1)] (Res.eq (Res.two rfl (RV.tmp rfl) (RV.tmp rfl)) (by first | rfl | (rw [(show ([] : List F).length = 0 from rfl)] <;> rfl))) (SelL.arr0 (f := f32) (fun _ => rfl) rfl trivial)
  ·obtain ⟨r2, hf4, h⟩ := oS h
   rcases oB h with ⟨hc5, h⟩ | ⟨hc5, h⟩
   ·refine yW<|ym rfl (sFc a0)<|yd rfl (b true) (TOp.eqb (yc ent63 rfl rfl (bS bN0) (i_isList_ok a0 12 r1 hf1)) hc2)<|yl rfl (b false) y1<|ym rfl (b false)<|ym rfl (sFc a1)<|yl rfl (i64 (a1.length : Int)) (LOp.len_sl und26 rfl rfl)<|ym rfl (sFc a0)<|yl rfl (i64 (a0.length : Int)) (LOp.len_sl und26 rfl rfl)<|yl rfl (b false) (LOp.eqb (LOp.neq rfl rfl rfl) hc3)<|yl rfl (b false) yp<|ym rfl (b false)<|ym rfl (sFc a1)<|yd rfl (b true) (TOp.eqb (yc ent74 rfl rfl (bS bN) (i_areFinite_ok a1 r2 hf4)) hc5)<|yl rfl (b false) y1<|yl rfl (b false) yp<|zN ?_
    refine RunC.wl (τ' := [(0, (sFc a0)), (1, (sFc a1)), (20, b false)]) (Γ' := [⟨0, none⟩, ⟨0, none⟩, ⟨0, none⟩]) ⟨aR, aR, aR, trivial⟩ ⟨⟨rfl, .inr rfl⟩, ⟨rfl, .inr rfl⟩, ⟨rfl, .inr rfl⟩, trivial⟩<|yF<|RunC.skip<|yS ?_
    obtain ⟨r3, r4, r5, hf6, h⟩ := obind3_some h
    obtain ⟨r6, hf7, h⟩ := oS h
    obtain ⟨z1, hf8, h⟩ := oS h
    rcases z1 with z1 | z1
    ·replace h := (osum_inl _ _ _).symm.trans h
     obtain ⟨r7, r8, hz2, h⟩ := obind2_some h
     cases hz2
     obtain ⟨hn9, h⟩ := need_some h
     refine yW<|ym rfl (sFc a0)<|ye rfl (agg (oXc r3 r4 0 1 r5.length)) [⟨1, some (r5.map f32)⟩, ⟨0, none⟩, ⟨0, none⟩] (TOp.callBN (ls := [(r5.map f32)]) [0] (CallAs.func ent78 rfl rfl) (bS bN) rfl (i_shift_ok a0 r3 r4 r5 hf6) (and_all (lts0_map (f := f32) (fun _ => rfl) _) rfl) (and_all (noss_map (f := f32) (fun _ => rfl) _) rfl) rfl (by decide) (ns_of ⟨⟨_, rfl⟩, trivial⟩))<|ym rfl (sFc a1)<|ye rfl (oref 1 1 0 r6.length) [⟨1, some (r5.map f32)⟩, ⟨1, some (r6.map f32)⟩, ⟨0, none⟩] (TOp.callBN (ls := [(r6.map f32)]) [1] (CallAs.func ent79 rfl rfl) (Bors.cons (Bor.agg (bP (bP (Bors.cons (Bor.own (f := f32) (fun _ => rfl) rfl rfl) bN)))) (bS bN)) rfl (i_Matrix_timesVector_ok r3 r4 r5 a1 r6 hf7) (and_all (lts0_map (f := f32) (fun _ => rfl) _) rfl) (and_all (noss_map (f := f32) (fun _ => rfl) _) rfl) rfl (by decide) (ns_of ⟨⟨_, rfl⟩, trivial⟩))<|ROps.callO (A := [oref 1 1 0 r6.length]) (args := [oref 0 0 0 r6.length]) (Γc := [⟨0, some (r6.map f32)⟩]) (Γc' := [⟨0, some (r8.map f32)⟩]) (r' := tup [oref 1 1 0 r6.length, b r7]) (Γ' := [⟨1, some (r5.map f32)⟩, ⟨1, some (r8.map f32)⟩, ⟨0, none⟩]) [(1, 1)] [] rfl (CallAs.func ent77 rfl rfl) rfl rfl (SelOk.of (ndB_ok rfl) (SelL.arr0 (f := f32) (fun _ => rfl) rfl trivial)) (live_of ⟨⟨_, _, rfl⟩, trivial⟩) (by simp [ren, rens, sigma, rens_f32, rens_f64, rens_i64, rens_ik, rens_str, rens_cp]) rfl (i_allFinite_0o_ok0 r6 r7 r8 hf8) rfl (news_of trivial) (ndB_ok rfl) (by simp [ren, rens, sigma, of_decide_eq_true hn9]) (by simp [backOb, sigma, ren, rens, rens_f32, rens_f64, rens_i64, rens_ik, rens_str, rens_cp] <;> omega)<|yl rfl (oref 1 1 0 r6.length) y3<|yl rfl (b r7) y3<|ya rfl (oref 1 1 0 r6.length)<|ya rfl (b r7)<|zN ?_
     refine RunC.ret ?_
     have hq := oI h
     obtain ⟨hq0, hq⟩ := Prod.mk.inj hq
     subst q0
     subst q1
     exact yB (tup [oref 1 1 0 r8.length, b r7]) [(1, 1)] (Res.eq (Res.two rfl (RV.tmp rfl) (RV.tmp rfl)) (by first | rfl | (rw [(show r8.length = r6.length from (of_decide_eq_true hn9))] <;> rfl))) (SelL.arr0 (f := f32) (fun _ => rfl) rfl trivial)
    ·replace h := (osum_inr _ _ _).symm.trans h
     obtain ⟨r9, r10, r11, hz3, h⟩ := obind3_some h
     cases hz3
     obtain ⟨hn10, h⟩ := need_some h
     refine yW<|ym rfl (sFc a0)<|ye rfl (agg (oXc r3 r4 0 1 r5.length)) [⟨1, some (r5.map f32)⟩, ⟨0, none⟩, ⟨0, none⟩] (TOp.callBN (ls := [(r5.map f32)]) [0] (CallAs.func ent78 rfl rfl) (bS bN) rfl (i_shift_ok a0 r3 r4 r5 hf6) (and_all (lts0_map (f := f32) (fun _ => rfl) _) rfl) (and_all (noss_map (f := f32) (fun _ => rfl) _) rfl) rfl (by decide) (ns_of ⟨⟨_, rfl⟩, trivial⟩))<|ym rfl (sFc a1)<|ye rfl (oref 1 1 0 r6.length) [⟨1, some (r5.map f32)⟩, ⟨1, some (r6.map f32)⟩, ⟨0, none⟩] (TOp.callBN (ls := [(r6.map f32)]) [1] (CallAs.func ent79 rfl rfl) (Bors.cons (Bor.agg (bP (bP (Bors.cons (Bor.own (f := f32) (fun _ => rfl) rfl rfl) bN)))) (bS bN)) rfl (i_Matrix_timesVector_ok r3 r4 r5 a1 r6 hf7) (and_all (lts0_map (f := f32) (fun _ => rfl) _) rfl) (and_all (noss_map (f := f32) (fun _ => rfl) _) rfl) rfl (by decide) (ns_of ⟨⟨_, rfl⟩, trivial⟩))<|ROps.callO (A := [oref 1 1 0 r6.length]) (args := [oref 0 0 0 r6.length]) (Γc := [⟨0, some (r6.map f32)⟩]) (Γc' := [⟨0, some (r10.map f32)⟩, ⟨0, some (r11.map f32)⟩]) (r' := tup [oref 2 1 0 r11.length, b r9]) (Γ' := [⟨1, some (r5.map f32)⟩, ⟨1, some (r10.map f32)⟩, ⟨1, some (r11.map f32)⟩]) [(1, 1)] [(2, 1)] rfl (CallAs.func ent77 rfl rfl) rfl rfl (SelOk.of (ndB_ok rfl) (SelL.arr0 (f := f32) (fun _ => rfl) rfl trivial)) (live_of ⟨⟨_, _, rfl⟩, trivial⟩) (by simp [ren, rens, sigma, rens_f32, rens_f64, rens_i64, rens_ik, rens_str, rens_cp]) rfl (i_allFinite_0o_ok1 r6 r9 r10 r11 hf8) rfl (news_of ⟨⟨_, rfl, rfl⟩, trivial⟩) (show List.Nodup [1, 2] from by decide) (by simp [ren, rens, sigma, of_decide_eq_true hn10]) (by simp [backOb, sigma, ren, rens, rens_f32, rens_f64, rens_i64, rens_ik, rens_str, rens_cp] <;> omega)<|yl rfl (oref 2 1 0 r11.length) y3<|yl rfl (b r9) y3<|ya rfl (oref 2 1 0 r11.length)<|ya rfl (b r9)<|zN ?_
     refine RunC.ret ?_
     have hq := oI h
     obtain ⟨hq0, hq⟩ := Prod.mk.inj hq
     subst q0
     subst q1
     exact yB (tup [oref 2 1 0 r11.length, b r9]) [(2, 1)] (Res.two rfl (RV.tmp rfl) (RV.tmp rfl)) (SelL.arr0 (f := f32) (fun _ => rfl) rfl trivial)
   ·refine yW<|ym rfl (sFc a0)<|yd rfl (b true) (TOp.eqb (yc ent63 rfl rfl (bS bN0) (i_isList_ok a0 12 r1 hf1)) hc2)<|yl rfl (b false) y1<|ym rfl (b false)<|ym rfl (sFc a1)<|yl rfl (i64 (a1.length : Int)) (LOp.len_sl und26 rfl rfl)<|ym rfl (sFc a0)<|yl rfl (i64 (a0.length : Int)) (LOp.len_sl und26 rfl rfl)<|yl rfl (b false) (LOp.eqb (LOp.neq rfl rfl rfl) hc3)<|yl rfl (b false) yp<|ym rfl (b false)<|ym rfl (sFc a1)<|yd rfl (b false) (TOp.eqb (yc ent74 rfl rfl (bS bN) (i_areFinite_ok a1 r2 hf4)) hc5)<|yl rfl (b true) y0<|yl rfl (b true) yp<|zN ?_
    refine RunC.wl (τ' := [(0, (sFc a0)), (1, (sFc a1)), (20, b true)]) (Γ' := [⟨0, none⟩, ⟨0, none⟩, ⟨0, none⟩]) ⟨aR, aR, aR, trivial⟩ ⟨⟨rfl, .inr rfl⟩, ⟨rfl, .inr rfl⟩, ⟨rfl, .inr rfl⟩, trivial⟩<|yT<|zQ<|ya rfl nilsl<|ya rfl (b false)<|zN ?_
    refine RunC.nil_slot (Γ' := [⟨1, some (([] : List F).map f32)⟩, ⟨0, none⟩, ⟨0, none⟩]) 4 0 rfl rfl rfl<|RunC.ret ?_
    have hq := oI h
    obtain ⟨hq0, hq⟩ := Prod.mk.inj hq
    subst q0
    subst q1
    exact yB (tup [oref 0 1 0 (([] : List F).length), b false]) [(0, 1)] (Res.eq (Res.two rfl (RV.tmp rfl) (RV.tmp rfl)) (by first | rfl | (rw [(show ([] : List F).length = 0 from rfl)] <;> rfl))) (SelL.arr0 (f := f32) (fun _ => rfl) rfl trivial)
 ·refine yW<|ym rfl (sFc a0)<|yd rfl (b false) (TOp.eqb (yc ent63 rfl rfl (bS bN0) (i_isList_ok a0 12 r1 hf1)) hc2)<|yl rfl (b true) y0<|ym rfl (b true)<|ROps.s rfl rfl rfl<|ROps.s rfl rfl rfl<|ROps.s rfl rfl rfl<|ROps.s rfl rfl rfl<|ROps.s rfl rfl rfl<|yl rfl (b true) yq<|ym rfl (b true)<|ROps.s rfl rfl rfl<|ROps.s rfl rfl rfl<|ROps.s rfl rfl rfl<|yl rfl (b true) yq<|zN ?_
  refine RunC.wl (τ' := [(0, (sFc a0)), (1, (sFc a1)), (20, b true)]) (Γ' := [⟨0, none⟩, ⟨0, none⟩, ⟨0, none⟩]) ⟨aR, aR, aR, trivial⟩ ⟨⟨rfl, .inr rfl⟩, ⟨rfl, .inr rfl⟩, ⟨rfl, .inr rfl⟩, trivial⟩<|yT<|zQ<|ya rfl nilsl<|ya rfl (b false)<|zN ?_
  refine RunC.nil_slot (Γ' := [⟨1, some (([] : List F).map f32)⟩, ⟨0, none⟩, ⟨0, none⟩]) 4 0 rfl rfl rfl<|RunC.ret ?_
  have hq := oI h
  obtain ⟨hq0, hq⟩ := Prod.mk.inj hq
  subst q0
  subst q1
  exact yB (tup [oref 0 1 0 (([] : List F).length), b false]) [(0, 1)] (Res.eq (Res.two rfl (RV.tmp rfl) (RV.tmp rfl)) (by first | rfl | (rw [(show ([] : List F).length = 0 from rfl)] <;> rfl))) (SelL.arr0 (f := f32) (fun _ => rfl) rfl trivial)
def i_ShiftMatrix (a0 : List F) : Option (Int × Int × Bool × (List F)) :=
 obind (i_isList a0 12) fun (r1 : Bool) =>
 bsel r1 (
  obind3 (i_shift a0) fun (r2 : Int) (r3 : Int) (r4 : List F) =>
  some (r2, r3, true, r4)) (
  some (0, 0, false, ([] : List F)))
theorem i_ShiftMatrix_ok (a0 : List F) (q0 : Int) (q1 : Int) (q2 : Bool) (q3 : List F) (h : i_ShiftMatrix a0 = some (q0, q1, q2, q3)) : Ev Try.prog 21 [(sFc a0)] [] (tup [agg (oXc q0 q1 0 0 q3.length), b q2]) [⟨0, some (q3.map f32)⟩] := by
 refine yE Try.func21 2 21 0 [(0, (sFc a0))] [⟨0, none⟩, ⟨0, none⟩] rfl ?_
 unfold i_ShiftMatrix at h
 refine zQ<|ye rfl (optr 0 1 0) [⟨1, some zMx⟩, ⟨0, none⟩] (TOp.alloc_o (g := ⟨0, none⟩) 0 rfl zer33 zok33 rfl)<|ya rfl (b false)<|zN ?_
 refine yS<|yS ?_
 obtain ⟨r1, hf1, h⟩ := oS h
 rcases oB h with ⟨hc2, h⟩ | ⟨hc2, h⟩
 ·refine yW<|ym rfl (sFc a0)<|yd rfl (b true) (TOp.eqb (yc ent63 rfl rfl (bS bN0) (i_isList_ok a0 12 r1 hf1)) hc2)<|yl rfl (b false) y1<|zN ?_
  refine yF<|RunC.skip<|yS ?_
  obtain ⟨r2, r3, r4, hf3, h⟩ := obind3_some h
  refine yW<|ym rfl (sFc a0)<|ye rfl (agg (oXc r2 r3 1 1 r4.length)) [⟨1, some zMx⟩, ⟨1, some (r4.map f32)⟩] (TOp.callBN (ls := [(r4.map f32)]) [1] (CallAs.func ent78 rfl rfl) (bS bN) rfl (i_shift_ok a0 r2 r3 r4 hf3) (and_all (lts0_map (f := f32) (fun _ => rfl) _) rfl) (and_all (noss_map (f := f32) (fun _ => rfl) _) rfl) rfl (by decide) (ns_of ⟨⟨_, rfl⟩, trivial⟩))<|ys (agg (oXc r2 r3 1 1 r4.length)) (oXc r2 r3 1 1 r4.length) [⟨1, some (oXc r2 r3 1 1 r4.length)⟩, ⟨1, some (r4.map f32)⟩] siz33<|ya rfl (b true)<|zN ?_
  refine RunC.ret ?_
  have hq := oI h
  obtain ⟨hq0, hq⟩ := Prod.mk.inj hq
  obtain ⟨hq1, hq⟩ := Prod.mk.inj hq
  obtain ⟨hq2, hq⟩ := Prod.mk.inj hq
  subst q0
  subst q1
  subst q2
  subst q3
  exact yB (tup [agg (oXc r2 r3 1 1 r4.length), b true]) [(1, 1)] (Res.two rfl (RV.cell agg33 siz33 rfl rfl rfl rfl) (RV.tmp rfl)) (SelL.arr0 (f := f32) (fun _ => rfl) rfl trivial)
 ·refine yW<|ym rfl (sFc a0)<|yd rfl (b false) (TOp.eqb (yc ent63 rfl rfl (bS bN0) (i_isList_ok a0 12 r1 hf1)) hc2)<|yl rfl (b true) y0<|zN ?_
  refine yT<|zQ<|yl rfl (agg zMx) (LOp.build (qs := []) zer33 zok33 und33 plc33 rfl trivial rfl)<|ys (agg zMx) zMx [⟨1, some zMx⟩, ⟨0, none⟩] siz33<|ya rfl (b false)<|zN ?_
  refine RunC.nil_cell (l' := [i64 0, i64 0, oref 1 1 0 0]) (Γ' := [⟨1, some [i64 0, i64 0, oref 1 1 0 0]⟩, ⟨1, some (([] : List F).map f32)⟩]) 0 2 1 rfl rfl rfl rfl rfl<|RunC.ret ?_
  have hq := oI h
  obtain ⟨hq0, hq⟩ := Prod.mk.inj hq
  obtain ⟨hq1, hq⟩ := Prod.mk.inj hq
  obtain ⟨hq2, hq⟩ := Prod.mk.inj hq
  subst q0
  subst q1
  subst q2
  subst q3
  exact yB (tup [agg [i64 0, i64 0, oref 1 1 0 (([] : List F).length)], b false]) [(1, 1)] (Res.eq (Res.two rfl (RV.cell agg33 siz33 rfl rfl rfl rfl) (RV.tmp rfl)) (by first | rfl | (rw [(show ([] : List F).length = 0 from rfl)] <;> rfl))) (SelL.arr0 (f := f32) (fun _ => rfl) rfl trivial)
def i_ReflectionsOf_b1 (a0 : List F) (L5 : List F) (L6 : List F) (y7 : F) (v8 : Int) : Option (LR ((List F) × (List F) × F × Int) ((List F) × (List F) × F) (F × Bool × (List F) × (List F))) :=
 bsel (decide (v8 < (a0.length : Int))) (
  obind4 (i_reflections_next_0p0_C00o1_1o2 a0 v8 y7 L5 L6) fun (r9 : Bool) (r10 : F) (r11 : List F) (r12 : List F) =>
  bsel (!r9) (
   some (LR.ret (some 0, false, ([] : List F), ([] : List F)))) (
   olet (IntKind.i64.wrap (v8 + 1)) fun (x13 : Int) =>
   some (LR.next (r11, r12, r10, x13)))) (
  some (LR.out (L5, L6, y7)))
def i_ReflectionsOf_s1 (a0 : List F) : ((List F) × (List F) × F × Int) → Option (LR ((List F) × (List F) × F × Int) ((List F) × (List F) × F) (F × Bool × (List F) × (List F))) := fun s => i_ReflectionsOf_b1 a0 s.1 s.2.1 s.2.2.1 s.2.2.2
def i_ReflectionsOf_k1 (L16 : List F) (L17 : List F) (y18 : F) : Option (F × Bool × (List F) × (List F)) :=
 obind (i_areFinite L16) fun (r19 : Bool) =>
 bsel r19 (
  obind (i_areFinite L17) fun (r20 : Bool) =>
  bsel r20 (
   obind (i_IsFinite y18) fun (r21 : Bool) =>
   bsel r21 (
    some (y18, true, L16, L17)) (
    some (some 0, false, ([] : List F), ([] : List F)))) (
   some (some 0, false, ([] : List F), ([] : List F)))) (
  some (some 0, false, ([] : List F), ([] : List F)))
def i_ReflectionsOf (a0 : List F) : Option (F × Bool × (List F) × (List F)) :=
 obind (i_isShiftList a0) fun (r1 : Bool) =>
 bsel r1 (
  obind (at? a0 0) fun (e2 : F) =>
  obind (loopM (i_ReflectionsOf_s1 a0) (([] : List F), ([] : List F), e2, 1)) fun z => osum z (fun e => i_ReflectionsOf_k1 e.1 e.2.1 e.2.2) (fun r => some r)) (
  some (some 0, false, ([] : List F), ([] : List F)))
theorem i_ReflectionsOf_ok (a0 : List F) (q0 : F) (q1 : Bool) (q2 : List F) (q3 : List F) (h : i_ReflectionsOf a0 = some (q0, q1, q2, q3)) : Ev Try.prog 22 [(sFc a0)] [] (tup [oref 0 0 0 q2.length, oref 1 0 0 q3.length, f32 q0, b q1]) [⟨0, some (q2.map f32)⟩, ⟨0, some (q3.map f32)⟩] := by
 refine yE Try.func22 5 123 0 [(0, (sFc a0))] [⟨0, none⟩, ⟨0, none⟩, ⟨0, none⟩, ⟨0, none⟩, ⟨0, none⟩] rfl ?_
 unfold i_ReflectionsOf at h
 refine zQ<|ya rfl nilsl<|ya rfl nilsl<|yl rfl (f32 (some 0)) (LOp.le (LOp.assign rfl rfl) (ALe.fl (by kernel_rfl) (by kernel_rfl)))<|ya rfl (b false)<|zN ?_
 refine yS<|yS ?_
 obtain ⟨r1, hf1, h⟩ := oS h
 rcases oB h with ⟨hc2, h⟩ | ⟨hc2, h⟩
 ·refine yW<|ym rfl (sFc a0)<|yd rfl (b true) (TOp.eqb (yc ent73 rfl rfl (bS bN) (i_isShiftList_ok a0 r1 hf1)) hc2)<|yl rfl (b false) y1<|zN ?_
  refine yF<|RunC.skip<|yS ?_
  obtain ⟨e2, he3, h⟩ := oS h
  refine yW<|ym rfl (sFc a0)<|yl rfl (ptr [f32 e2]) (LOp.le (LOp.ix (f := f32) und26 siz28 rfl rfl rfl rfl he3) ALe.ptr)<|yl rfl (f32 e2) (y2 agg28)<|yl rfl (agg [nilsl, nilsl, f32 e2]) (LOp.build (qs := [(2, [f32 e2])]) zer93 zok93 und93 plc93 rfl ⟨rfl, ⟨_, ALe.refl _, rfl⟩, trivial⟩ rfl)<|ye rfl (optr 0 1 0) ([⟨1, some [nilsl, nilsl, f32 e2]⟩, ⟨0, none⟩, ⟨0, none⟩, ⟨0, none⟩, ⟨0, none⟩]) (TOp.box_o (g := ⟨0, none⟩) 0 rfl rfl rfl rfl)<|ya rfl (optr 0 1 0)<|zN ?_
  refine yS<|zQ<|ya rfl (i64 1)<|zN ?_
  refine RunC.nil_cell (l' := [oref 1 1 0 0, nilsl, f32 e2]) (Γ' := [⟨1, some [oref 1 1 0 0, nilsl, f32 e2]⟩, ⟨1, some (([] : List F).map f32)⟩, ⟨0, none⟩, ⟨0, none⟩, ⟨0, none⟩]) 0 0 1 rfl rfl rfl rfl rfl<|RunC.nil_cell (l' := [oref 1 1 0 0, oref 2 1 0 0, f32 e2]) (Γ' := [⟨1, some [oref 1 1 0 0, oref 2 1 0 0, f32 e2]⟩, ⟨1, some (([] : List F).map f32)⟩, ⟨1, some (([] : List F).map f32)⟩, ⟨0, none⟩, ⟨0, none⟩]) 0 1 2 rfl rfl rfl rfl rfl ?_
  obtain ⟨z2, hz_2, h⟩ := oS h
  refine RunC.cutN (fun τ Γ => ∃ (L16 : List F) (L17 : List F) (y18 : F) (u14 : Nat) (u15 : Nat), WeakLe τ [(6, optr 0 1 0)] ∧ DeadLe Γ [⟨1, some [oref 1 u14 0 L16.length, oref 2 u15 0 L17.length, f32 y18]⟩, ⟨u14, some (L16.map f32)⟩, ⟨u15, some (L17.map f32)⟩, ⟨0, none⟩, ⟨0, none⟩] ∧ z2 = .inl (L16, L17, y18)) ?_ ?_
  ·refine RunC.block (RunC.loop (RunL.loopM (x := z2) (i_ReflectionsOf_s1 a0) (fun (s : (List F) × (List F) × F × Int) τ Γ => ∃ (u3 : Nat) (u4 : Nat), WeakLe τ [(0, (sFc a0)), (6, optr 0 1 0), (7, i64 s.2.2.2)] ∧ DeadLe Γ [⟨1, some [oref 1 u3 0 s.1.length, oref 2 u4 0 s.2.1.length, f32 s.2.2.1]⟩, ⟨u3, some (s.1.map f32)⟩, ⟨u4, some (s.2.1.map f32)⟩, ⟨0, none⟩, ⟨0, none⟩]) ?_ _ _ _ hz_2 ⟨1, 1, ⟨aR, aR, aR, trivial⟩, ⟨⟨rfl, .inr (by first | rfl | simp)⟩, ⟨rfl, .inr rfl⟩, ⟨rfl, .inr rfl⟩, ⟨rfl, .inr rfl⟩, ⟨rfl, .inr rfl⟩, trivial⟩⟩))
   rintro ⟨L5, L6, y7, v8⟩ τ2 Γ2 y2_ ⟨u3, u4, hw2, hd2⟩ h2_ ho2 hr2
   refine RunC.wl (τ' := [(0, (sFc a0)), (6, optr 0 1 0), (7, i64 v8)]) (Γ' := [⟨1, some [oref 1 u3 0 L5.length, oref 2 u4 0 L6.length, f32 y7]⟩, ⟨u3, some (L5.map f32)⟩, ⟨u4, some (L6.map f32)⟩, ⟨0, none⟩, ⟨0, none⟩]) hw2 hd2 ?_
   replace h2_ : i_ReflectionsOf_b1 a0 L5 L6 y7 v8 = some y2_ := h2_
   unfold i_ReflectionsOf_b1 at h2_
   refine yS<|yS ?_
   rcases oB h2_ with ⟨hc4, h2_⟩ | ⟨hc4, h2_⟩
   ·refine yW<|ym rfl (i64 v8)<|ym rfl (sFc a0)<|yl rfl (i64 (a0.length : Int)) (LOp.len_sl und26 rfl rfl)<|yl rfl (b true) (LOp.eqb (LOp.lss rfl rfl rfl) hc4)<|zN ?_
    refine yT<|RunC.skip<|yS<|RunC.block<|yS ?_
    obtain ⟨r9, r10, r11, r12, hf5, h2_⟩ := obind4_some h2_
    rcases oB h2_ with ⟨hc6, h2_⟩ | ⟨hc6, h2_⟩
    ·refine yW<|ym rfl (optr 0 1 0)<|ym rfl (sFc a0)<|ym rfl (i64 v8)<|ROps.callO (A := [optr 0 1 0, (sFc a0), i64 v8]) (args := [optr 0 0 0, (sFc a0), i64 v8]) (Γc := [⟨0, some [oref 1 0 0 L5.length, oref 2 0 0 L6.length, f32 y7]⟩, ⟨0, some (L5.map f32)⟩, ⟨0, some (L6.map f32)⟩]) (Γc' := [⟨0, some [oref 1 1 0 r11.length, oref 2 1 0 r12.length, f32 r10]⟩, ⟨1, some (r11.map f32)⟩, ⟨1, some (r12.map f32)⟩]) (r' := b r9) (Γ' := [⟨1, some [oref 1 (u3 + 1) 0 r11.length, oref 2 (u4 + 1) 0 r12.length, f32 r10]⟩, ⟨(u3 + 1), some (r11.map f32)⟩, ⟨(u4 + 1), some (r12.map f32)⟩, ⟨0, none⟩, ⟨0, none⟩]) [(0, 1), (1, u3), (2, u4)] [] rfl (CallAs.func ent75 rfl rfl) rfl rfl (SelOk.of (show List.Nodup [0, 1, 2] from by decide) (SelL.cells0 rfl (by simp [ren, rens, sigma, rens_f32, rens_f64, rens_i64, rens_ik, rens_str, rens_cp]) rfl (SelL.arr0 (f := f32) (fun _ => rfl) rfl (SelL.arr0 (f := f32) (fun _ => rfl) rfl trivial)))) (live_of ⟨⟨_, _, rfl⟩, ⟨_, _, rfl⟩, ⟨_, _, rfl⟩, trivial⟩) (by simp [ren, rens, sigma, rens_f32, rens_f64, rens_i64, rens_ik, rens_str, rens_cp]) (lts_cons rfl (lts_cons (lt_slk (fun _ => rfl)) (lts_cons rfl lts_nil))) (i_reflections_next_0p0_C00o1_1o2_ok a0 v8 y7 L5 L6 r9 r10 r11 r12 hf5) rfl (news_of trivial) (show List.Nodup [0, 1, 2] from by decide) (by simp [ren, rens, sigma]) (by simp [backOb, sigma, ren, rens, rens_f32, rens_f64, rens_i64, rens_ik, rens_str, rens_cp] <;> omega)<|yl rfl (b true) (LOp.eqb (LOp.not rfl rfl) hc6)<|zN ?_
     refine yT<|zQ<|ya rfl nilsl<|ya rfl nilsl<|yl rfl (f32 (some 0)) (LOp.le (LOp.assign rfl rfl) (ALe.fl (by kernel_rfl) (by kernel_rfl)))<|ya rfl (b false)<|zN ?_
     refine RunC.nil_slot (Γ' := [⟨1, some [oref 1 (u3 + 1) 0 r11.length, oref 2 (u4 + 1) 0 r12.length, f32 r10]⟩, ⟨(u3 + 1), some (r11.map f32)⟩, ⟨(u4 + 1), some (r12.map f32)⟩, ⟨1, some (([] : List F).map f32)⟩, ⟨0, none⟩]) 2 3 rfl rfl rfl<|RunC.nil_slot (Γ' := [⟨1, some [oref 1 (u3 + 1) 0 r11.length, oref 2 (u4 + 1) 0 r12.length, f32 r10]⟩, ⟨(u3 + 1), some (r11.map f32)⟩, ⟨(u4 + 1), some (r12.map f32)⟩, ⟨1, some (([] : List F).map f32)⟩, ⟨1, some (([] : List F).map f32)⟩]) 3 4 rfl rfl rfl<|RunC.ret ?_
     cases oI h2_
     have hx3_ := hr2 _ rfl
     subst hx3_
     have hq := oI h
     obtain ⟨hq0, hq⟩ := Prod.mk.inj hq
     obtain ⟨hq1, hq⟩ := Prod.mk.inj hq
     obtain ⟨hq2, hq⟩ := Prod.mk.inj hq
     subst q0
     subst q1
     subst q2
     subst q3
     exact yB (tup [oref 3 1 0 (([] : List F).length), oref 4 1 0 (([] : List F).length), f32 (some 0), b false]) [(3, 1), (4, 1)] (Res.eq (Res.four rfl (RV.tmp rfl) (RV.tmp rfl) (RV.tmp rfl) (RV.tmp rfl)) (by first | rfl | (rw [(show ([] : List F).length = 0 from rfl)] <;> rfl))) (SelL.arr0 (f := f32) (fun _ => rfl) rfl (SelL.arr0 (f := f32) (fun _ => rfl) rfl trivial))
    ·refine yW<|ym rfl (optr 0 1 0)<|ym rfl (sFc a0)<|ym rfl (i64 v8)<|ROps.callO (A := [optr 0 1 0, (sFc a0), i64 v8]) (args := [optr 0 0 0, (sFc a0), i64 v8]) (Γc := [⟨0, some [oref 1 0 0 L5.length, oref 2 0 0 L6.length, f32 y7]⟩, ⟨0, some (L5.map f32)⟩, ⟨0, some (L6.map f32)⟩]) (Γc' := [⟨0, some [oref 1 1 0 r11.length, oref 2 1 0 r12.length, f32 r10]⟩, ⟨1, some (r11.map f32)⟩, ⟨1, some (r12.map f32)⟩]) (r' := b r9) (Γ' := [⟨1, some [oref 1 (u3 + 1) 0 r11.length, oref 2 (u4 + 1) 0 r12.length, f32 r10]⟩, ⟨(u3 + 1), some (r11.map f32)⟩, ⟨(u4 + 1), some (r12.map f32)⟩, ⟨0, none⟩, ⟨0, none⟩]) [(0, 1), (1, u3), (2, u4)] [] rfl (CallAs.func ent75 rfl rfl) rfl rfl (SelOk.of (show List.Nodup [0, 1, 2] from by decide) (SelL.cells0 rfl (by simp [ren, rens, sigma, rens_f32, rens_f64, rens_i64, rens_ik, rens_str, rens_cp]) rfl (SelL.arr0 (f := f32) (fun _ => rfl) rfl (SelL.arr0 (f := f32) (fun _ => rfl) rfl trivial)))) (live_of ⟨⟨_, _, rfl⟩, ⟨_, _, rfl⟩, ⟨_, _, rfl⟩, trivial⟩) (by simp [ren, rens, sigma, rens_f32, rens_f64, rens_i64, rens_ik, rens_str, rens_cp]) (lts_cons rfl (lts_cons (lt_slk (fun _ => rfl)) (lts_cons rfl lts_nil))) (i_reflections_next_0p0_C00o1_1o2_ok a0 v8 y7 L5 L6 r9 r10 r11 r12 hf5) rfl (news_of trivial) (show List.Nodup [0, 1, 2] from by decide) (by simp [ren, rens, sigma]) (by simp [backOb, sigma, ren, rens, rens_f32, rens_f64, rens_i64, rens_ik, rens_str, rens_cp] <;> omega)<|yl rfl (b false) (LOp.eqb (LOp.not rfl rfl) hc6)<|zN ?_
     refine yF<|RunC.skip ?_
     obtain ⟨x13, hx7, h2_⟩ := oL h2_
     refine yW<|ym rfl (i64 v8)<|yl rfl (i64 x13) (LOp.eqr (LOp.add rfl rfl rfl) (congrArg (ik .i64) hx7))<|ya rfl (i64 x13)<|zN ?_
     cases oI h2_
     exact ⟨_, rfl, (u3 + 1), (u4 + 1), ⟨aR, aR, aR, trivial⟩, ⟨⟨rfl, .inr (by first | rfl | simp)⟩, ⟨rfl, .inr rfl⟩, ⟨rfl, .inr rfl⟩, ⟨rfl, .inr rfl⟩, ⟨rfl, .inr rfl⟩, trivial⟩⟩
   ·refine yW<|ym rfl (i64 v8)<|ym rfl (sFc a0)<|yl rfl (i64 (a0.length : Int)) (LOp.len_sl und26 rfl rfl)<|yl rfl (b false) (LOp.eqb (LOp.lss rfl rfl rfl) hc4)<|zN ?_
    refine yF<|RunC.exit ?_
    cases oI h2_
    have hx := ho2 _ rfl
    exact ⟨L5, L6, y7, u3, u4, ⟨aR, trivial⟩, ⟨⟨rfl, .inr (by first | rfl | simp)⟩, ⟨rfl, .inr rfl⟩, ⟨rfl, .inr rfl⟩, ⟨rfl, .inr rfl⟩, ⟨rfl, .inr rfl⟩, trivial⟩, hx⟩
  ·rintro τ4 Γ4 ⟨L16, L17, y18, u14, u15, hw4, hd4, rfl⟩
   refine RunC.wl hw4 hd4 ?_
   replace h : i_ReflectionsOf_k1 L16 L17 y18 = some (q0, q1, q2, q3) := h
   unfold i_ReflectionsOf_k1 at h
   refine yS<|yS ?_
   obtain ⟨r19, hf8, h⟩ := oS h
   rcases oB h with ⟨hc9, h⟩ | ⟨hc9, h⟩
   ·obtain ⟨r20, hf10, h⟩ := oS h
    rcases oB h with ⟨hc11, h⟩ | ⟨hc11, h⟩
    ·obtain ⟨r21, hf12, h⟩ := oS h
     rcases oB h with ⟨hc13, h⟩ | ⟨hc13, h⟩
     ·refine yW<|ym rfl (optr 0 1 0)<|yl rfl (optr 0 1 0) (LOp.nilCheck_optr rfl rfl)<|yl rfl (optr 0 1 0) (LOp.fao und93 rfl siz26 rfl rfl rfl)<|yd rfl (oref 1 u14 0 L16.length) (TOp.load1_o rfl rfl agg26 rfl rfl)<|yd rfl (b true) (TOp.eqb (yc ent74 rfl rfl (Bors.cons (Bor.own (f := f32) (fun _ => rfl) rfl rfl) bN) (i_areFinite_ok L16 r19 hf8)) hc9)<|yl rfl (b false) y1<|ym rfl (b false)<|ym rfl (optr 0 1 0)<|yl rfl (optr 0 1 0) (LOp.nilCheck_optr rfl rfl)<|yl rfl (optr 0 1 1) (LOp.fao und93 rfl siz26 rfl rfl rfl)<|yd rfl (oref 2 u15 0 L17.length) (TOp.load1_o rfl rfl agg26 rfl rfl)<|yd rfl (b true) (TOp.eqb (yc ent74 rfl rfl (Bors.cons (Bor.own (f := f32) (fun _ => rfl) rfl rfl) bN) (i_areFinite_ok L17 r20 hf10)) hc11)<|yl rfl (b false) y1<|yl rfl (b false) yp<|ym rfl (b false)<|ym rfl (optr 0 1 0)<|yl rfl (optr 0 1 0) (LOp.nilCheck_optr rfl rfl)<|yl rfl (optr 0 1 2) (LOp.fao und93 rfl siz28 rfl rfl rfl)<|yd rfl (f32 y18) (TOp.load1_o rfl rfl agg28 rfl rfl)<|yd rfl (b true) (TOp.eqb (yc ent80 rfl rfl bN0 (i_IsFinite_ok y18 r21 hf12)) hc13)<|yl rfl (b false) y1<|yl rfl (b false) yp<|zN ?_
      refine RunC.wl (τ' := [(6, optr 0 1 0), (48, b false)]) (Γ' := [⟨1, some [oref 1 u14 0 L16.length, oref 2 u15 0 L17.length, f32 y18]⟩, ⟨u14, some (L16.map f32)⟩, ⟨u15, some (L17.map f32)⟩, ⟨0, none⟩, ⟨0, none⟩]) ⟨aR, aR, trivial⟩ ⟨⟨rfl, .inr rfl⟩, ⟨rfl, .inr rfl⟩, ⟨rfl, .inr rfl⟩, ⟨rfl, .inr rfl⟩, ⟨rfl, .inr rfl⟩, trivial⟩<|yF<|RunC.skip<|yS ?_
      refine RunC.region_draw (Γ' := [⟨1, some [oref 1 u14 0 L16.length, oref 2 u15 0 L17.length, f32 y18]⟩, ⟨u14, some (L16.map f32)⟩, ⟨u15, some (L17.map f32)⟩, ⟨0, none⟩, ⟨0, none⟩]) 16 mixed 
       (tm rfl (optr 0 1 0) <|
       (tl rfl (optr 0 1 0) (LOp.nilCheck_optr rfl rfl) <|
       (tl rfl (optr 0 1 0) (LOp.fao und93 rfl siz26 rfl rfl rfl) <|
       (TR.d (r := oref 1 u14 0 L16.length) (fs := []) rfl rfl (TOp.load1_o rfl rfl agg26 rfl rfl) <|
       (tm rfl (optr 0 1 0) <|
       (tl rfl (optr 0 1 0) (LOp.nilCheck_optr rfl rfl) <|
       (tl rfl (optr 0 1 1) (LOp.fao und93 rfl siz26 rfl rfl rfl) <|
       (TR.d (r := oref 2 u15 0 L17.length) (fs := []) rfl rfl (TOp.load1_o rfl rfl agg26 rfl rfl) <|
       (tm rfl (optr 0 1 0) <|
       (tl rfl (optr 0 1 0) (LOp.nilCheck_optr rfl rfl) <|
       (tl rfl (optr 0 1 2) (LOp.fao und93 rfl siz28 rfl rfl rfl) <|
       (TR.d (r := f32 y18) (fs := []) rfl rfl (TOp.load1_o rfl rfl agg28 rfl rfl) <|
       (tl rfl (oref 1 u14 0 L16.length) (LOp.assign rfl rfl) <|
       (tl rfl (oref 2 u15 0 L17.length) (LOp.assign rfl rfl) <|
       (tl rfl (f32 y18) (LOp.assign rfl rfl) <|
       (tl rfl (b true) (LOp.assign rfl rfl) <|
       TR.nil)))))))))))))))) rfl (by kernel_rfl) rfl fills_nil rfl ?_
      iterate 16 refine ROps.dropS ?_
      refine ROps.drop0<|zN ?_
      refine RunC.ret ?_
      have hq := oI h
      obtain ⟨hq0, hq⟩ := Prod.mk.inj hq
      obtain ⟨hq1, hq⟩ := Prod.mk.inj hq
      obtain ⟨hq2, hq⟩ := Prod.mk.inj hq
      subst q0
      subst q1
      subst q2
      subst q3
      exact bodyQ.mk (r' := tup [oref 1 u14 0 L16.length, oref 2 u15 0 L17.length, f32 y18, b true]) [(1, u14), (2, u15)] (.inr rfl) rfl (show List.Nodup [1, 2] from by decide) (by simp [ren, rens, sigma]) rfl (Res.four rfl (RV.tmp rfl) (RV.tmp rfl) (RV.tmp rfl) (RV.tmp rfl)) (SelL.arr0 (f := f32) (fun _ => rfl) rfl (SelL.arr0 (f := f32) (fun _ => rfl) rfl trivial))
     ·refine yW<|ym rfl (optr 0 1 0)<|yl rfl (optr 0 1 0) (LOp.nilCheck_optr rfl rfl)<|yl rfl (optr 0 1 0) (LOp.fao und93 rfl siz26 rfl rfl rfl)<|yd rfl (oref 1 u14 0 L16.length) (TOp.load1_o rfl rfl agg26 rfl rfl)<|yd rfl (b true) (TOp.eqb (yc ent74 rfl rfl (Bors.cons (Bor.own (f := f32) (fun _ => rfl) rfl rfl) bN) (i_areFinite_ok L16 r19 hf8)) hc9)<|yl rfl (b false) y1<|ym rfl (b false)<|ym rfl (optr 0 1 0)<|yl rfl (optr 0 1 0) (LOp.nilCheck_optr rfl rfl)<|yl rfl (optr 0 1 1) (LOp.fao und93 rfl siz26 rfl rfl rfl)<|yd rfl (oref 2 u15 0 L17.length) (TOp.load1_o rfl rfl agg26 rfl rfl)<|yd rfl (b true) (TOp.eqb (yc ent74 rfl rfl (Bors.cons (Bor.own (f := f32) (fun _ => rfl) rfl rfl) bN) (i_areFinite_ok L17 r20 hf10)) hc11)<|yl rfl (b false) y1<|yl rfl (b false) yp<|ym rfl (b false)<|ym rfl (optr 0 1 0)<|yl rfl (optr 0 1 0) (LOp.nilCheck_optr rfl rfl)<|yl rfl (optr 0 1 2) (LOp.fao und93 rfl siz28 rfl rfl rfl)<|yd rfl (f32 y18) (TOp.load1_o rfl rfl agg28 rfl rfl)<|yd rfl (b false) (TOp.eqb (yc ent80 rfl rfl bN0 (i_IsFinite_ok y18 r21 hf12)) hc13)<|yl rfl (b true) y0<|yl rfl (b true) yp<|zN ?_
      refine RunC.wl (τ' := [(6, optr 0 1 0), (48, b true)]) (Γ' := [⟨1, some [oref 1 u14 0 L16.length, oref 2 u15 0 L17.length, f32 y18]⟩, ⟨u14, some (L16.map f32)⟩, ⟨u15, some (L17.map f32)⟩, ⟨0, none⟩, ⟨0, none⟩]) ⟨aR, aR, trivial⟩ ⟨⟨rfl, .inr rfl⟩, ⟨rfl, .inr rfl⟩, ⟨rfl, .inr rfl⟩, ⟨rfl, .inr rfl⟩, ⟨rfl, .inr rfl⟩, trivial⟩<|yT<|zQ<|ya rfl nilsl<|ya rfl nilsl<|yl rfl (f32 (some 0)) (LOp.le (LOp.assign rfl rfl) (ALe.fl (by kernel_rfl) (by kernel_rfl)))<|ya rfl (b false)<|zN ?_
      refine RunC.nil_slot (Γ' := [⟨1, some [oref 1 u14 0 L16.length, oref 2 u15 0 L17.length, f32 y18]⟩, ⟨u14, some (L16.map f32)⟩, ⟨u15, some (L17.map f32)⟩, ⟨1, some (([] : List F).map f32)⟩, ⟨0, none⟩]) 2 3 rfl rfl rfl<|RunC.nil_slot (Γ' := [⟨1, some [oref 1 u14 0 L16.length, oref 2 u15 0 L17.length, f32 y18]⟩, ⟨u14, some (L16.map f32)⟩, ⟨u15, some (L17.map f32)⟩, ⟨1, some (([] : List F).map f32)⟩, ⟨1, some (([] : List F).map f32)⟩]) 3 4 rfl rfl rfl<|RunC.ret ?_
      have hq := oI h
      obtain ⟨hq0, hq⟩ := Prod.mk.inj hq
      obtain ⟨hq1, hq⟩ := Prod.mk.inj hq
      obtain ⟨hq2, hq⟩ := Prod.mk.inj hq
      subst q0
      subst q1
      subst q2
      subst q3
      exact yB (tup [oref 3 1 0 (([] : List F).length), oref 4 1 0 (([] : List F).length), f32 (some 0), b false]) [(3, 1), (4, 1)] (Res.eq (Res.four rfl (RV.tmp rfl) (RV.tmp rfl) (RV.tmp rfl) (RV.tmp rfl)) (by first | rfl | (rw [(show ([] : List F).length = 0 from rfl)] <;> rfl))) (SelL.arr0 (f := f32) (fun _ => rfl) rfl (SelL.arr0 (f := f32) (fun _ => rfl) rfl trivial))
    ·refine yW<|ym rfl (optr 0 1 0)<|yl rfl (optr 0 1 0) (LOp.nilCheck_optr rfl rfl)<|yl rfl (optr 0 1 0) (LOp.fao und93 rfl siz26 rfl rfl rfl)<|yd rfl (oref 1 u14 0 L16.length) (TOp.load1_o rfl rfl agg26 rfl rfl)<|yd rfl (b true) (TOp.eqb (yc ent74 rfl rfl (Bors.cons (Bor.own (f := f32) (fun _ => rfl) rfl rfl) bN) (i_areFinite_ok L16 r19 hf8)) hc9)<|yl rfl (b false) y1<|ym rfl (b false)<|ym rfl (optr 0 1 0)<|yl rfl (optr 0 1 0) (LOp.nilCheck_optr rfl rfl)<|yl rfl (optr 0 1 1) (LOp.fao und93 rfl siz26 rfl rfl rfl)<|yd rfl (oref 2 u15 0 L17.length) (TOp.load1_o rfl rfl agg26 rfl rfl)<|yd rfl (b false) (TOp.eqb (yc ent74 rfl rfl (Bors.cons (Bor.own (f := f32) (fun _ => rfl) rfl rfl) bN) (i_areFinite_ok L17 r20 hf10)) hc11)<|yl rfl (b true) y0<|yl rfl (b true) yp<|ym rfl (b true)<|ROps.s rfl rfl rfl<|ROps.s rfl rfl rfl<|ROps.s rfl rfl rfl<|ROps.s rfl rfl rfl<|ROps.s rfl rfl rfl<|ROps.s rfl rfl rfl<|yl rfl (b true) yq<|zN ?_
     refine RunC.wl (τ' := [(6, optr 0 1 0), (48, b true)]) (Γ' := [⟨1, some [oref 1 u14 0 L16.length, oref 2 u15 0 L17.length, f32 y18]⟩, ⟨u14, some (L16.map f32)⟩, ⟨u15, some (L17.map f32)⟩, ⟨0, none⟩, ⟨0, none⟩]) ⟨aR, aR, trivial⟩ ⟨⟨rfl, .inr rfl⟩, ⟨rfl, .inr rfl⟩, ⟨rfl, .inr rfl⟩, ⟨rfl, .inr rfl⟩, ⟨rfl, .inr rfl⟩, trivial⟩<|yT<|zQ<|ya rfl nilsl<|ya rfl nilsl<|yl rfl (f32 (some 0)) (LOp.le (LOp.assign rfl rfl) (ALe.fl (by kernel_rfl) (by kernel_rfl)))<|ya rfl (b false)<|zN ?_
     refine RunC.nil_slot (Γ' := [⟨1, some [oref 1 u14 0 L16.length, oref 2 u15 0 L17.length, f32 y18]⟩, ⟨u14, some (L16.map f32)⟩, ⟨u15, some (L17.map f32)⟩, ⟨1, some (([] : List F).map f32)⟩, ⟨0, none⟩]) 2 3 rfl rfl rfl<|RunC.nil_slot (Γ' := [⟨1, some [oref 1 u14 0 L16.length, oref 2 u15 0 L17.length, f32 y18]⟩, ⟨u14, some (L16.map f32)⟩, ⟨u15, some (L17.map f32)⟩, ⟨1, some (([] : List F).map f32)⟩, ⟨1, some (([] : List F).map f32)⟩]) 3 4 rfl rfl rfl<|RunC.ret ?_
     have hq := oI h
     obtain ⟨hq0, hq⟩ := Prod.mk.inj hq
     obtain ⟨hq1, hq⟩ := Prod.mk.inj hq
     obtain ⟨hq2, hq⟩ := Prod.mk.inj hq
     subst q0
     subst q1
     subst q2
     subst q3
     exact yB (tup [oref 3 1 0 (([] : List F).length), oref 4 1 0 (([] : List F).length), f32 (some 0), b false]) [(3, 1), (4, 1)] (Res.eq (Res.four rfl (RV.tmp rfl) (RV.tmp rfl) (RV.tmp rfl) (RV.tmp rfl)) (by first | rfl | (rw [(show ([] : List F).length = 0 from rfl)] <;> rfl))) (SelL.arr0 (f := f32) (fun _ => rfl) rfl (SelL.arr0 (f := f32) (fun _ => rfl) rfl trivial))
   ·refine yW<|ym rfl (optr 0 1 0)<|yl rfl (optr 0 1 0) (LOp.nilCheck_optr rfl rfl)<|yl rfl (optr 0 1 0) (LOp.fao und93 rfl siz26 rfl rfl rfl)<|yd rfl (oref 1 u14 0 L16.length) (TOp.load1_o rfl rfl agg26 rfl rfl)<|yd rfl (b false) (TOp.eqb (yc ent74 rfl rfl (Bors.cons (Bor.own (f := f32) (fun _ => rfl) rfl rfl) bN) (i_areFinite_ok L16 r19 hf8)) hc9)<|yl rfl (b true) y0<|ym rfl (b true)<|ROps.s rfl rfl rfl<|ROps.s rfl rfl rfl<|ROps.s rfl rfl rfl<|ROps.s rfl rfl rfl<|ROps.s rfl rfl rfl<|ROps.s rfl rfl rfl<|yl rfl (b true) yq<|ym rfl (b true)<|ROps.s rfl rfl rfl<|ROps.s rfl rfl rfl<|ROps.s rfl rfl rfl<|ROps.s rfl rfl rfl<|ROps.s rfl rfl rfl<|ROps.s rfl rfl rfl<|yl rfl (b true) yq<|zN ?_
    refine RunC.wl (τ' := [(6, optr 0 1 0), (48, b true)]) (Γ' := [⟨1, some [oref 1 u14 0 L16.length, oref 2 u15 0 L17.length, f32 y18]⟩, ⟨u14, some (L16.map f32)⟩, ⟨u15, some (L17.map f32)⟩, ⟨0, none⟩, ⟨0, none⟩]) ⟨aR, aR, trivial⟩ ⟨⟨rfl, .inr rfl⟩, ⟨rfl, .inr rfl⟩, ⟨rfl, .inr rfl⟩, ⟨rfl, .inr rfl⟩, ⟨rfl, .inr rfl⟩, trivial⟩<|yT<|zQ<|ya rfl nilsl<|ya rfl nilsl<|yl rfl (f32 (some 0)) (LOp.le (LOp.assign rfl rfl) (ALe.fl (by kernel_rfl) (by kernel_rfl)))<|ya rfl (b false)<|zN ?_
    refine RunC.nil_slot (Γ' := [⟨1, some [oref 1 u14 0 L16.length, oref 2 u15 0 L17.length, f32 y18]⟩, ⟨u14, some (L16.map f32)⟩, ⟨u15, some (L17.map f32)⟩, ⟨1, some (([] : List F).map f32)⟩, ⟨0, none⟩]) 2 3 rfl rfl rfl<|RunC.nil_slot (Γ' := [⟨1, some [oref 1 u14 0 L16.length, oref 2 u15 0 L17.length, f32 y18]⟩, ⟨u14, some (L16.map f32)⟩, ⟨u15, some (L17.map f32)⟩, ⟨1, some (([] : List F).map f32)⟩, ⟨1, some (([] : List F).map f32)⟩]) 3 4 rfl rfl rfl<|RunC.ret ?_
    have hq := oI h
    obtain ⟨hq0, hq⟩ := Prod.mk.inj hq
    obtain ⟨hq1, hq⟩ := Prod.mk.inj hq
    obtain ⟨hq2, hq⟩ := Prod.mk.inj hq
    subst q0
    subst q1
    subst q2
    subst q3
    exact yB (tup [oref 3 1 0 (([] : List F).length), oref 4 1 0 (([] : List F).length), f32 (some 0), b false]) [(3, 1), (4, 1)] (Res.eq (Res.four rfl (RV.tmp rfl) (RV.tmp rfl) (RV.tmp rfl) (RV.tmp rfl)) (by first | rfl | (rw [(show ([] : List F).length = 0 from rfl)] <;> rfl))) (SelL.arr0 (f := f32) (fun _ => rfl) rfl (SelL.arr0 (f := f32) (fun _ => rfl) rfl trivial))
 ·refine yW<|ym rfl (sFc a0)<|yd rfl (b false) (TOp.eqb (yc ent73 rfl rfl (bS bN) (i_isShiftList_ok a0 r1 hf1)) hc2)<|yl rfl (b true) y0<|zN ?_
  refine yT<|zQ<|ya rfl nilsl<|ya rfl nilsl<|yl rfl (f32 (some 0)) (LOp.le (LOp.assign rfl rfl) (ALe.fl (by kernel_rfl) (by kernel_rfl)))<|ya rfl (b false)<|zN ?_
  refine RunC.nil_slot (Γ' := [⟨1, some (([] : List F).map f32)⟩, ⟨0, none⟩, ⟨0, none⟩, ⟨0, none⟩, ⟨0, none⟩]) 2 0 rfl rfl rfl<|RunC.nil_slot (Γ' := [⟨1, some (([] : List F).map f32)⟩, ⟨1, some (([] : List F).map f32)⟩, ⟨0, none⟩, ⟨0, none⟩, ⟨0, none⟩]) 3 1 rfl rfl rfl<|RunC.ret ?_
  have hq := oI h
  obtain ⟨hq0, hq⟩ := Prod.mk.inj hq
  obtain ⟨hq1, hq⟩ := Prod.mk.inj hq
  obtain ⟨hq2, hq⟩ := Prod.mk.inj hq
  subst q0
  subst q1
  subst q2
  subst q3
  exact yB (tup [oref 0 1 0 (([] : List F).length), oref 1 1 0 (([] : List F).length), f32 (some 0), b false]) [(0, 1), (1, 1)] (Res.eq (Res.four rfl (RV.tmp rfl) (RV.tmp rfl) (RV.tmp rfl) (RV.tmp rfl)) (by first | rfl | (rw [(show ([] : List F).length = 0 from rfl)] <;> rfl))) (SelL.arr0 (f := f32) (fun _ => rfl) rfl (SelL.arr0 (f := f32) (fun _ => rfl) rfl trivial))
def w_b10Gap (a0 : F) (a1 : F) : Option (F) :=
 bsel (flt .f64 a0 a1) (
  olet (fop .sub .f64 a1 a0) fun (x1 : F) =>
  some x1) (
  olet (fop .sub .f64 a0 a1) fun (x2 : F) =>
  some x2)
theorem w_b10Gap_ok (a0 : F) (a1 : F) (q0 : F) (h : w_b10Gap a0 a1 = some q0) : Ev Try.prog 53 [f64 a0, f64 a1] [] (f64 q0) [] := by
 refine yE Try.func53 0 29 0 [(0, f64 a0), (1, f64 a1)] [] rfl ?_
 unfold w_b10Gap at h
 refine zQ<|yl rfl (f64 (some 0)) (LOp.le (LOp.assign rfl rfl) (ALe.fl (by kernel_rfl) (by kernel_rfl)))<|zN ?_
 refine yS<|yS ?_
 rcases oB h with ⟨hc1, h⟩ | ⟨hc1, h⟩
 ·refine yW<|ym rfl (f64 a0)<|ym rfl (f64 a1)<|yl rfl (b true) (LOp.eqb (LOp.flt rfl (OpF.tmp rfl) (OpF.tmp rfl)) hc1)<|zN ?_
  refine yT<|yS ?_
  obtain ⟨x1, hx2, h⟩ := oL h
  refine yW<|ym rfl (f64 a1)<|ym rfl (f64 a0)<|yd rfl (f64 x1) (TOp.eqr (TOp.fop (.inr (.inl rfl)) rfl (OpF.tmp rfl) (OpF.tmp rfl)) (congrArg (f .f64) hx2))<|ya rfl (f64 x1)<|zN ?_
  refine RunC.ret ?_
  have hq := oI h
  subst q0
  exact bodyQ.pure (.inr rfl) rfl (Res.one rfl (RV.tmp rfl))
 ·refine yW<|ym rfl (f64 a0)<|ym rfl (f64 a1)<|yl rfl (b false) (LOp.eqb (LOp.flt rfl (OpF.tmp rfl) (OpF.tmp rfl)) hc1)<|zN ?_
  refine yF<|RunC.skip<|yS ?_
  obtain ⟨x2, hx3, h⟩ := oL h
  refine yW<|ym rfl (f64 a0)<|ym rfl (f64 a1)<|yd rfl (f64 x2) (TOp.eqr (TOp.fop (.inr (.inl rfl)) rfl (OpF.tmp rfl) (OpF.tmp rfl)) (congrArg (f .f64) hx3))<|ya rfl (f64 x2)<|zN ?_
  refine RunC.ret ?_
  have hq := oI h
  subst q0
  exact bodyQ.pure (.inr rfl) rfl (Res.one rfl (RV.tmp rfl))
def w_b10Far_b1 (a0 : List F) (a1 : List F) (a2 : F) (v1 : Int) : Option (LR (Int) (Unit) (Bool)) :=
 bsel (decide (v1 < (a0.length : Int))) (
  obind (at? a0 v1) fun (e2 : F) =>
  olet (fwiden e2) fun (x3 : F) =>
  obind (at? a1 v1) fun (e4 : F) =>
  olet (fwiden e4) fun (x5 : F) =>
  obind (w_b10Gap x3 x5) fun (r6 : F) =>
  bsel (fle .f64 r6 a2) (
   olet (IntKind.i64.wrap (v1 + 1)) fun (x7 : Int) =>
   some (LR.next x7)) (
   some (LR.ret true))) (
  some (LR.out ()))
def w_b10Far_s1 (a0 : List F) (a1 : List F) (a2 : F) : (Int) → Option (LR (Int) (Unit) (Bool)) := fun s => w_b10Far_b1 a0 a1 a2 s
def w_b10Far_k1  : Option (Bool) :=
 some false
def w_b10Far (a0 : List F) (a1 : List F) (a2 : F) : Option (Bool) :=
 bsel (!decide ((a0.length : Int) = (a1.length : Int))) (
  some true) (
  obind (loopM (w_b10Far_s1 a0 a1 a2) 0) fun z => osum z (fun _ => w_b10Far_k1) (fun r => some r))
theorem w_b10Far_ok (a0 : List F) (a1 : List F) (a2 : F) (q0 : Bool) (h : w_b10Far a0 a1 a2 = some q0) : Ev Try.prog 16 [(sFc a0), (sFc a1), f64 a2] [] (b q0) [] := by
 refine yE Try.func16 0 67 0 [(0, (sFc a0)), (1, (sFc a1)), (2, f64 a2)] [] rfl ?_
 unfold w_b10Far at h
 refine zQ<|ya rfl (b false)<|zN ?_
 refine yS<|yS ?_
 rcases oB h with ⟨hc1, h⟩ | ⟨hc1, h⟩
 ·refine yW<|ym rfl (sFc a0)<|yl rfl (i64 (a0.length : Int)) (LOp.len_sl und26 rfl rfl)<|ym rfl (sFc a1)<|yl rfl (i64 (a1.length : Int)) (LOp.len_sl und26 rfl rfl)<|yl rfl (b true) (LOp.eqb (LOp.neq rfl rfl rfl) hc1)<|zN ?_
  refine yT<|zQ<|ya rfl (b true)<|zN ?_
  refine RunC.ret ?_
  have hq := oI h
  subst q0
  exact bodyQ.pure (.inr rfl) rfl (Res.one rfl (RV.tmp rfl))
 ·refine yW<|ym rfl (sFc a0)<|yl rfl (i64 (a0.length : Int)) (LOp.len_sl und26 rfl rfl)<|ym rfl (sFc a1)<|yl rfl (i64 (a1.length : Int)) (LOp.len_sl und26 rfl rfl)<|yl rfl (b false) (LOp.eqb (LOp.neq rfl rfl rfl) hc1)<|zN ?_
  refine yF<|RunC.skip<|yS<|zQ<|ym rfl (sFc a0)<|yl rfl (i64 (a0.length : Int)) (LOp.len_sl und26 rfl rfl)<|ym rfl (i64 0)<|zN ?_
  obtain ⟨z2, hz_2, h⟩ := oS h
  refine RunC.cutN (fun τ Γ => WeakLe τ [] ∧ DeadLe Γ [] ∧ z2 = .inl ()) ?_ ?_
  ·refine RunC.block (RunC.loop (RunL.loopM (x := z2) (w_b10Far_s1 a0 a1 a2) (fun (s : Int) τ Γ => WeakLe τ [(0, (sFc a0)), (1, (sFc a1)), (2, f64 a2), (14, i64 (a0.length : Int)), (15, i64 s)] ∧ DeadLe Γ []) ?_ _ _ _ hz_2 ⟨⟨aR, aR, aR, aR, aR, trivial⟩, trivial⟩))
   rintro v1 τ2 Γ2 y2_ ⟨hw2, hd2⟩ h2_ ho2 hr2
   refine RunC.wl (τ' := [(0, (sFc a0)), (1, (sFc a1)), (2, f64 a2), (14, i64 (a0.length : Int)), (15, i64 v1)]) (Γ' := []) hw2 hd2 ?_
   replace h2_ : w_b10Far_b1 a0 a1 a2 v1 = some y2_ := h2_
   unfold w_b10Far_b1 at h2_
   refine yS ?_
   rcases oB h2_ with ⟨hc2, h2_⟩ | ⟨hc2, h2_⟩
   ·refine yW<|yl rfl (b true) (LOp.eqb (LOp.lss rfl rfl rfl) hc2)<|zN ?_
    refine yS<|yT<|RunC.skip<|yS<|RunC.block<|zQ<|ym rfl (i64 v1)<|ya rfl (i64 v1)<|zN ?_
    refine yS ?_
    obtain ⟨e2, he3, h2_⟩ := oS h2_
    obtain ⟨x3, hx4, h2_⟩ := oL h2_
    obtain ⟨e4, he5, h2_⟩ := oS h2_
    obtain ⟨x5, hx6, h2_⟩ := oL h2_
    obtain ⟨r6, hf7, h2_⟩ := oS h2_
    rcases oB h2_ with ⟨hc8, h2_⟩ | ⟨hc8, h2_⟩
    ·refine RunC.region_draw (Γ' := []) 14 mixed 
      (tm rfl (sFc a0) <|
      (tm rfl (i64 v1) <|
      (tl rfl (ptr [f32 e2]) (LOp.le (LOp.ix (f := f32) und26 siz28 rfl rfl rfl rfl he3) ALe.ptr) <|
      (tl rfl (f32 e2) (y2 agg28) <|
      (TR.d (r := f64 x3) (fs := []) rfl rfl (TOp.eqr (TOp.widen (src := 28) (dst := 40) ⟨_, pun28⟩ pun40 rfl (OpF.tmp rfl)) (congrArg (f .f64) hx4)) <|
      (tm rfl (sFc a1) <|
      (tm rfl (i64 v1) <|
      (tl rfl (ptr [f32 e4]) (LOp.le (LOp.ix (f := f32) und26 siz28 rfl rfl rfl rfl he5) ALe.ptr) <|
      (tl rfl (f32 e4) (y2 agg28) <|
      (TR.d (r := f64 x5) (fs := []) rfl rfl (TOp.eqr (TOp.widen (src := 28) (dst := 40) ⟨_, pun28⟩ pun40 rfl (OpF.tmp rfl)) (congrArg (f .f64) hx6)) <|
      (TR.d (r := f64 r6) (fs := []) rfl rfl (yc ent53 rfl rfl (bP bN0) (w_b10Gap_ok x3 x5 r6 hf7)) <|
      (tm rfl (f64 a2) <|
      (tl rfl (b true) (LOp.eqb (LOp.fle rfl (OpF.tmp rfl) (OpF.tmp rfl)) hc8) <|
      (tl rfl (b false) (LOp.eqb (LOp.not rfl rfl) rfl) <|
      TR.nil)))))))))))))) rfl (by kernel_rfl) rfl fills_nil rfl ?_
     iterate 14 refine ROps.dropS ?_
     refine ROps.drop0<|zN ?_
     refine RunC.wl (τ' := [(0, (sFc a0)), (1, (sFc a1)), (2, f64 a2), (14, i64 (a0.length : Int)), (15, i64 v1), (31, b false)]) (Γ' := []) ⟨aR, aR, aR, aR, aR, aR, trivial⟩ trivial<|yF<|RunC.skip ?_
     obtain ⟨x7, hx9, h2_⟩ := oL h2_
     refine yW<|yl rfl (i64 x7) (LOp.eqr (LOp.add rfl rfl rfl) (congrArg (ik .i64) hx9))<|ym rfl (i64 x7)<|zN ?_
     cases oI h2_
     exact ⟨_, rfl, ⟨aR, aR, aR, aR, aR, trivial⟩, trivial⟩
    ·refine RunC.region_draw (Γ' := []) 14 mixed 
      (tm rfl (sFc a0) <|
      (tm rfl (i64 v1) <|
      (tl rfl (ptr [f32 e2]) (LOp.le (LOp.ix (f := f32) und26 siz28 rfl rfl rfl rfl he3) ALe.ptr) <|
      (tl rfl (f32 e2) (y2 agg28) <|
      (TR.d (r := f64 x3) (fs := []) rfl rfl (TOp.eqr (TOp.widen (src := 28) (dst := 40) ⟨_, pun28⟩ pun40 rfl (OpF.tmp rfl)) (congrArg (f .f64) hx4)) <|
      (tm rfl (sFc a1) <|
      (tm rfl (i64 v1) <|
      (tl rfl (ptr [f32 e4]) (LOp.le (LOp.ix (f := f32) und26 siz28 rfl rfl rfl rfl he5) ALe.ptr) <|
      (tl rfl (f32 e4) (y2 agg28) <|
      (TR.d (r := f64 x5) (fs := []) rfl rfl (TOp.eqr (TOp.widen (src := 28) (dst := 40) ⟨_, pun28⟩ pun40 rfl (OpF.tmp rfl)) (congrArg (f .f64) hx6)) <|
      (TR.d (r := f64 r6) (fs := []) rfl rfl (yc ent53 rfl rfl (bP bN0) (w_b10Gap_ok x3 x5 r6 hf7)) <|
      (tm rfl (f64 a2) <|
      (tl rfl (b false) (LOp.eqb (LOp.fle rfl (OpF.tmp rfl) (OpF.tmp rfl)) hc8) <|
      (tl rfl (b true) (LOp.eqb (LOp.not rfl rfl) rfl) <|
      TR.nil)))))))))))))) rfl (by kernel_rfl) rfl fills_nil rfl ?_
     iterate 14 refine ROps.dropS ?_
     refine ROps.drop0<|zN ?_
     refine RunC.wl (τ' := [(0, (sFc a0)), (1, (sFc a1)), (2, f64 a2), (14, i64 (a0.length : Int)), (15, i64 v1), (31, b true)]) (Γ' := []) ⟨aR, aR, aR, aR, aR, aR, trivial⟩ trivial<|yT<|zQ<|ya rfl (b true)<|zN ?_
     refine RunC.ret ?_
     cases oI h2_
     have hx3_ := hr2 _ rfl
     subst hx3_
     have hq := oI h
     subst q0
     exact bodyQ.pure (.inr rfl) rfl (Res.one rfl (RV.tmp rfl))
   ·refine yW<|yl rfl (b false) (LOp.eqb (LOp.lss rfl rfl rfl) hc2)<|zN ?_
    refine yS<|yF<|RunC.exit ?_
    cases oI h2_
    have hx := ho2 _ rfl
    exact ⟨trivial, trivial, hx⟩
  ·rintro τ4 Γ4 ⟨hw4, hd4, rfl⟩
   refine RunC.wl hw4 hd4 ?_
   replace h : w_b10Far_k1 = some q0 := h
   unfold w_b10Far_k1 at h
   refine zQ<|ya rfl (b false)<|zN ?_
   refine RunC.ret ?_
   have hq := oI h
   subst q0
   exact bodyQ.pure (.inr rfl) rfl (Res.one rfl (RV.tmp rfl))
def s_l00In (a0 : Int) (a1 : Int) (a2 : Int) : Option (Bool) :=
 bsel (decide (a1 ≤ a0)) (
  some (decide (a0 ≤ a2))) (
  some false)
theorem s_l00In_ok (a0 : Int) (a1 : Int) (a2 : Int) (q0 : Bool) (h : s_l00In a0 a1 a2 = some q0) : Ev Try.prog 170 [i64 a0, i64 a1, i64 a2] [] (b q0) [] := by
 refine yE Try.func170 0 31 0 [(0, i64 a0), (1, i64 a1), (2, i64 a2)] [] rfl ?_
 unfold s_l00In at h
 refine zQ<|ya rfl (b false)<|zN ?_
 refine yS ?_
 rcases oB h with ⟨hc1, h⟩ | ⟨hc1, h⟩
 ·refine yW<|ym rfl (i64 a0)<|ym rfl (i64 a1)<|yl rfl (b true) (LOp.eqb (LOp.geq rfl rfl rfl) hc1)<|ym rfl (b true)<|ym rfl (i64 a0)<|ym rfl (i64 a2)<|yl rfl (b (decide (a0 ≤ a2))) (LOp.leq rfl rfl rfl)<|yl rfl (b (decide (a0 ≤ a2))) yq<|ya rfl (b (decide (a0 ≤ a2)))<|zN ?_
  refine RunC.ret ?_
  have hq := oI h
  subst q0
  exact bodyQ.pure (.inr rfl) rfl (Res.one rfl (RV.tmp rfl))
 ·refine yW<|ym rfl (i64 a0)<|ym rfl (i64 a1)<|yl rfl (b false) (LOp.eqb (LOp.geq rfl rfl rfl) hc1)<|ym rfl (b false)<|ROps.s rfl rfl rfl<|ROps.s rfl rfl rfl<|ROps.s rfl rfl rfl<|yl rfl (b false) yp<|ya rfl (b false)<|zN ?_
  refine RunC.ret ?_
  have hq := oI h
  subst q0
  exact bodyQ.pure (.inr rfl) rfl (Res.one rfl (RV.tmp rfl))
def s_l02Sides (a0 : Int) (a1 : Int) : Option (Bool) :=
 obind (s_l00In a0 1 12) fun (r1 : Bool) =>
 bsel r1 (
  obind (s_l00In a1 1 12) fun (r2 : Bool) =>
  some r2) (
  some false)
theorem s_l02Sides_ok (a0 : Int) (a1 : Int) (q0 : Bool) (h : s_l02Sides a0 a1 = some q0) : Ev Try.prog 134 [i64 a0, i64 a1] [] (b q0) [] := by
 refine yE Try.func134 0 23 0 [(0, i64 a0), (1, i64 a1)] [] rfl ?_
 unfold s_l02Sides at h
 refine zQ<|ya rfl (b false)<|zN ?_
 refine yS ?_
 obtain ⟨r1, hf1, h⟩ := oS h
 rcases oB h with ⟨hc2, h⟩ | ⟨hc2, h⟩
 ·obtain ⟨r2, hf3, h⟩ := oS h
  refine yW<|ym rfl (i64 a0)<|yd rfl (b true) (TOp.eqb (yc ent170 rfl rfl (bP (bP bN0)) (s_l00In_ok a0 1 12 r1 hf1)) hc2)<|ym rfl (b true)<|ym rfl (i64 a1)<|yd rfl (b r2) (yc ent170 rfl rfl (bP (bP bN0)) (s_l00In_ok a1 1 12 r2 hf3))<|yl rfl (b r2) yq<|ya rfl (b r2)<|zN ?_
  refine RunC.ret ?_
  have hq := oI h
  subst q0
  exact bodyQ.pure (.inr rfl) rfl (Res.one rfl (RV.tmp rfl))
 ·refine yW<|ym rfl (i64 a0)<|yd rfl (b false) (TOp.eqb (yc ent170 rfl rfl (bP (bP bN0)) (s_l00In_ok a0 1 12 r1 hf1)) hc2)<|ym rfl (b false)<|ROps.s rfl rfl rfl<|ROps.s rfl rfl rfl<|yl rfl (b false) yp<|ya rfl (b false)<|zN ?_
  refine RunC.ret ?_
  have hq := oI h
  subst q0
  exact bodyQ.pure (.inr rfl) rfl (Res.one rfl (RV.tmp rfl))
def s_l01Finite (a0 : F) : Option (Bool) :=
 olet (fop .sub .f32 a0 a0) fun (x1 : F) =>
 some (feq .f32 x1 (some 0))
theorem s_l01Finite_ok (a0 : F) (q0 : Bool) (h : s_l01Finite a0 = some q0) : Ev Try.prog 171 [f32 a0] [] (b q0) [] := by
 refine yE Try.func171 0 15 0 [(0, f32 a0)] [] rfl ?_
 unfold s_l01Finite at h
 refine zQ<|ya rfl (b false)<|zN ?_
 refine yS ?_
 obtain ⟨x1, hx1, h⟩ := oL h
 refine yW<|ym rfl (f32 a0)<|ym rfl (f32 a0)<|yd rfl (f32 x1) (TOp.eqr (TOp.fop (.inr (.inl rfl)) rfl (OpF.tmp rfl) (OpF.tmp rfl)) (congrArg (f .f32) hx1))<|yl rfl (b (feq .f32 x1 (some 0))) (LOp.feq rfl (OpF.tmp rfl) (OpF.const rfl (by kernel_rfl) (by kernel_rfl)))<|ya rfl (b (feq .f32 x1 (some 0)))<|zN ?_
 refine RunC.ret ?_
 have hq := oI h
 subst q0
 exact bodyQ.pure (.inr rfl) rfl (Res.one rfl (RV.tmp rfl))
def s_l02Finite_b1 (a0 : List F) (v1 : Int) : Option (LR (Int) (Unit) (Bool)) :=
 bsel (decide (v1 < (a0.length : Int))) (
  obind (at? a0 v1) fun (e2 : F) =>
  obind (s_l01Finite e2) fun (r3 : Bool) =>
  bsel r3 (
   olet (IntKind.i64.wrap (v1 + 1)) fun (x4 : Int) =>
   some (LR.next x4)) (
   some (LR.ret false))) (
  some (LR.out ()))
def s_l02Finite_s1 (a0 : List F) : (Int) → Option (LR (Int) (Unit) (Bool)) := fun s => s_l02Finite_b1 a0 s
def s_l02Finite_k1  : Option (Bool) :=
 some true
def s_l02Finite (a0 : List F) : Option (Bool) :=
 obind (loopM (s_l02Finite_s1 a0) 0) fun z => osum z (fun _ => s_l02Finite_k1) (fun r => some r)
theorem s_l02Finite_ok (a0 : List F) (q0 : Bool) (h : s_l02Finite a0 = some q0) : Ev Try.prog 135 [(sFc a0)] [] (b q0) [] := by
 refine yE Try.func135 0 33 0 [(0, (sFc a0))] [] rfl ?_
 unfold s_l02Finite at h
 refine zQ<|ya rfl (b false)<|zN ?_
 refine yS<|zQ<|ya rfl (i64 0)<|zN ?_
 obtain ⟨z2, hz_2, h⟩ := oS h
 refine RunC.cutN (fun τ Γ => WeakLe τ [] ∧ DeadLe Γ [] ∧ z2 = .inl ()) ?_ ?_
 ·refine RunC.block (RunC.loop (RunL.loopM (x := z2) (s_l02Finite_s1 a0) (fun (s : Int) τ Γ => WeakLe τ [(0, (sFc a0)), (3, i64 s)] ∧ DeadLe Γ []) ?_ _ _ _ hz_2 ⟨⟨aR, aR, trivial⟩, trivial⟩))
  rintro v1 τ2 Γ2 y2_ ⟨hw2, hd2⟩ h2_ ho2 hr2
  refine RunC.wl (τ' := [(0, (sFc a0)), (3, i64 v1)]) (Γ' := []) hw2 hd2 ?_
  replace h2_ : s_l02Finite_b1 a0 v1 = some y2_ := h2_
  unfold s_l02Finite_b1 at h2_
  refine yS<|yS ?_
  rcases oB h2_ with ⟨hc1, h2_⟩ | ⟨hc1, h2_⟩
  ·refine yW<|ym rfl (i64 v1)<|ym rfl (sFc a0)<|yl rfl (i64 (a0.length : Int)) (LOp.len_sl und26 rfl rfl)<|yl rfl (b true) (LOp.eqb (LOp.lss rfl rfl rfl) hc1)<|zN ?_
   refine yT<|RunC.skip<|yS<|RunC.block<|yS ?_
   obtain ⟨e2, he2, h2_⟩ := oS h2_
   obtain ⟨r3, hf3, h2_⟩ := oS h2_
   rcases oB h2_ with ⟨hc4, h2_⟩ | ⟨hc4, h2_⟩
   ·refine yW<|ym rfl (sFc a0)<|ym rfl (i64 v1)<|yl rfl (ptr [f32 e2]) (LOp.le (LOp.ix (f := f32) und26 siz28 rfl rfl rfl rfl he2) ALe.ptr)<|yl rfl (f32 e2) (y2 agg28)<|yd rfl (b true) (TOp.eqb (yc ent171 rfl rfl bN0 (s_l01Finite_ok e2 r3 hf3)) hc4)<|yl rfl (b false) y1<|zN ?_
    refine yF<|RunC.skip ?_
    obtain ⟨x4, hx5, h2_⟩ := oL h2_
    refine yW<|ym rfl (i64 v1)<|yl rfl (i64 x4) (LOp.eqr (LOp.add rfl rfl rfl) (congrArg (ik .i64) hx5))<|ya rfl (i64 x4)<|zN ?_
    cases oI h2_
    exact ⟨_, rfl, ⟨aR, aR, trivial⟩, trivial⟩
   ·refine yW<|ym rfl (sFc a0)<|ym rfl (i64 v1)<|yl rfl (ptr [f32 e2]) (LOp.le (LOp.ix (f := f32) und26 siz28 rfl rfl rfl rfl he2) ALe.ptr)<|yl rfl (f32 e2) (y2 agg28)<|yd rfl (b false) (TOp.eqb (yc ent171 rfl rfl bN0 (s_l01Finite_ok e2 r3 hf3)) hc4)<|yl rfl (b true) y0<|zN ?_
    refine yT<|zQ<|ya rfl (b false)<|zN ?_
    refine RunC.ret ?_
    cases oI h2_
    have hx3_ := hr2 _ rfl
    subst hx3_
    have hq := oI h
    subst q0
    exact bodyQ.pure (.inr rfl) rfl (Res.one rfl (RV.tmp rfl))
  ·refine yW<|ym rfl (i64 v1)<|ym rfl (sFc a0)<|yl rfl (i64 (a0.length : Int)) (LOp.len_sl und26 rfl rfl)<|yl rfl (b false) (LOp.eqb (LOp.lss rfl rfl rfl) hc1)<|zN ?_
   refine yF<|RunC.exit ?_
   cases oI h2_
   have hx := ho2 _ rfl
   exact ⟨trivial, trivial, hx⟩
 ·rintro τ4 Γ4 ⟨hw4, hd4, rfl⟩
  refine RunC.wl hw4 hd4 ?_
  replace h : s_l02Finite_k1 = some q0 := h
  unfold s_l02Finite_k1 at h
  refine zQ<|ya rfl (b true)<|zN ?_
  refine RunC.ret ?_
  have hq := oI h
  subst q0
  exact bodyQ.pure (.inr rfl) rfl (Res.one rfl (RV.tmp rfl))
def s_l02Is (a0 : Int) (a1 : Int) (a2 : List F) : Option (Bool) :=
 obind (s_l02Sides a0 a1) fun (r1 : Bool) =>
 bsel r1 (
  olet (IntKind.i64.wrap (a0 * a1)) fun (x2 : Int) =>
  bsel (decide ((a2.length : Int) = x2)) (
   obind (s_l02Finite a2) fun (r3 : Bool) =>
   some r3) (
   some false)) (
  some false)
theorem s_l02Is_ok (a0 : Int) (a1 : Int) (a2 : List F) (q0 : Bool) (h : s_l02Is a0 a1 a2 = some q0) : Ev Try.prog 66 [ptr (mXc a0 a1 a2)] [] (b q0) [] := by
 refine yE Try.func66 0 73 0 [(0, ptr (mXc a0 a1 a2))] [] rfl ?_
 unfold s_l02Is at h
 refine zQ<|ya rfl (b false)<|zN ?_
 refine yS ?_
 obtain ⟨r1, hf1, h⟩ := oS h
 rcases oB h with ⟨hc2, h⟩ | ⟨hc2, h⟩
 ·obtain ⟨x2, hx3, h⟩ := oL h
  rcases oB h with ⟨hc4, h⟩ | ⟨hc4, h⟩
  ·obtain ⟨r3, hf5, h⟩ := oS h
   refine RunC.region_draw (Γ' := []) 34 mixed 
    (tm rfl (ptr (mXc a0 a1 a2)) <|
    (tl rfl (ptr (mXc a0 a1 a2)) (LOp.nilCheck_ptr rfl rfl) <|
    (tl rfl (ptr (mXc a0 a1 a2)) (LOp.fap und33 rfl siz2 rfl rfl rfl) <|
    (tl rfl (i64 a0) (y2 agg2) <|
    (tm rfl (ptr (mXc a0 a1 a2)) <|
    (tl rfl (ptr (mXc a0 a1 a2)) (LOp.nilCheck_ptr rfl rfl) <|
    (tl rfl (ptr [i64 a1, (sFc a2)]) (LOp.fap und33 rfl siz2 rfl rfl rfl) <|
    (tl rfl (i64 a1) (y2 agg2) <|
    (TR.d (r := b true) (fs := []) rfl rfl (TOp.eqb (yc ent134 rfl rfl (bP bN0) (s_l02Sides_ok a0 a1 r1 hf1)) hc2) <|
    (tm rfl (b true) <|
    (tm rfl (ptr (mXc a0 a1 a2)) <|
    (tl rfl (ptr (mXc a0 a1 a2)) (LOp.nilCheck_ptr rfl rfl) <|
    (tl rfl (ptr [(sFc a2)]) (LOp.fap und33 rfl siz26 rfl rfl rfl) <|
    (tl rfl (sFc a2) (y2 agg26) <|
    (tl rfl (i64 (a2.length : Int)) (LOp.len_sl und26 rfl rfl) <|
    (tm rfl (ptr (mXc a0 a1 a2)) <|
    (tl rfl (ptr (mXc a0 a1 a2)) (LOp.nilCheck_ptr rfl rfl) <|
    (tl rfl (ptr (mXc a0 a1 a2)) (LOp.fap und33 rfl siz2 rfl rfl rfl) <|
    (tl rfl (i64 a0) (y2 agg2) <|
    (tm rfl (ptr (mXc a0 a1 a2)) <|
    (tl rfl (ptr (mXc a0 a1 a2)) (LOp.nilCheck_ptr rfl rfl) <|
    (tl rfl (ptr [i64 a1, (sFc a2)]) (LOp.fap und33 rfl siz2 rfl rfl rfl) <|
    (tl rfl (i64 a1) (y2 agg2) <|
    (tl rfl (i64 x2) (LOp.eqr (LOp.mul rfl rfl rfl) (congrArg (ik .i64) hx3)) <|
    (tl rfl (b true) (LOp.eqb (LOp.eql rfl rfl rfl) hc4) <|
    (tl rfl (b true) yq <|
    (tm rfl (b true) <|
    (tm rfl (ptr (mXc a0 a1 a2)) <|
    (tl rfl (ptr (mXc a0 a1 a2)) (LOp.nilCheck_ptr rfl rfl) <|
    (tl rfl (ptr [(sFc a2)]) (LOp.fap und33 rfl siz26 rfl rfl rfl) <|
    (tl rfl (sFc a2) (y2 agg26) <|
    (TR.d (r := b r3) (fs := []) rfl rfl (yc ent135 rfl rfl (bS bN) (s_l02Finite_ok a2 r3 hf5)) <|
    (tl rfl (b r3) yq <|
    (tl rfl (b r3) (LOp.assign rfl rfl) <|
    TR.nil)))))))))))))))))))))))))))))))))) rfl (by kernel_rfl) rfl fills_nil rfl ?_
   iterate 34 refine ROps.dropS ?_
   refine ROps.drop0<|zN ?_
   refine RunC.ret ?_
   have hq := oI h
   subst q0
   exact bodyQ.pure (.inr rfl) rfl (Res.one rfl (RV.tmp rfl))
  ·refine RunC.region_draw (Γ' := []) 34 mixed 
    (tm rfl (ptr (mXc a0 a1 a2)) <|
    (tl rfl (ptr (mXc a0 a1 a2)) (LOp.nilCheck_ptr rfl rfl) <|
    (tl rfl (ptr (mXc a0 a1 a2)) (LOp.fap und33 rfl siz2 rfl rfl rfl) <|
    (tl rfl (i64 a0) (y2 agg2) <|
    (tm rfl (ptr (mXc a0 a1 a2)) <|
    (tl rfl (ptr (mXc a0 a1 a2)) (LOp.nilCheck_ptr rfl rfl) <|
    (tl rfl (ptr [i64 a1, (sFc a2)]) (LOp.fap und33 rfl siz2 rfl rfl rfl) <|
    (tl rfl (i64 a1) (y2 agg2) <|
    (TR.d (r := b true) (fs := []) rfl rfl (TOp.eqb (yc ent134 rfl rfl (bP bN0) (s_l02Sides_ok a0 a1 r1 hf1)) hc2) <|
    (tm rfl (b true) <|
    (tm rfl (ptr (mXc a0 a1 a2)) <|
    (tl rfl (ptr (mXc a0 a1 a2)) (LOp.nilCheck_ptr rfl rfl) <|
    (tl rfl (ptr [(sFc a2)]) (LOp.fap und33 rfl siz26 rfl rfl rfl) <|
    (tl rfl (sFc a2) (y2 agg26) <|
    (tl rfl (i64 (a2.length : Int)) (LOp.len_sl und26 rfl rfl) <|
    (tm rfl (ptr (mXc a0 a1 a2)) <|
    (tl rfl (ptr (mXc a0 a1 a2)) (LOp.nilCheck_ptr rfl rfl) <|
    (tl rfl (ptr (mXc a0 a1 a2)) (LOp.fap und33 rfl siz2 rfl rfl rfl) <|
    (tl rfl (i64 a0) (y2 agg2) <|
    (tm rfl (ptr (mXc a0 a1 a2)) <|
    (tl rfl (ptr (mXc a0 a1 a2)) (LOp.nilCheck_ptr rfl rfl) <|
    (tl rfl (ptr [i64 a1, (sFc a2)]) (LOp.fap und33 rfl siz2 rfl rfl rfl) <|
    (tl rfl (i64 a1) (y2 agg2) <|
    (tl rfl (i64 x2) (LOp.eqr (LOp.mul rfl rfl rfl) (congrArg (ik .i64) hx3)) <|
    (tl rfl (b false) (LOp.eqb (LOp.eql rfl rfl rfl) hc4) <|
    (tl rfl (b false) yq <|
    (tm rfl (b false) <|
    (ts rfl <|
    (ts rfl <|
    (ts rfl <|
    (ts rfl <|
    (ts rfl <|
    (tl rfl (b false) yp <|
    (tl rfl (b false) (LOp.assign rfl rfl) <|
    TR.nil)))))))))))))))))))))))))))))))))) rfl (by kernel_rfl) rfl fills_nil rfl ?_
   iterate 34 refine ROps.dropS ?_
   refine ROps.drop0<|zN ?_
   refine RunC.ret ?_
   have hq := oI h
   subst q0
   exact bodyQ.pure (.inr rfl) rfl (Res.one rfl (RV.tmp rfl))
 ·refine RunC.region_draw (Γ' := []) 34 mixed 
   (tm rfl (ptr (mXc a0 a1 a2)) <|
   (tl rfl (ptr (mXc a0 a1 a2)) (LOp.nilCheck_ptr rfl rfl) <|
   (tl rfl (ptr (mXc a0 a1 a2)) (LOp.fap und33 rfl siz2 rfl rfl rfl) <|
   (tl rfl (i64 a0) (y2 agg2) <|
   (tm rfl (ptr (mXc a0 a1 a2)) <|
   (tl rfl (ptr (mXc a0 a1 a2)) (LOp.nilCheck_ptr rfl rfl) <|
   (tl rfl (ptr [i64 a1, (sFc a2)]) (LOp.fap und33 rfl siz2 rfl rfl rfl) <|
   (tl rfl (i64 a1) (y2 agg2) <|
   (TR.d (r := b false) (fs := []) rfl rfl (TOp.eqb (yc ent134 rfl rfl (bP bN0) (s_l02Sides_ok a0 a1 r1 hf1)) hc2) <|
   (tm rfl (b false) <|
   (ts rfl <|
   (ts rfl <|
   (ts rfl <|
   (ts rfl <|
   (ts rfl <|
   (ts rfl <|
   (ts rfl <|
   (ts rfl <|
   (ts rfl <|
   (ts rfl <|
   (ts rfl <|
   (ts rfl <|
   (ts rfl <|
   (ts rfl <|
   (ts rfl <|
   (tl rfl (b false) yp <|
   (tm rfl (b false) <|
   (ts rfl <|
   (ts rfl <|
   (ts rfl <|
   (ts rfl <|
   (ts rfl <|
   (tl rfl (b false) yp <|
   (tl rfl (b false) (LOp.assign rfl rfl) <|
   TR.nil)))))))))))))))))))))))))))))))))) rfl (by kernel_rfl) rfl fills_nil rfl ?_
  iterate 34 refine ROps.dropS ?_
  refine ROps.drop0<|zN ?_
  refine RunC.ret ?_
  have hq := oI h
  subst q0
  exact bodyQ.pure (.inr rfl) rfl (Res.one rfl (RV.tmp rfl))
def s_l02Vector (a0 : List F) : Option (Bool) :=
 bsel (decide (1 ≤ (a0.length : Int))) (
  bsel (decide ((a0.length : Int) ≤ 256)) (
   obind (s_l02Finite a0) fun (r1 : Bool) =>
   some r1) (
   some false)) (
  some false)
theorem s_l02Vector_ok (a0 : List F) (q0 : Bool) (h : s_l02Vector a0 = some q0) : Ev Try.prog 67 [(sFc a0)] [] (b q0) [] := by
 refine yE Try.func67 0 31 0 [(0, (sFc a0))] [] rfl ?_
 unfold s_l02Vector at h
 refine zQ<|ya rfl (b false)<|zN ?_
 refine yS ?_
 rcases oB h with ⟨hc1, h⟩ | ⟨hc1, h⟩
 ·rcases oB h with ⟨hc2, h⟩ | ⟨hc2, h⟩
  ·obtain ⟨r1, hf3, h⟩ := oS h
   refine yW<|ym rfl (sFc a0)<|yl rfl (i64 (a0.length : Int)) (LOp.len_sl und26 rfl rfl)<|yl rfl (b true) (LOp.eqb (LOp.geq rfl rfl rfl) hc1)<|ym rfl (b true)<|ym rfl (sFc a0)<|yl rfl (i64 (a0.length : Int)) (LOp.len_sl und26 rfl rfl)<|yl rfl (b true) (LOp.eqb (LOp.leq rfl rfl rfl) hc2)<|yl rfl (b true) yq<|ym rfl (b true)<|ym rfl (sFc a0)<|yd rfl (b r1) (yc ent135 rfl rfl (bS bN) (s_l02Finite_ok a0 r1 hf3))<|yl rfl (b r1) yq<|ya rfl (b r1)<|zN ?_
   refine RunC.ret ?_
   have hq := oI h
   subst q0
   exact bodyQ.pure (.inr rfl) rfl (Res.one rfl (RV.tmp rfl))
  ·refine yW<|ym rfl (sFc a0)<|yl rfl (i64 (a0.length : Int)) (LOp.len_sl und26 rfl rfl)<|yl rfl (b true) (LOp.eqb (LOp.geq rfl rfl rfl) hc1)<|ym rfl (b true)<|ym rfl (sFc a0)<|yl rfl (i64 (a0.length : Int)) (LOp.len_sl und26 rfl rfl)<|yl rfl (b false) (LOp.eqb (LOp.leq rfl rfl rfl) hc2)<|yl rfl (b false) yq<|ym rfl (b false)<|ROps.s rfl rfl rfl<|ROps.s rfl rfl rfl<|yl rfl (b false) yp<|ya rfl (b false)<|zN ?_
   refine RunC.ret ?_
   have hq := oI h
   subst q0
   exact bodyQ.pure (.inr rfl) rfl (Res.one rfl (RV.tmp rfl))
 ·refine yW<|ym rfl (sFc a0)<|yl rfl (i64 (a0.length : Int)) (LOp.len_sl und26 rfl rfl)<|yl rfl (b false) (LOp.eqb (LOp.geq rfl rfl rfl) hc1)<|ym rfl (b false)<|ROps.s rfl rfl rfl<|ROps.s rfl rfl rfl<|ROps.s rfl rfl rfl<|yl rfl (b false) yp<|ym rfl (b false)<|ROps.s rfl rfl rfl<|ROps.s rfl rfl rfl<|yl rfl (b false) yp<|ya rfl (b false)<|zN ?_
  refine RunC.ret ?_
  have hq := oI h
  subst q0
  exact bodyQ.pure (.inr rfl) rfl (Res.one rfl (RV.tmp rfl))
def s_l02Dot_b1 (a0 : List F) (a1 : List F) (y1 : F) (v2 : Int) : Option (LR (F × Int) (F) (F)) :=
 bsel (decide (v2 < (a0.length : Int))) (
  obind (at? a0 v2) fun (e3 : F) =>
  obind (at? a1 v2) fun (e4 : F) =>
  olet (fop .mul .f32 e3 e4) fun (x5 : F) =>
  olet (fop .add .f32 y1 x5) fun (x6 : F) =>
  olet (IntKind.i64.wrap (v2 + 1)) fun (x7 : Int) =>
  some (LR.next (x6, x7))) (
  some (LR.out y1))
def s_l02Dot_s1 (a0 : List F) (a1 : List F) : (F × Int) → Option (LR (F × Int) (F) (F)) := fun s => s_l02Dot_b1 a0 a1 s.1 s.2
def s_l02Dot_k1 (y8 : F) : Option (F) :=
 some y8
def s_l02Dot (a0 : List F) (a1 : List F) : Option (F) :=
 obind (loopM (s_l02Dot_s1 a0 a1) (some 0, 0)) fun z => osum z (fun e => s_l02Dot_k1 e) (fun r => some r)
theorem s_l02Dot_ok (a0 : List F) (a1 : List F) (q0 : F) (h : s_l02Dot a0 a1 = some q0) : Ev Try.prog 136 [(sFc a0), (sFc a1)] [] (f32 q0) [] := by
 refine yE Try.func136 0 51 0 [(0, (sFc a0)), (1, (sFc a1))] [] rfl ?_
 unfold s_l02Dot at h
 refine zQ<|yl rfl (f32 (some 0)) (LOp.le (LOp.assign rfl rfl) (ALe.fl (by kernel_rfl) (by kernel_rfl)))<|zN ?_
 refine zQ<|yl rfl (f32 (some 0)) (LOp.le (LOp.assign rfl rfl) (ALe.fl (by kernel_rfl) (by kernel_rfl)))<|zN ?_
 refine yS<|zQ<|ya rfl (i64 0)<|zN ?_
 obtain ⟨z2, hz_2, h⟩ := oS h
 refine RunC.cutN (fun τ Γ => ∃ (y8 : F), WeakLe τ [(5, f32 y8)] ∧ DeadLe Γ [] ∧ z2 = .inl y8) ?_ ?_
 ·refine RunC.block (RunC.loop (RunL.loopM (x := z2) (s_l02Dot_s1 a0 a1) (fun (s : F × Int) τ Γ => WeakLe τ [(0, (sFc a0)), (1, (sFc a1)), (5, f32 s.1), (6, i64 s.2)] ∧ DeadLe Γ []) ?_ _ _ _ hz_2 ⟨⟨aR, aR, aR, aR, trivial⟩, trivial⟩))
  rintro ⟨y1, v2⟩ τ2 Γ2 y2_ ⟨hw2, hd2⟩ h2_ ho2 hr2
  refine RunC.wl (τ' := [(0, (sFc a0)), (1, (sFc a1)), (5, f32 y1), (6, i64 v2)]) (Γ' := []) hw2 hd2 ?_
  replace h2_ : s_l02Dot_b1 a0 a1 y1 v2 = some y2_ := h2_
  unfold s_l02Dot_b1 at h2_
  refine yS<|yS ?_
  rcases oB h2_ with ⟨hc1, h2_⟩ | ⟨hc1, h2_⟩
  ·refine yW<|ym rfl (i64 v2)<|ym rfl (sFc a0)<|yl rfl (i64 (a0.length : Int)) (LOp.len_sl und26 rfl rfl)<|yl rfl (b true) (LOp.eqb (LOp.lss rfl rfl rfl) hc1)<|zN ?_
   refine yT<|RunC.skip<|yS<|RunC.block ?_
   obtain ⟨e3, he2, h2_⟩ := oS h2_
   obtain ⟨e4, he3, h2_⟩ := oS h2_
   obtain ⟨x5, hx4, h2_⟩ := oL h2_
   obtain ⟨x6, hx5, h2_⟩ := oL h2_
   refine RunC.region_draw (Γ' := []) 12 mixed 
    (tm rfl (f32 y1) <|
    (tm rfl (sFc a0) <|
    (tm rfl (i64 v2) <|
    (tl rfl (ptr [f32 e3]) (LOp.le (LOp.ix (f := f32) und26 siz28 rfl rfl rfl rfl he2) ALe.ptr) <|
    (tl rfl (f32 e3) (y2 agg28) <|
    (tm rfl (sFc a1) <|
    (tm rfl (i64 v2) <|
    (tl rfl (ptr [f32 e4]) (LOp.le (LOp.ix (f := f32) und26 siz28 rfl rfl rfl rfl he3) ALe.ptr) <|
    (tl rfl (f32 e4) (y2 agg28) <|
    (TR.d (r := f32 x5) (fs := []) rfl rfl (TOp.eqr (TOp.fop (.inr (.inr (.inl rfl))) rfl (OpF.tmp rfl) (OpF.tmp rfl)) (congrArg (f .f32) hx4)) <|
    (TR.d (r := f32 x6) (fs := []) rfl rfl (TOp.eqr (TOp.fop (.inl rfl) rfl (OpF.tmp rfl) (OpF.tmp rfl)) (congrArg (f .f32) hx5)) <|
    (tl rfl (f32 x6) (LOp.assign rfl rfl) <|
    TR.nil)))))))))))) rfl (by kernel_rfl) rfl fills_nil rfl ?_
   iterate 12 refine ROps.dropS ?_
   refine ROps.drop0<|zN ?_
   refine RunC.wl (τ' := [(0, (sFc a0)), (1, (sFc a1)), (5, f32 x6), (6, i64 v2)]) (Γ' := []) ⟨aR, aR, aR, aR, trivial⟩ trivial ?_
   obtain ⟨x7, hx6, h2_⟩ := oL h2_
   refine yW<|ym rfl (i64 v2)<|yl rfl (i64 x7) (LOp.eqr (LOp.add rfl rfl rfl) (congrArg (ik .i64) hx6))<|ya rfl (i64 x7)<|zN ?_
   cases oI h2_
   exact ⟨_, rfl, ⟨aR, aR, aR, aR, trivial⟩, trivial⟩
  ·refine yW<|ym rfl (i64 v2)<|ym rfl (sFc a0)<|yl rfl (i64 (a0.length : Int)) (LOp.len_sl und26 rfl rfl)<|yl rfl (b false) (LOp.eqb (LOp.lss rfl rfl rfl) hc1)<|zN ?_
   refine yF<|RunC.exit ?_
   cases oI h2_
   have hx := ho2 _ rfl
   exact ⟨y1, ⟨aR, trivial⟩, trivial, hx⟩
 ·rintro τ3 Γ3 ⟨y8, hw3, hd3, rfl⟩
  refine RunC.wl hw3 hd3 ?_
  replace h : s_l02Dot_k1 y8 = some q0 := h
  unfold s_l02Dot_k1 at h
  refine zQ<|ym rfl (f32 y8)<|ya rfl (f32 y8)<|zN ?_
  refine RunC.ret ?_
  have hq := oI h
  subst q0
  exact bodyQ.pure (.inr rfl) rfl (Res.one rfl (RV.tmp rfl))
def s_l02Times_b1 (a0 : Int) (a1 : Int) (a2 : List F) (a3 : List F) (L3 : List F) (v4 : Int) : Option (LR ((List F) × Int) ((List F)) ((List F))) :=
 bsel (decide (v4 < a0)) (
  olet (IntKind.i64.wrap (v4 * a1)) fun (x5 : Int) =>
  olet (IntKind.i64.wrap (v4 + 1)) fun (x6 : Int) =>
  olet (IntKind.i64.wrap (x6 * a1)) fun (x7 : Int) =>
  obind (sub? a2 x5 x7) fun (l8 : List F) =>
  obind (s_l02Dot l8 a3) fun (r9 : F) =>
  need (apok 4 L3.length 1) <|
  olet (IntKind.i64.wrap (v4 + 1)) fun (x10 : Int) =>
  some (LR.next ((L3 ++ ([r9] : List F)), x10))) (
  some (LR.out L3))
def s_l02Times_s1 (a0 : Int) (a1 : Int) (a2 : List F) (a3 : List F) : ((List F) × Int) → Option (LR ((List F) × Int) ((List F)) ((List F))) := fun s => s_l02Times_b1 a0 a1 a2 a3 s.1 s.2
def s_l02Times_k1 (L13 : List F) : Option ((List F)) :=
 some L13
def s_l02Times (a0 : Int) (a1 : Int) (a2 : List F) (a3 : List F) : Option ((List F)) :=
 obind (loopM (s_l02Times_s1 a0 a1 a2 a3) (([] : List F), 0)) fun z => osum z (fun e => s_l02Times_k1 e) (fun r => some r)
theorem s_l02Times_ok (a0 : Int) (a1 : Int) (a2 : List F) (a3 : List F) (q0 : List F) (h : s_l02Times a0 a1 a2 a3 = some q0) : Ev Try.prog 69 [ptr (mXc a0 a1 a2), (sFc a3)] [] (oref 0 0 0 q0.length) [⟨0, some (q0.map f32)⟩] := by
 refine yE Try.func69 2 81 0 [(0, ptr (mXc a0 a1 a2)), (1, (sFc a3))] [⟨0, none⟩, ⟨0, none⟩] rfl ?_
 unfold s_l02Times at h
 refine zQ<|ya rfl nilsl<|zN ?_
 refine zQ<|ye rfl (oref 0 1 0 0) ([⟨1, some (([] : List F).map f32)⟩, ⟨0, none⟩]) (TOp.buildSlice_o (g := ⟨0, none⟩) (za := f32 (some 0)) (qs := []) 0 rfl und26 siz28 zer28 rfl zel28 rfl rfl trivial rfl)<|ya rfl (oref 0 1 0 0)<|zN ?_
 refine yS<|zQ<|ya rfl (i64 0)<|zN ?_
 obtain ⟨z2, hz_2, h⟩ := oS h
 refine RunC.cutN (fun τ Γ => ∃ (L13 : List F) (u11 : Nat) (u12 : Nat), WeakLe τ [(5, oref 0 u11 0 L13.length)] ∧ DeadLe Γ [⟨u11, some (L13.map f32)⟩, ⟨u12, none⟩] ∧ z2 = .inl L13) ?_ ?_
 ·refine RunC.block (RunC.loop (RunL.loopM (x := z2) (s_l02Times_s1 a0 a1 a2 a3) (fun (s : (List F) × Int) τ Γ => ∃ (u1 : Nat) (u2 : Nat), WeakLe τ [(0, ptr (mXc a0 a1 a2)), (1, (sFc a3)), (5, oref 0 u1 0 s.1.length), (6, i64 s.2)] ∧ DeadLe Γ [⟨u1, some (s.1.map f32)⟩, ⟨u2, none⟩]) ?_ _ _ _ hz_2 ⟨1, 0, ⟨aR, aR, aR, aR, trivial⟩, ⟨⟨rfl, .inr rfl⟩, ⟨rfl, .inl rfl⟩, trivial⟩⟩))
  rintro ⟨L3, v4⟩ τ2 Γ2 y2_ ⟨u1, u2, hw2, hd2⟩ h2_ ho2 hr2
  refine RunC.wl (τ' := [(0, ptr (mXc a0 a1 a2)), (1, (sFc a3)), (5, oref 0 u1 0 L3.length), (6, i64 v4)]) (Γ' := [⟨u1, some (L3.map f32)⟩, ⟨u2, none⟩]) hw2 hd2 ?_
  replace h2_ : s_l02Times_b1 a0 a1 a2 a3 L3 v4 = some y2_ := h2_
  unfold s_l02Times_b1 at h2_
  refine yS<|yS ?_
  rcases oB h2_ with ⟨hc1, h2_⟩ | ⟨hc1, h2_⟩
  ·refine yW<|ym rfl (i64 v4)<|ym rfl (ptr (mXc a0 a1 a2))<|yl rfl (ptr (mXc a0 a1 a2)) (LOp.nilCheck_ptr rfl rfl)<|yl rfl (ptr (mXc a0 a1 a2)) (LOp.fap und33 rfl siz2 rfl rfl rfl)<|yl rfl (i64 a0) (y2 agg2)<|yl rfl (b true) (LOp.eqb (LOp.lss rfl rfl rfl) hc1)<|zN ?_
   refine yT<|RunC.skip<|yS<|RunC.block ?_
   obtain ⟨x5, hx2, h2_⟩ := oL h2_
   obtain ⟨x6, hx3, h2_⟩ := oL h2_
   obtain ⟨x7, hx4, h2_⟩ := oL h2_
   obtain ⟨l8, hs5, h2_⟩ := oS h2_
   obtain ⟨r9, hf6, h2_⟩ := oS h2_
   obtain ⟨hm7, h2_⟩ := need_some h2_
   refine RunC.region_draw (Γ' := [⟨u1, some (L3.map f32)⟩, ⟨(u2 + 1), some (([r9] : List F).map f32)⟩]) 22 mixed 
    (tm rfl (oref 0 u1 0 L3.length) <|
    (tm rfl (ptr (mXc a0 a1 a2)) <|
    (tl rfl (ptr (mXc a0 a1 a2)) (LOp.nilCheck_ptr rfl rfl) <|
    (tl rfl (ptr [(sFc a2)]) (LOp.fap und33 rfl siz26 rfl rfl rfl) <|
    (tl rfl (sFc a2) (y2 agg26) <|
    (tm rfl (i64 v4) <|
    (tm rfl (ptr (mXc a0 a1 a2)) <|
    (tl rfl (ptr (mXc a0 a1 a2)) (LOp.nilCheck_ptr rfl rfl) <|
    (tl rfl (ptr [i64 a1, (sFc a2)]) (LOp.fap und33 rfl siz2 rfl rfl rfl) <|
    (tl rfl (i64 a1) (y2 agg2) <|
    (tl rfl (i64 x5) (LOp.eqr (LOp.mul rfl rfl rfl) (congrArg (ik .i64) hx2)) <|
    (tm rfl (i64 v4) <|
    (tl rfl (i64 x6) (LOp.eqr (LOp.add rfl rfl rfl) (congrArg (ik .i64) hx3)) <|
    (tm rfl (ptr (mXc a0 a1 a2)) <|
    (tl rfl (ptr (mXc a0 a1 a2)) (LOp.nilCheck_ptr rfl rfl) <|
    (tl rfl (ptr [i64 a1, (sFc a2)]) (LOp.fap und33 rfl siz2 rfl rfl rfl) <|
    (tl rfl (i64 a1) (y2 agg2) <|
    (tl rfl (i64 x7) (LOp.eqr (LOp.mul rfl rfl rfl) (congrArg (ik .i64) hx4)) <|
    (tl rfl (sFc l8) (LOp.slice_sl (f := f32) und26 siz28 rfl rfl rfl rfl rfl hs5) <|
    (tm rfl (sFc a3) <|
    (TR.d (r := f32 r9) (fs := []) rfl rfl (yc ent136 rfl rfl (bS (bS bN)) (s_l02Dot_ok l8 a3 r9 hf6)) <|
    (TR.d (r := oref 1 (u2 + 1) 0 1) (fs := [(1, (([r9] : List F).map f32))]) rfl rfl (TOp.buildSlice_o (g := ⟨u2, none⟩) (za := f32 (some 0)) (qs := [(0, [f32 r9])]) 1 rfl und26 siz28 zer28 rfl zel28 rfl rfl ⟨rfl, ⟨_, ALe.refl _, rfl⟩, trivial⟩ rfl) <|
    TR.nil)))))))))))))))))))))) rfl (by kernel_rfl) rfl (fills_of (by show List.Nodup [1]; decide) ⟨⟨_, rfl⟩, trivial⟩) rfl ?_
   iterate 22 refine ROps.dropS ?_
   refine ROps.drop0<|ROps.app (f := f32) (xs := L3) (ys := ([r9] : List F)) (Γ' := [⟨(u1 + 1), some ((L3 ++ ([r9] : List F)).map f32)⟩, ⟨(u2 + 1), some (([r9] : List F).map f32)⟩]) rfl pun26 inf28 rfl rfl rfl rfl rfl rfl rfl rfl rfl (by simp) (ReadAs.own rfl (by simp)) (ones_map (fun _ => rfl)) (ap_by hm7) (ap_mx hm7) rfl<|ya rfl (oref 0 (u1 + 1) 0 (L3.length + 1))<|zN ?_
   refine RunC.wl (τ' := [(0, ptr (mXc a0 a1 a2)), (1, (sFc a3)), (5, oref 0 (u1 + 1) 0 (L3.length + 1)), (6, i64 v4)]) (Γ' := [⟨(u1 + 1), some ((L3 ++ ([r9] : List F)).map f32)⟩, ⟨(u2 + 1), none⟩]) ⟨aR, aR, aR, aR, trivial⟩ ⟨⟨rfl, .inr rfl⟩, ⟨rfl, .inl rfl⟩, trivial⟩ ?_
   obtain ⟨x10, hx8, h2_⟩ := oL h2_
   refine yW<|ym rfl (i64 v4)<|yl rfl (i64 x10) (LOp.eqr (LOp.add rfl rfl rfl) (congrArg (ik .i64) hx8))<|ya rfl (i64 x10)<|zN ?_
   cases oI h2_
   exact ⟨_, rfl, (u1 + 1), (u2 + 1), ⟨aR, aR, (ALe.eq (by rw [(app_len rfl rfl)] <;> rfl)), aR, trivial⟩, ⟨⟨rfl, .inr rfl⟩, ⟨rfl, .inl rfl⟩, trivial⟩⟩
  ·refine yW<|ym rfl (i64 v4)<|ym rfl (ptr (mXc a0 a1 a2))<|yl rfl (ptr (mXc a0 a1 a2)) (LOp.nilCheck_ptr rfl rfl)<|yl rfl (ptr (mXc a0 a1 a2)) (LOp.fap und33 rfl siz2 rfl rfl rfl)<|yl rfl (i64 a0) (y2 agg2)<|yl rfl (b false) (LOp.eqb (LOp.lss rfl rfl rfl) hc1)<|zN ?_
   refine yF<|RunC.exit ?_
   cases oI h2_
   have hx := ho2 _ rfl
   exact ⟨L3, u1, u2, ⟨aR, trivial⟩, ⟨⟨rfl, .inr rfl⟩, ⟨rfl, .inl rfl⟩, trivial⟩, hx⟩
 ·rintro τ3 Γ3 ⟨L13, u11, u12, hw3, hd3, rfl⟩
  refine RunC.wl hw3 hd3 ?_
  replace h : s_l02Times_k1 L13 = some q0 := h
  unfold s_l02Times_k1 at h
  refine zQ<|ym rfl (oref 0 u11 0 L13.length)<|ya rfl (oref 0 u11 0 L13.length)<|zN ?_
  refine RunC.ret ?_
  have hq := oI h
  subst q0
  exact bodyQ.mk (r' := oref 0 u11 0 L13.length) [(0, u11)] (.inr rfl) rfl (ndB_ok rfl) (by simp [ren, rens, sigma]) rfl (Res.one rfl (RV.tmp rfl)) (SelL.arr0 (f := f32) (fun _ => rfl) rfl trivial)
def s_l02List_0o (a0 : List F) : Option ((Bool × (List F)) ⊕ (Bool × (List F) × (List F))) :=
 obind (s_l02Finite a0) fun (r1 : Bool) =>
 bsel r1 (
  some (Sum.inl (true, a0))) (
  some (Sum.inr (false, a0, ([] : List F))))
theorem s_l02List_0o_ok0 (a0 : List F) (q0 : Bool) (q1 : List F) (h : s_l02List_0o a0 = some (Sum.inl (q0, q1))) : Ev Try.prog 68 [oref 0 0 0 a0.length] [⟨0, some (a0.map f32)⟩] (tup [oref 0 0 0 q1.length, b q0]) [⟨0, some (q1.map f32)⟩] := by
 refine Ev.start Try.func68 rfl rfl 1 (τ := [(0, oref 0 0 0 a0.length)]) rfl (Γ' := [⟨0, some (a0.map f32)⟩, ⟨0, none⟩]) rfl (n := 16) rfl (g := 1) rfl (by decide) ?_
 unfold s_l02List_0o at h
 refine zQ<|ya rfl nilsl<|ya rfl (b false)<|zN ?_
 refine yS<|yS ?_
 obtain ⟨r1, hf1, h⟩ := oS h
 rcases oB h with ⟨hc2, h⟩ | ⟨hc2, h⟩
 ·refine yW<|ym rfl (oref 0 0 0 a0.length)<|yd rfl (b true) (TOp.eqb (yc ent135 rfl rfl (Bors.cons (Bor.own (f := f32) (fun _ => rfl) rfl rfl) bN) (s_l02Finite_ok a0 r1 hf1)) hc2)<|yl rfl (b false) y1<|zN ?_
  refine yF<|RunC.skip<|zQ<|ym rfl (oref 0 0 0 a0.length)<|ya rfl (oref 0 0 0 a0.length)<|ya rfl (b true)<|zN ?_
  refine RunC.ret ?_
  have hq := oI h
  have hq := Sum.inl.inj hq
  obtain ⟨hq0, hq⟩ := Prod.mk.inj hq
  subst q0
  subst q1
  exact yB (tup [oref 0 0 0 a0.length, b true]) [(0, 0)] (Res.two rfl (RV.tmp rfl) (RV.tmp rfl)) (SelL.arr (f := f32) (fun _ => rfl) rfl trivial)
 ·refine yW<|ym rfl (oref 0 0 0 a0.length)<|yd rfl (b false) (TOp.eqb (yc ent135 rfl rfl (Bors.cons (Bor.own (f := f32) (fun _ => rfl) rfl rfl) bN) (s_l02Finite_ok a0 r1 hf1)) hc2)<|yl rfl (b true) y0<|zN ?_
  refine yT<|zQ<|ya rfl nilsl<|ya rfl (b false)<|zN ?_
  cases oI h
theorem s_l02List_0o_ok1 (a0 : List F) (q0 : Bool) (q1 : List F) (q2 : List F) (h : s_l02List_0o a0 = some (Sum.inr (q0, q1, q2))) : Ev Try.prog 68 [oref 0 0 0 a0.length] [⟨0, some (a0.map f32)⟩] (tup [oref 1 0 0 q2.length, b q0]) [⟨0, some (q1.map f32)⟩, ⟨0, some (q2.map f32)⟩] := by
 refine Ev.start Try.func68 rfl rfl 1 (τ := [(0, oref 0 0 0 a0.length)]) rfl (Γ' := [⟨0, some (a0.map f32)⟩, ⟨0, none⟩]) rfl (n := 16) rfl (g := 1) rfl (by decide) ?_
 unfold s_l02List_0o at h
 refine zQ<|ya rfl nilsl<|ya rfl (b false)<|zN ?_
 refine yS<|yS ?_
 obtain ⟨r1, hf1, h⟩ := oS h
 rcases oB h with ⟨hc2, h⟩ | ⟨hc2, h⟩
 ·refine yW<|ym rfl (oref 0 0 0 a0.length)<|yd rfl (b true) (TOp.eqb (yc ent135 rfl rfl (Bors.cons (Bor.own (f := f32) (fun _ => rfl) rfl rfl) bN) (s_l02Finite_ok a0 r1 hf1)) hc2)<|yl rfl (b false) y1<|zN ?_
  refine yF<|RunC.skip<|zQ<|ym rfl (oref 0 0 0 a0.length)<|ya rfl (oref 0 0 0 a0.length)<|ya rfl (b true)<|zN ?_
  cases oI h
 ·refine yW<|ym rfl (oref 0 0 0 a0.length)<|yd rfl (b false) (TOp.eqb (yc ent135 rfl rfl (Bors.cons (Bor.own (f := f32) (fun _ => rfl) rfl rfl) bN) (s_l02Finite_ok a0 r1 hf1)) hc2)<|yl rfl (b true) y0<|zN ?_
  refine yT<|zQ<|ya rfl nilsl<|ya rfl (b false)<|zN ?_
  refine RunC.nil_slot (Γ' := [⟨0, some (a0.map f32)⟩, ⟨1, some (([] : List F).map f32)⟩]) 2 1 rfl rfl rfl<|RunC.ret ?_
  have hq := oI h
  have hq := Sum.inr.inj hq
  obtain ⟨hq0, hq⟩ := Prod.mk.inj hq
  obtain ⟨hq1, hq⟩ := Prod.mk.inj hq
  subst q0
  subst q1
  subst q2
  exact yB (tup [oref 1 1 0 (([] : List F).length), b false]) [(0, 0), (1, 1)] (Res.eq (Res.two rfl (RV.tmp rfl) (RV.tmp rfl)) (by first | rfl | (rw [(show ([] : List F).length = 0 from rfl)] <;> rfl))) (SelL.arr (f := f32) (fun _ => rfl) rfl (SelL.arr0 (f := f32) (fun _ => rfl) rfl trivial))
def s_TimesVector (a0 : Int) (a1 : Int) (a2 : List F) (a3 : List F) : Option (Bool × (List F)) :=
 obind (s_l02Is a0 a1 a2) fun (r1 : Bool) =>
 bsel r1 (
  obind (s_l02Vector a3) fun (r2 : Bool) =>
  bsel r2 (
   bsel (!decide ((a3.length : Int) = a1)) (
    some (false, ([] : List F))) (
    obind (s_l02Times a0 a1 a2 a3) fun (r3 : List F) =>
    obind (s_l02List_0o r3) (fun z => osum z (fun y => obind2 (some y) fun (r4 : Bool) (r5 : List F) =>
     need (decide (r5.length = r3.length)) <|
     some (r4, r5)) (fun y => obind3 (some y) fun (r6 : Bool) (r7 : List F) (r8 : List F) =>
     need (decide (r7.length = r3.length)) <|
     some (r6, r8))))) (
   some (false, ([] : List F)))) (
  some (false, ([] : List F)))
theorem s_TimesVector_ok (a0 : Int) (a1 : Int) (a2 : List F) (a3 : List F) (q0 : Bool) (q1 : List F) (h : s_TimesVector a0 a1 a2 a3 = some (q0, q1)) : Ev Try.prog 15 [agg (mXc a0 a1 a2), (sFc a3)] [] (tup [oref 0 0 0 q1.length, b q0]) [⟨0, some (q1.map f32)⟩] := by
 refine yE Try.func15 2 51 0 [(0, agg (mXc a0 a1 a2)), (1, (sFc a3))] [⟨0, none⟩, ⟨0, none⟩] rfl ?_
 unfold s_TimesVector at h
 refine zQ<|yd rfl (ptr (mXc a0 a1 a2)) (TOp.box_s rfl rfl rfl)<|ya rfl nilsl<|ya rfl (b false)<|zN ?_
 refine yS<|yS ?_
 obtain ⟨r1, hf1, h⟩ := oS h
 rcases oB h with ⟨hc2, h⟩ | ⟨hc2, h⟩
 ·obtain ⟨r2, hf3, h⟩ := oS h
  rcases oB h with ⟨hc4, h⟩ | ⟨hc4, h⟩
  ·rcases oB h with ⟨hc5, h⟩ | ⟨hc5, h⟩
   ·refine yW<|yd rfl (b true) (TOp.eqb (TOp.callB (CallAs.func ent66 rfl rfl) (Bors.cons (Bor.ptr (bP (bP (bS bN)))) bN) rfl rfl (s_l02Is_ok a0 a1 a2 r1 hf1)) hc2)<|yl rfl (b false) y1<|ym rfl (b false)<|ym rfl (sFc a3)<|yd rfl (b true) (TOp.eqb (yc ent67 rfl rfl (bS bN) (s_l02Vector_ok a3 r2 hf3)) hc4)<|yl rfl (b false) y1<|yl rfl (b false) yp<|ym rfl (b false)<|ym rfl (sFc a3)<|yl rfl (i64 (a3.length : Int)) (LOp.len_sl und26 rfl rfl)<|yl rfl (ptr [i64 a1, (sFc a2)]) (LOp.fap und33 rfl siz2 rfl rfl rfl)<|yl rfl (i64 a1) (y2 agg2)<|yl rfl (b true) (LOp.eqb (LOp.neq rfl rfl rfl) hc5)<|yl rfl (b true) yp<|zN ?_
    refine RunC.wl (τ' := [(1, (sFc a3)), (2, ptr (mXc a0 a1 a2)), (19, b true)]) (Γ' := [⟨0, none⟩, ⟨0, none⟩]) ⟨aR, aR, aR, trivial⟩ ⟨⟨rfl, .inr rfl⟩, ⟨rfl, .inr rfl⟩, trivial⟩<|yT<|zQ<|ya rfl nilsl<|ya rfl (b false)<|zN ?_
    refine RunC.nil_slot (Γ' := [⟨1, some (([] : List F).map f32)⟩, ⟨0, none⟩]) 4 0 rfl rfl rfl<|RunC.ret ?_
    have hq := oI h
    obtain ⟨hq0, hq⟩ := Prod.mk.inj hq
    subst q0
    subst q1
    exact yB (tup [oref 0 1 0 (([] : List F).length), b false]) [(0, 1)] (Res.eq (Res.two rfl (RV.tmp rfl) (RV.tmp rfl)) (by first | rfl | (rw [(show ([] : List F).length = 0 from rfl)] <;> rfl))) (SelL.arr0 (f := f32) (fun _ => rfl) rfl trivial)
   ·refine yW<|yd rfl (b true) (TOp.eqb (TOp.callB (CallAs.func ent66 rfl rfl) (Bors.cons (Bor.ptr (bP (bP (bS bN)))) bN) rfl rfl (s_l02Is_ok a0 a1 a2 r1 hf1)) hc2)<|yl rfl (b false) y1<|ym rfl (b false)<|ym rfl (sFc a3)<|yd rfl (b true) (TOp.eqb (yc ent67 rfl rfl (bS bN) (s_l02Vector_ok a3 r2 hf3)) hc4)<|yl rfl (b false) y1<|yl rfl (b false) yp<|ym rfl (b false)<|ym rfl (sFc a3)<|yl rfl (i64 (a3.length : Int)) (LOp.len_sl und26 rfl rfl)<|yl rfl (ptr [i64 a1, (sFc a2)]) (LOp.fap und33 rfl siz2 rfl rfl rfl)<|yl rfl (i64 a1) (y2 agg2)<|yl rfl (b false) (LOp.eqb (LOp.neq rfl rfl rfl) hc5)<|yl rfl (b false) yp<|zN ?_
    refine RunC.wl (τ' := [(1, (sFc a3)), (2, ptr (mXc a0 a1 a2)), (19, b false)]) (Γ' := [⟨0, none⟩, ⟨0, none⟩]) ⟨aR, aR, aR, trivial⟩ ⟨⟨rfl, .inr rfl⟩, ⟨rfl, .inr rfl⟩, trivial⟩<|yF<|RunC.skip<|yS ?_
    obtain ⟨r3, hf6, h⟩ := oS h
    obtain ⟨z1, hf7, h⟩ := oS h
    rcases z1 with z1 | z1
    ·replace h := (osum_inl _ _ _).symm.trans h
     obtain ⟨r4, r5, hz2, h⟩ := obind2_some h
     cases hz2
     obtain ⟨hn8, h⟩ := need_some h
     refine yW<|ym rfl (sFc a3)<|ye rfl (oref 0 1 0 r3.length) [⟨1, some (r3.map f32)⟩, ⟨0, none⟩] (TOp.callBN (ls := [(r3.map f32)]) [0] (CallAs.func ent69 rfl rfl) (Bors.cons (Bor.ptr (bP (bP (bS bN)))) (bS bN)) rfl (s_l02Times_ok a0 a1 a2 a3 r3 hf6) (and_all (lts0_map (f := f32) (fun _ => rfl) _) rfl) (and_all (noss_map (f := f32) (fun _ => rfl) _) rfl) rfl (by decide) (ns_of ⟨⟨_, rfl⟩, trivial⟩))<|ROps.callO (A := [oref 0 1 0 r3.length]) (args := [oref 0 0 0 r3.length]) (Γc := [⟨0, some (r3.map f32)⟩]) (Γc' := [⟨0, some (r5.map f32)⟩]) (r' := tup [oref 0 1 0 r3.length, b r4]) (Γ' := [⟨1, some (r5.map f32)⟩, ⟨0, none⟩]) [(0, 1)] [] rfl (CallAs.func ent68 rfl rfl) rfl rfl (SelOk.of (ndB_ok rfl) (SelL.arr0 (f := f32) (fun _ => rfl) rfl trivial)) (live_of ⟨⟨_, _, rfl⟩, trivial⟩) (by simp [ren, rens, sigma, rens_f32, rens_f64, rens_i64, rens_ik, rens_str, rens_cp]) rfl (s_l02List_0o_ok0 r3 r4 r5 hf7) rfl (news_of trivial) (ndB_ok rfl) (by simp [ren, rens, sigma, of_decide_eq_true hn8]) (by simp [backOb, sigma, ren, rens, rens_f32, rens_f64, rens_i64, rens_ik, rens_str, rens_cp] <;> omega)<|yl rfl (oref 0 1 0 r3.length) y3<|yl rfl (b r4) y3<|ya rfl (oref 0 1 0 r3.length)<|ya rfl (b r4)<|zN ?_
     refine RunC.ret ?_
     have hq := oI h
     obtain ⟨hq0, hq⟩ := Prod.mk.inj hq
     subst q0
     subst q1
     exact yB (tup [oref 0 1 0 r5.length, b r4]) [(0, 1)] (Res.eq (Res.two rfl (RV.tmp rfl) (RV.tmp rfl)) (by first | rfl | (rw [(show r5.length = r3.length from (of_decide_eq_true hn8))] <;> rfl))) (SelL.arr0 (f := f32) (fun _ => rfl) rfl trivial)
    ·replace h := (osum_inr _ _ _).symm.trans h
     obtain ⟨r6, r7, r8, hz3, h⟩ := obind3_some h
     cases hz3
     obtain ⟨hn9, h⟩ := need_some h
     refine yW<|ym rfl (sFc a3)<|ye rfl (oref 0 1 0 r3.length) [⟨1, some (r3.map f32)⟩, ⟨0, none⟩] (TOp.callBN (ls := [(r3.map f32)]) [0] (CallAs.func ent69 rfl rfl) (Bors.cons (Bor.ptr (bP (bP (bS bN)))) (bS bN)) rfl (s_l02Times_ok a0 a1 a2 a3 r3 hf6) (and_all (lts0_map (f := f32) (fun _ => rfl) _) rfl) (and_all (noss_map (f := f32) (fun _ => rfl) _) rfl) rfl (by decide) (ns_of ⟨⟨_, rfl⟩, trivial⟩))<|ROps.callO (A := [oref 0 1 0 r3.length]) (args := [oref 0 0 0 r3.length]) (Γc := [⟨0, some (r3.map f32)⟩]) (Γc' := [⟨0, some (r7.map f32)⟩, ⟨0, some (r8.map f32)⟩]) (r' := tup [oref 1 1 0 r8.length, b r6]) (Γ' := [⟨1, some (r7.map f32)⟩, ⟨1, some (r8.map f32)⟩]) [(0, 1)] [(1, 1)] rfl (CallAs.func ent68 rfl rfl) rfl rfl (SelOk.of (ndB_ok rfl) (SelL.arr0 (f := f32) (fun _ => rfl) rfl trivial)) (live_of ⟨⟨_, _, rfl⟩, trivial⟩) (by simp [ren, rens, sigma, rens_f32, rens_f64, rens_i64, rens_ik, rens_str, rens_cp]) rfl (s_l02List_0o_ok1 r3 r6 r7 r8 hf7) rfl (news_of ⟨⟨_, rfl, rfl⟩, trivial⟩) (show List.Nodup [0, 1] from by decide) (by simp [ren, rens, sigma, of_decide_eq_true hn9]) (by simp [backOb, sigma, ren, rens, rens_f32, rens_f64, rens_i64, rens_ik, rens_str, rens_cp] <;> omega)<|yl rfl (oref 1 1 0 r8.length) y3<|yl rfl (b r6) y3<|ya rfl (oref 1 1 0 r8.length)<|ya rfl (b r6)<|zN ?_
     refine RunC.ret ?_
     have hq := oI h
     obtain ⟨hq0, hq⟩ := Prod.mk.inj hq
     subst q0
     subst q1
     exact yB (tup [oref 1 1 0 r8.length, b r6]) [(1, 1)] (Res.two rfl (RV.tmp rfl) (RV.tmp rfl)) (SelL.arr0 (f := f32) (fun _ => rfl) rfl trivial)
  ·refine yW<|yd rfl (b true) (TOp.eqb (TOp.callB (CallAs.func ent66 rfl rfl) (Bors.cons (Bor.ptr (bP (bP (bS bN)))) bN) rfl rfl (s_l02Is_ok a0 a1 a2 r1 hf1)) hc2)<|yl rfl (b false) y1<|ym rfl (b false)<|ym rfl (sFc a3)<|yd rfl (b false) (TOp.eqb (yc ent67 rfl rfl (bS bN) (s_l02Vector_ok a3 r2 hf3)) hc4)<|yl rfl (b true) y0<|yl rfl (b true) yp<|ym rfl (b true)<|ROps.s rfl rfl rfl<|ROps.s rfl rfl rfl<|ROps.s rfl rfl rfl<|ROps.s rfl rfl rfl<|ROps.s rfl rfl rfl<|yl rfl (b true) yq<|zN ?_
   refine RunC.wl (τ' := [(1, (sFc a3)), (2, ptr (mXc a0 a1 a2)), (19, b true)]) (Γ' := [⟨0, none⟩, ⟨0, none⟩]) ⟨aR, aR, aR, trivial⟩ ⟨⟨rfl, .inr rfl⟩, ⟨rfl, .inr rfl⟩, trivial⟩<|yT<|zQ<|ya rfl nilsl<|ya rfl (b false)<|zN ?_
   refine RunC.nil_slot (Γ' := [⟨1, some (([] : List F).map f32)⟩, ⟨0, none⟩]) 4 0 rfl rfl rfl<|RunC.ret ?_
   have hq := oI h
   obtain ⟨hq0, hq⟩ := Prod.mk.inj hq
   subst q0
   subst q1
   exact yB (tup [oref 0 1 0 (([] : List F).length), b false]) [(0, 1)] (Res.eq (Res.two rfl (RV.tmp rfl) (RV.tmp rfl)) (by first | rfl | (rw [(show ([] : List F).length = 0 from rfl)] <;> rfl))) (SelL.arr0 (f := f32) (fun _ => rfl) rfl trivial)
 ·refine yW<|yd rfl (b false) (TOp.eqb (TOp.callB (CallAs.func ent66 rfl rfl) (Bors.cons (Bor.ptr (bP (bP (bS bN)))) bN) rfl rfl (s_l02Is_ok a0 a1 a2 r1 hf1)) hc2)<|yl rfl (b true) y0<|ym rfl (b true)<|ROps.s rfl rfl rfl<|ROps.s rfl rfl rfl<|ROps.s rfl rfl rfl<|yl rfl (b true) yq<|ym rfl (b true)<|ROps.s rfl rfl rfl<|ROps.s rfl rfl rfl<|ROps.s rfl rfl rfl<|ROps.s rfl rfl rfl<|ROps.s rfl rfl rfl<|yl rfl (b true) yq<|zN ?_
  refine RunC.wl (τ' := [(1, (sFc a3)), (2, ptr (mXc a0 a1 a2)), (19, b true)]) (Γ' := [⟨0, none⟩, ⟨0, none⟩]) ⟨aR, aR, aR, trivial⟩ ⟨⟨rfl, .inr rfl⟩, ⟨rfl, .inr rfl⟩, trivial⟩<|yT<|zQ<|ya rfl nilsl<|ya rfl (b false)<|zN ?_
  refine RunC.nil_slot (Γ' := [⟨1, some (([] : List F).map f32)⟩, ⟨0, none⟩]) 4 0 rfl rfl rfl<|RunC.ret ?_
  have hq := oI h
  obtain ⟨hq0, hq⟩ := Prod.mk.inj hq
  subst q0
  subst q1
  exact yB (tup [oref 0 1 0 (([] : List F).length), b false]) [(0, 1)] (Res.eq (Res.two rfl (RV.tmp rfl) (RV.tmp rfl)) (by first | rfl | (rw [(show ([] : List F).length = 0 from rfl)] <;> rfl))) (SelL.arr0 (f := f32) (fun _ => rfl) rfl trivial)
end
end Go.Proofs.Ytkdociaoknmgbaa
