/- Generated. -/
import Derived.Test.YtkdociaoknmgbaaG2
namespace Go.Proofs.Ytkdociaoknmgbaa
open Go Go.AM Go.AM.AV
set_option maxRecDepth 20000
set_option maxHeartbeats 4000000
set_option linter.unusedVariables false
set_option linter.unusedSimpArgs false
noncomputable section
def i_ThirdsRing (a0 : List F) (a1 : List F) (a2 : List F) (a3 : F) (a4 : F) (a5 : List F) : Option (Bool × (List F)) :=
 obind (i_Thirds_takes a0 a1 a2 a5) fun (r1 : Bool) =>
 bsel r1 (
  bsel (decide ((a1.length : Int) < 3)) (
   some (false, ([] : List F))) (
   obind (i_areFinite ([a3, a4] : List F)) fun (r2 : Bool) =>
   bsel r2 (
    obind (at? a1 0) fun (e3 : F) =>
    bsel (feq .f32 e3 (some 0)) (
     some (false, ([] : List F))) (
     obind (at? a1 0) fun (e4 : F) =>
     olet (fneg .f32 e4) fun (x5 : F) =>
     obind (x_slices_Clone_float32_float32 a1) fun (r6 : List F) =>
     obind (at? r6 0) fun (e7 : F) =>
     olet (fop .sub .f32 e7 x5) fun (x8 : F) =>
     obind (setAt? r6 0 x8) fun (L9 : List F) =>
     olet (IntKind.i64.wrap ((a1.length : Int) - 1)) fun (x10 : Int) =>
     obind (at? L9 x10) fun (e11 : F) =>
     obind (i_mul a3 a4) fun (r12 : F) =>
     olet (fop .quo .f32 r12 x5) fun (x13 : F) =>
     olet (fop .sub .f32 e11 x13) fun (x14 : F) =>
     obind (setAt? L9 x10 x14) fun (L15 : List F) =>
     need (mkok 4 (a1.length : Int)) <|
     olet (IntKind.i64.wrap ((a1.length : Int) - 1)) fun (x16 : Int) =>
     obind (setAt? (List.replicate (a1.length : Int).toNat (some 0)) 0 x5) fun (L17 : List F) =>
     obind (setAt? L17 x16 a4) fun (L18 : List F) =>
     obind2 (i_ThirdsSolve a0 L15 a2 a5) fun (r19 : Bool) (r20 : List F) =>
     bsel r19 (
      obind2 (i_ThirdsSolve a0 L15 a2 L18) fun (r21 : Bool) (r22 : List F) =>
      bsel r21 (
       obind (at? r20 0) fun (e23 : F) =>
       olet (IntKind.i64.wrap ((a1.length : Int) - 1)) fun (x24 : Int) =>
       obind (at? r20 x24) fun (e25 : F) =>
       obind (i_mul a3 e25) fun (r26 : F) =>
       olet (fop .quo .f32 r26 x5) fun (x27 : F) =>
       olet (fop .add .f32 e23 x27) fun (x28 : F) =>
       obind (at? r22 0) fun (e29 : F) =>
       olet (fop .add .f32 (some 1065353216) e29) fun (x30 : F) =>
       olet (IntKind.i64.wrap ((a1.length : Int) - 1)) fun (x31 : Int) =>
       obind (at? r22 x31) fun (e32 : F) =>
       obind (i_mul a3 e32) fun (r33 : F) =>
       olet (fop .quo .f32 r33 x5) fun (x34 : F) =>
       olet (fop .add .f32 x30 x34) fun (x35 : F) =>
       olet (fop .quo .f32 x28 x35) fun (x36 : F) =>
       obind2 (i_less_0o_2o1 x36 r20 r22) fun (r37 : List F) (r38 : List F) =>
       need (decide (r37.length = r20.length)) <|
       need (decide (r38.length = r22.length)) <|
       obind (i_allFinite_0o r37) (fun z => osum z (fun y => obind2 (some y) fun (r39 : Bool) (r40 : List F) =>
        need (decide (r40.length = r20.length)) <|
        some (r39, r40)) (fun y => obind3 (some y) fun (r41 : Bool) (r42 : List F) (r43 : List F) =>
        need (decide (r42.length = r20.length)) <|
        some (r41, r43)))) (
       some (false, ([] : List F)))) (
      obind2 (i_ThirdsSolve a0 L15 a2 L18) fun (r44 : Bool) (r45 : List F) =>
      bsel r44 (
       some (false, ([] : List F))) (
       some (false, ([] : List F)))))) (
    some (false, ([] : List F))))) (
  some (false, ([] : List F)))
theorem i_ThirdsRing_ok (a0 : List F) (a1 : List F) (a2 : List F) (a3 : F) (a4 : F) (a5 : List F) (q0 : Bool) (q1 : List F) (h : i_ThirdsRing a0 a1 a2 a3 a4 a5 = some (q0, q1)) : Ev Try.prog 26 [agg [(sFc a0), (sFc a1), (sFc a2)], f32 a3, f32 a4, (sFc a5)] [] (tup [oref 0 0 0 q1.length, b q0]) [⟨0, some (q1.map f32)⟩] := by
 refine yE Try.func26 5 287 0 ([(0, agg [(sFc a0), (sFc a1), (sFc a2)]), (1, f32 a3), (2, f32 a4), (3, (sFc a5))]) [⟨0, none⟩, ⟨0, none⟩, ⟨0, none⟩, ⟨0, none⟩, ⟨0, none⟩] rfl ?_
 unfold i_ThirdsRing at h
 refine zQ<|yd rfl (ptr [(sFc a0), (sFc a1), (sFc a2)]) (TOp.box_s rfl rfl rfl)<|ya rfl nilsl<|ya rfl (b false)<|zN ?_
 refine zQ<|yl rfl (ptr [(sFc a1), (sFc a2)]) (LOp.fap und47 rfl siz26 rfl rfl rfl)<|yl rfl (sFc a1) (y2 agg26)<|yl rfl (i64 (a1.length : Int)) (LOp.len_sl und26 rfl rfl)<|ya rfl (i64 (a1.length : Int))<|zN ?_
 refine yS<|yS ?_
 obtain ⟨r1, hf1, h⟩ := oS h
 rcases oB h with ⟨hc2, h⟩ | ⟨hc2, h⟩
 ·rcases oB h with ⟨hc3, h⟩ | ⟨hc3, h⟩
  ·refine yW<|yl rfl (agg [(sFc a0), (sFc a1), (sFc a2)]) (yL agg47 siz47)<|ym rfl (sFc a5)<|yd rfl (b true) (TOp.eqb (TOp.callB (CallAs.func ent81 rfl rfl) (Bors.cons (Bor.agg (bS (bS (bS bN)))) (bS bN)) rfl rfl (i_Thirds_takes_ok a0 a1 a2 a5 r1 hf1)) hc2)<|yl rfl (b false) y1<|ym rfl (b false)<|ym rfl (i64 (a1.length : Int))<|yl rfl (b true) (LOp.eqb (LOp.lss rfl rfl rfl) hc3)<|yl rfl (b true) yp<|ym rfl (b true)<|ROps.s rfl rfl rfl<|ROps.s rfl rfl rfl<|ROps.s rfl rfl rfl<|ROps.s rfl rfl rfl<|ROps.s rfl rfl rfl<|yl rfl (b true) yq<|ym rfl (b true)<|ROps.s rfl rfl rfl<|ROps.s rfl rfl rfl<|ROps.s rfl rfl rfl<|ROps.s rfl rfl rfl<|ROps.s rfl rfl rfl<|yl rfl (b true) yq<|zN ?_
   refine RunC.wl (τ' := [(1, f32 a3), (2, f32 a4), (3, (sFc a5)), (4, ptr [(sFc a0), (sFc a1), (sFc a2)]), (10, i64 (a1.length : Int)), (44, b true)]) (Γ' := [⟨0, none⟩, ⟨0, none⟩, ⟨0, none⟩, ⟨0, none⟩, ⟨0, none⟩]) ⟨aR, aR, aR, aR, aR, aR, trivial⟩ ⟨⟨rfl, .inr rfl⟩, ⟨rfl, .inr rfl⟩, ⟨rfl, .inr rfl⟩, ⟨rfl, .inr rfl⟩, ⟨rfl, .inr rfl⟩, trivial⟩<|yT<|zQ<|ya rfl nilsl<|ya rfl (b false)<|zN ?_
   refine RunC.nil_slot (Γ' := [⟨1, some (([] : List F).map f32)⟩, ⟨0, none⟩, ⟨0, none⟩, ⟨0, none⟩, ⟨0, none⟩]) 8 0 rfl rfl rfl<|RunC.ret ?_
   have hq := oI h
   obtain ⟨hq0, hq⟩ := Prod.mk.inj hq
   subst q0
   subst q1
   exact yB (tup [oref 0 1 0 (([] : List F).length), b false]) [(0, 1)] (Res.eq (Res.two rfl (RV.tmp rfl) (RV.tmp rfl)) (by first | rfl | (rw [(show ([] : List F).length = 0 from rfl)] <;> rfl))) (SelL.arr0 (f := f32) (fun _ => rfl) rfl trivial)
  ·obtain ⟨r2, hf4, h⟩ := oS h
   rcases oB h with ⟨hc5, h⟩ | ⟨hc5, h⟩
   ·obtain ⟨e3, he6, h⟩ := oS h
    rcases oB h with ⟨hc7, h⟩ | ⟨hc7, h⟩
    ·refine yW<|yl rfl (agg [(sFc a0), (sFc a1), (sFc a2)]) (yL agg47 siz47)<|ym rfl (sFc a5)<|yd rfl (b true) (TOp.eqb (TOp.callB (CallAs.func ent81 rfl rfl) (Bors.cons (Bor.agg (bS (bS (bS bN)))) (bS bN)) rfl rfl (i_Thirds_takes_ok a0 a1 a2 a5 r1 hf1)) hc2)<|yl rfl (b false) y1<|ym rfl (b false)<|ym rfl (i64 (a1.length : Int))<|yl rfl (b false) (LOp.eqb (LOp.lss rfl rfl rfl) hc3)<|yl rfl (b false) yp<|ym rfl (b false)<|ym rfl (f32 a3)<|ym rfl (f32 a4)<|ye rfl (oref 0 1 0 2) ([⟨1, some (([a3, a4] : List F).map f32)⟩, ⟨0, none⟩, ⟨0, none⟩, ⟨0, none⟩, ⟨0, none⟩]) (TOp.buildSlice_o (g := ⟨0, none⟩) (za := f32 (some 0)) (qs := [(0, [f32 a3]), (1, [f32 a4])]) 0 rfl und26 siz28 zer28 rfl zel28 rfl rfl ⟨rfl, ⟨_, ALe.refl _, rfl⟩, ⟨rfl, ⟨_, ALe.refl _, rfl⟩, trivial⟩⟩ rfl)<|yd rfl (b true) (TOp.eqb (yc ent74 rfl rfl (Bors.cons (Bor.own (f := f32) (n := 2) (l := ([a3, a4] : List F)) (fun _ => rfl) rfl rfl) bN) (i_areFinite_ok ([a3, a4] : List F) r2 hf4)) hc5)<|yl rfl (b false) y1<|yl rfl (b false) yp<|ym rfl (b false)<|yl rfl (ptr [(sFc a1), (sFc a2)]) (LOp.fap und47 rfl siz26 rfl rfl rfl)<|yl rfl (sFc a1) (y2 agg26)<|yl rfl (ptr [f32 e3]) (LOp.le (LOp.ix (f := f32) und26 siz28 rfl rfl rfl rfl he6) ALe.ptr)<|yl rfl (f32 e3) (y2 agg28)<|yl rfl (b true) (LOp.eqb (LOp.feq rfl (OpF.tmp rfl) (OpF.const rfl (by kernel_rfl) (by kernel_rfl))) hc7)<|yl rfl (b true) yp<|zN ?_
     refine RunC.wl (τ' := [(1, f32 a3), (2, f32 a4), (3, (sFc a5)), (4, ptr [(sFc a0), (sFc a1), (sFc a2)]), (10, i64 (a1.length : Int)), (44, b true)]) (Γ' := [⟨1, none⟩, ⟨0, none⟩, ⟨0, none⟩, ⟨0, none⟩, ⟨0, none⟩]) ⟨aR, aR, aR, aR, aR, aR, trivial⟩ ⟨⟨rfl, .inl rfl⟩, ⟨rfl, .inr rfl⟩, ⟨rfl, .inr rfl⟩, ⟨rfl, .inr rfl⟩, ⟨rfl, .inr rfl⟩, trivial⟩<|yT<|zQ<|ya rfl nilsl<|ya rfl (b false)<|zN ?_
     refine RunC.nil_slot (Γ' := [⟨2, some (([] : List F).map f32)⟩, ⟨0, none⟩, ⟨0, none⟩, ⟨0, none⟩, ⟨0, none⟩]) 8 0 rfl rfl rfl<|RunC.ret ?_
     have hq := oI h
     obtain ⟨hq0, hq⟩ := Prod.mk.inj hq
     subst q0
     subst q1
     exact yB (tup [oref 0 2 0 (([] : List F).length), b false]) [(0, 2)] (Res.eq (Res.two rfl (RV.tmp rfl) (RV.tmp rfl)) (by first | rfl | (rw [(show ([] : List F).length = 0 from rfl)] <;> rfl))) (SelL.arr0 (f := f32) (fun _ => rfl) rfl trivial)
    ·refine yW<|yl rfl (agg [(sFc a0), (sFc a1), (sFc a2)]) (yL agg47 siz47)<|ym rfl (sFc a5)<|yd rfl (b true) (TOp.eqb (TOp.callB (CallAs.func ent81 rfl rfl) (Bors.cons (Bor.agg (bS (bS (bS bN)))) (bS bN)) rfl rfl (i_Thirds_takes_ok a0 a1 a2 a5 r1 hf1)) hc2)<|yl rfl (b false) y1<|ym rfl (b false)<|ym rfl (i64 (a1.length : Int))<|yl rfl (b false) (LOp.eqb (LOp.lss rfl rfl rfl) hc3)<|yl rfl (b false) yp<|ym rfl (b false)<|ym rfl (f32 a3)<|ym rfl (f32 a4)<|ye rfl (oref 0 1 0 2) ([⟨1, some (([a3, a4] : List F).map f32)⟩, ⟨0, none⟩, ⟨0, none⟩, ⟨0, none⟩, ⟨0, none⟩]) (TOp.buildSlice_o (g := ⟨0, none⟩) (za := f32 (some 0)) (qs := [(0, [f32 a3]), (1, [f32 a4])]) 0 rfl und26 siz28 zer28 rfl zel28 rfl rfl ⟨rfl, ⟨_, ALe.refl _, rfl⟩, ⟨rfl, ⟨_, ALe.refl _, rfl⟩, trivial⟩⟩ rfl)<|yd rfl (b true) (TOp.eqb (yc ent74 rfl rfl (Bors.cons (Bor.own (f := f32) (n := 2) (l := ([a3, a4] : List F)) (fun _ => rfl) rfl rfl) bN) (i_areFinite_ok ([a3, a4] : List F) r2 hf4)) hc5)<|yl rfl (b false) y1<|yl rfl (b false) yp<|ym rfl (b false)<|yl rfl (ptr [(sFc a1), (sFc a2)]) (LOp.fap und47 rfl siz26 rfl rfl rfl)<|yl rfl (sFc a1) (y2 agg26)<|yl rfl (ptr [f32 e3]) (LOp.le (LOp.ix (f := f32) und26 siz28 rfl rfl rfl rfl he6) ALe.ptr)<|yl rfl (f32 e3) (y2 agg28)<|yl rfl (b false) (LOp.eqb (LOp.feq rfl (OpF.tmp rfl) (OpF.const rfl (by kernel_rfl) (by kernel_rfl))) hc7)<|yl rfl (b false) yp<|zN ?_
     refine RunC.wl (τ' := [(1, f32 a3), (2, f32 a4), (3, (sFc a5)), (4, ptr [(sFc a0), (sFc a1), (sFc a2)]), (10, i64 (a1.length : Int)), (44, b false)]) (Γ' := [⟨1, none⟩, ⟨0, none⟩, ⟨0, none⟩, ⟨0, none⟩, ⟨0, none⟩]) ⟨aR, aR, aR, aR, aR, aR, trivial⟩ ⟨⟨rfl, .inl rfl⟩, ⟨rfl, .inr rfl⟩, ⟨rfl, .inr rfl⟩, ⟨rfl, .inr rfl⟩, ⟨rfl, .inr rfl⟩, trivial⟩<|yF<|RunC.skip<|yS ?_
     obtain ⟨e4, he8, h⟩ := oS h
     obtain ⟨x5, hx9, h⟩ := oL h
     refine yW<|yl rfl (ptr [(sFc a1), (sFc a2)]) (LOp.fap und47 rfl siz26 rfl rfl rfl)<|yl rfl (sFc a1) (y2 agg26)<|yl rfl (ptr [f32 e4]) (LOp.le (LOp.ix (f := f32) und26 siz28 rfl rfl rfl rfl he8) ALe.ptr)<|yl rfl (f32 e4) (y2 agg28)<|yl rfl (f32 x5) (LOp.eqr (LOp.fneg rfl (OpF.tmp rfl)) (congrArg (f .f32) hx9))<|ya rfl (f32 x5)<|zN ?_
     refine yS ?_
     obtain ⟨r6, hf10, h⟩ := oS h
     refine RunC.region_draw (Γ' := [⟨2, some (r6.map f32)⟩, ⟨1, some [nilsl, nilsl, nilsl]⟩, ⟨0, none⟩, ⟨0, none⟩, ⟨0, none⟩]) 9 mixed 
      (tl rfl (ptr [(sFc a0), (sFc a1), (sFc a2)]) (LOp.fap und47 rfl siz26 rfl rfl rfl) <|
      (tl rfl (sFc a0) (y2 agg26) <|
      (tl rfl (ptr [(sFc a1), (sFc a2)]) (LOp.fap und47 rfl siz26 rfl rfl rfl) <|
      (tl rfl (sFc a1) (y2 agg26) <|
      (TR.d (r := oref 0 2 0 r6.length) (fs := [(0, (r6.map f32))]) rfl rfl (TOp.callBN (ls := [(r6.map f32)]) [0] (CallAs.func ent82 rfl rfl) (bS bN) rfl (x_slices_Clone_float32_float32_ok a1 r6 hf10) (and_all (lts0_map (f := f32) (fun _ => rfl) _) rfl) (and_all (noss_map (f := f32) (fun _ => rfl) _) rfl) rfl (by decide) (ns_of ⟨⟨_, rfl⟩, trivial⟩)) <|
      (tl rfl (ptr [(sFc a2)]) (LOp.fap und47 rfl siz26 rfl rfl rfl) <|
      (tl rfl (sFc a2) (y2 agg26) <|
      (tl rfl (agg [(sFc a0), oref 0 2 0 r6.length, (sFc a2)]) (LOp.build (qs := [(0, [(sFc a0)]), (1, [oref 0 2 0 r6.length]), (2, [(sFc a2)])]) zer47 zok47 und47 plc47 rfl ⟨rfl, ⟨_, ALe.refl _, rfl⟩, ⟨rfl, ⟨_, ALe.refl _, rfl⟩, ⟨rfl, ⟨_, ALe.refl _, rfl⟩, trivial⟩⟩⟩ rfl) <|
      (TR.d (r := optr 1 1 0) (fs := [(1, [nilsl, nilsl, nilsl])]) rfl rfl (TOp.alloc_o (g := ⟨0, none⟩) 1 rfl zer47 zok47 rfl) <|
      TR.nil))))))))) rfl (by kernel_rfl) rfl (fills_of (by show List.Nodup [0, 1]; decide) ⟨⟨_, rfl⟩, ⟨_, rfl⟩, trivial⟩) rfl ?_
     iterate 9 refine ROps.dropS ?_
     refine ROps.drop0<|ys (agg [(sFc a0), oref 0 2 0 r6.length, (sFc a2)]) [(sFc a0), oref 0 2 0 r6.length, (sFc a2)] ([⟨2, some (r6.map f32)⟩, ⟨1, some [(sFc a0), oref 0 2 0 r6.length, (sFc a2)]⟩, ⟨0, none⟩, ⟨0, none⟩, ⟨0, none⟩]) siz47<|zN ?_
     refine RunC.wl (τ' := [(1, f32 a3), (2, f32 a4), (3, (sFc a5)), (10, i64 (a1.length : Int)), (11, f32 x5), (12, optr 1 1 0)]) (Γ' := [⟨2, some (r6.map f32)⟩, ⟨1, some [(sFc a0), oref 0 2 0 r6.length, (sFc a2)]⟩, ⟨0, none⟩, ⟨0, none⟩, ⟨0, none⟩]) ⟨aR, aR, aR, aR, aR, aR, trivial⟩ ⟨⟨rfl, .inr rfl⟩, ⟨rfl, .inr rfl⟩, ⟨rfl, .inr rfl⟩, ⟨rfl, .inr rfl⟩, ⟨rfl, .inr rfl⟩, trivial⟩<|yS ?_
     obtain ⟨e7, he11, h⟩ := oS h
     obtain ⟨x8, hx12, h⟩ := oL h
     obtain ⟨L9, he13, h⟩ := oS h
     refine yW<|yl rfl (optr 1 1 1) (LOp.fao und47 rfl siz26 rfl rfl rfl)<|yd rfl (oref 0 2 0 r6.length) (TOp.load1_o rfl rfl agg26 rfl rfl)<|yd rfl (optr 0 2 ((0 : Int).toNat)) (TOp.ixo und26 siz28 rfl rfl rfl (at_in he11 rfl) rfl)<|yd rfl (f32 e7) (TOp.load1_o rfl (at_cell he11) agg28 rfl rfl)<|ym rfl (f32 x5)<|yd rfl (f32 x8) (TOp.eqr (TOp.fop (.inr (.inl rfl)) rfl (OpF.tmp rfl) (OpF.tmp rfl)) (congrArg (f .f32) hx12))<|yd rfl (optr 0 2 ((0 : Int).toNat)) (TOp.ixo und26 siz28 rfl rfl rfl (set_in he13 rfl) rfl)<|ROps.st (f := f32) (i := 0) (Γ' := [⟨2, some (L9.map f32)⟩, ⟨1, some [(sFc a0), oref 0 2 0 r6.length, (sFc a2)]⟩, ⟨0, none⟩, ⟨0, none⟩, ⟨0, none⟩]) rfl siz28 rfl rfl rfl aR rfl rfl rfl he13 rfl<|zN ?_
     refine yS ?_
     obtain ⟨x10, hx14, h⟩ := oL h
     obtain ⟨e11, he15, h⟩ := oS h
     obtain ⟨r12, hf16, h⟩ := oS h
     obtain ⟨x13, hx17, h⟩ := oL h
     obtain ⟨x14, hx18, h⟩ := oL h
     obtain ⟨L15, he19, h⟩ := oS h
     refine RunC.region_draw (Γ' := [⟨2, some (L9.map f32)⟩, ⟨1, some [(sFc a0), oref 0 2 0 r6.length, (sFc a2)]⟩, ⟨0, none⟩, ⟨0, none⟩, ⟨0, none⟩]) 13 mixed 
      (tl rfl (optr 1 1 1) (LOp.fao und47 rfl siz26 rfl rfl rfl) <|
      (TR.d (r := oref 0 2 0 r6.length) (fs := []) rfl rfl (TOp.load1_o rfl rfl agg26 rfl rfl) <|
      (tm rfl (i64 (a1.length : Int)) <|
      (tl rfl (i64 x10) (LOp.eqr (LOp.sub rfl rfl rfl) (congrArg (ik .i64) hx14)) <|
      (TR.d (r := optr 0 2 x10.toNat) (fs := []) rfl rfl (TOp.ixo und26 siz28 rfl rfl rfl (at_in he15 (setAt?_len he13)) rfl) <|
      (TR.d (r := f32 e11) (fs := []) rfl rfl (TOp.load1_o rfl (at_cell he15) agg28 rfl rfl) <|
      (tm rfl (f32 a3) <|
      (tm rfl (f32 a4) <|
      (TR.d (r := f32 r12) (fs := []) rfl rfl (yc ent76 rfl rfl (bP bN0) (i_mul_ok a3 a4 r12 hf16)) <|
      (tm rfl (f32 x5) <|
      (TR.d (r := f32 x13) (fs := []) rfl rfl (TOp.eqr (TOp.fop (.inr (.inr (.inr rfl))) rfl (OpF.tmp rfl) (OpF.tmp rfl)) (congrArg (f .f32) hx17)) <|
      (TR.d (r := f32 x14) (fs := []) rfl rfl (TOp.eqr (TOp.fop (.inr (.inl rfl)) rfl (OpF.tmp rfl) (OpF.tmp rfl)) (congrArg (f .f32) hx18)) <|
      (TR.d (r := optr 0 2 x10.toNat) (fs := []) rfl rfl (TOp.ixo und26 siz28 rfl rfl rfl (set_in he19 (setAt?_len he13)) rfl) <|
      TR.nil))))))))))))) rfl (by kernel_rfl) rfl fills_nil rfl ?_
     iterate 13 refine ROps.dropS ?_
     refine ROps.drop0<|ROps.st (f := f32) (i := x10) (Γ' := [⟨2, some (L15.map f32)⟩, ⟨1, some [(sFc a0), oref 0 2 0 r6.length, (sFc a2)]⟩, ⟨0, none⟩, ⟨0, none⟩, ⟨0, none⟩]) rfl siz28 rfl rfl rfl aR rfl rfl rfl he19 rfl<|zN ?_
     refine RunC.wl (τ' := [(1, f32 a3), (2, f32 a4), (3, (sFc a5)), (10, i64 (a1.length : Int)), (11, f32 x5), (12, optr 1 1 0)]) (Γ' := [⟨2, some (L15.map f32)⟩, ⟨1, some [(sFc a0), oref 0 2 0 r6.length, (sFc a2)]⟩, ⟨0, none⟩, ⟨0, none⟩, ⟨0, none⟩]) ⟨aR, aR, aR, aR, aR, aR, trivial⟩ ⟨⟨rfl, .inr rfl⟩, ⟨rfl, .inr rfl⟩, ⟨rfl, .inr rfl⟩, ⟨rfl, .inr rfl⟩, ⟨rfl, .inr rfl⟩, trivial⟩<|yS ?_
     obtain ⟨hm20, h⟩ := need_some h
     refine yW<|ym rfl (i64 (a1.length : Int))<|ye rfl (oref 2 1 0 ((a1.length : Int).toNat)) ([⟨2, some (L15.map f32)⟩, ⟨1, some [(sFc a0), oref 0 2 0 r6.length, (sFc a2)]⟩, ⟨1, some ((List.replicate (a1.length : Int).toNat (some 0)).map f32)⟩, ⟨0, none⟩, ⟨0, none⟩]) (TOp.mkS (g := ⟨0, none⟩) (t := 26) (e := 28) (by_ := 4) (f := f32) (zv := some 0) 2 rfl und26 tin28 rfl siz28 zer28 rfl zel28 rfl rfl rfl hm20)<|ya rfl (oref 2 1 0 ((a1.length : Int).toNat))<|zN ?_
     refine yS ?_
     obtain ⟨x16, hx21, h⟩ := oL h
     obtain ⟨L17, he22, h⟩ := oS h
     obtain ⟨L18, he23, h⟩ := oS h
     refine yW<|ym rfl (oref 2 1 0 ((a1.length : Int).toNat))<|ym rfl (oref 2 1 0 ((a1.length : Int).toNat))<|ym rfl (i64 (a1.length : Int))<|yl rfl (i64 x16) (LOp.eqr (LOp.sub rfl rfl rfl) (congrArg (ik .i64) hx21))<|ym rfl (f32 x5)<|ym rfl (f32 a4)<|yd rfl (optr 2 1 ((0 : Int).toNat)) (TOp.ixo und26 siz28 rfl rfl rfl (set_in he22 List.length_replicate) rfl)<|ROps.st (f := f32) (i := 0) (Γ' := [⟨2, some (L15.map f32)⟩, ⟨1, some [(sFc a0), oref 0 2 0 r6.length, (sFc a2)]⟩, ⟨1, some (L17.map f32)⟩, ⟨0, none⟩, ⟨0, none⟩]) rfl siz28 rfl rfl rfl aR rfl rfl rfl he22 rfl<|yd rfl (optr 2 1 x16.toNat) (TOp.ixo und26 siz28 rfl rfl rfl (set_in he23 ((setAt?_len he22).trans List.length_replicate)) rfl)<|ROps.st (f := f32) (i := x16) (Γ' := [⟨2, some (L15.map f32)⟩, ⟨1, some [(sFc a0), oref 0 2 0 r6.length, (sFc a2)]⟩, ⟨1, some (L18.map f32)⟩, ⟨0, none⟩, ⟨0, none⟩]) rfl siz28 rfl rfl rfl aR rfl rfl rfl he23 rfl<|zN ?_
     refine yS ?_
     obtain ⟨r19, r20, hf24, h⟩ := obind2_some h
     rcases oB h with ⟨hc25, h⟩ | ⟨hc25, h⟩
     ·refine yW<|yd rfl (agg [(sFc a0), oref 0 2 0 r6.length, (sFc a2)]) (TOp.loadAgg_o rfl agg47 siz47 rfl rfl rfl rfl)<|ym rfl (sFc a5)<|ye rfl (tup [oref 3 1 0 r20.length, b r19]) ([⟨2, some (L15.map f32)⟩, ⟨1, some [(sFc a0), oref 0 2 0 r6.length, (sFc a2)]⟩, ⟨1, some (L18.map f32)⟩, ⟨1, some (r20.map f32)⟩, ⟨0, none⟩]) (TOp.callBN (ls := [(r20.map f32)]) [3] (CallAs.func ent24 rfl rfl) (Bors.cons (Bor.agg (bS (Bors.cons (Bor.own (f := f32) (fun _ => rfl) rfl ((setAt?_len he19).trans (setAt?_len he13))) (bS bN)))) (bS bN)) rfl (i_ThirdsSolve_ok a0 L15 a2 a5 r19 r20 hf24) (and_all (lts0_map (f := f32) (fun _ => rfl) _) rfl) (and_all (noss_map (f := f32) (fun _ => rfl) _) rfl) rfl (by decide) (ns_of ⟨⟨_, rfl⟩, trivial⟩))<|ym rfl (tup [oref 3 1 0 r20.length, b r19])<|yl rfl (oref 3 1 0 r20.length) y3<|yl rfl (b true) (LOp.eqb y3 hc25)<|ya rfl (oref 3 1 0 r20.length)<|ya rfl (b true)<|zN ?_
      refine RunC.wl (τ' := [(1, f32 a3), (10, i64 (a1.length : Int)), (11, f32 x5), (12, optr 1 1 0), (13, oref 2 1 0 ((a1.length : Int).toNat)), (14, oref 3 1 0 r20.length), (15, b true)]) (Γ' := [⟨2, some (L15.map f32)⟩, ⟨1, some [(sFc a0), oref 0 2 0 r6.length, (sFc a2)]⟩, ⟨1, some (L18.map f32)⟩, ⟨1, some (r20.map f32)⟩, ⟨0, none⟩]) ⟨aR, aR, aR, aR, aR, aR, aR, trivial⟩ ⟨⟨rfl, .inr rfl⟩, ⟨rfl, .inr rfl⟩, ⟨rfl, .inr rfl⟩, ⟨rfl, .inr rfl⟩, ⟨rfl, .inr rfl⟩, trivial⟩<|yS ?_
      obtain ⟨r21, r22, hf26, h⟩ := obind2_some h
      rcases oB h with ⟨hc27, h⟩ | ⟨hc27, h⟩
      ·refine yW<|yd rfl (agg [(sFc a0), oref 0 2 0 r6.length, (sFc a2)]) (TOp.loadAgg_o rfl agg47 siz47 rfl rfl rfl rfl)<|ym rfl (oref 2 1 0 ((a1.length : Int).toNat))<|ye rfl (tup [oref 4 1 0 r22.length, b r21]) ([⟨2, some (L15.map f32)⟩, ⟨1, some [(sFc a0), oref 0 2 0 r6.length, (sFc a2)]⟩, ⟨1, some (L18.map f32)⟩, ⟨1, some (r20.map f32)⟩, ⟨1, some (r22.map f32)⟩]) (TOp.callBN (ls := [(r22.map f32)]) [4] (CallAs.func ent24 rfl rfl) (Bors.cons (Bor.agg (bS (Bors.cons (Bor.own (f := f32) (fun _ => rfl) rfl ((setAt?_len he19).trans (setAt?_len he13))) (bS bN)))) (Bors.cons (Bor.own (f := f32) (fun _ => rfl) rfl ((setAt?_len he23).trans ((setAt?_len he22).trans List.length_replicate))) bN)) rfl (i_ThirdsSolve_ok a0 L15 a2 L18 r21 r22 hf26) (and_all (lts0_map (f := f32) (fun _ => rfl) _) rfl) (and_all (noss_map (f := f32) (fun _ => rfl) _) rfl) rfl (by decide) (ns_of ⟨⟨_, rfl⟩, trivial⟩))<|ym rfl (tup [oref 4 1 0 r22.length, b r21])<|yl rfl (oref 4 1 0 r22.length) y3<|yl rfl (b true) (LOp.eqb y3 hc27)<|ya rfl (oref 4 1 0 r22.length)<|ya rfl (b true)<|zN ?_
       refine RunC.wl (τ' := [(1, f32 a3), (10, i64 (a1.length : Int)), (11, f32 x5), (14, oref 3 1 0 r20.length), (15, b true), (16, oref 4 1 0 r22.length), (17, b true)]) (Γ' := [⟨2, none⟩, ⟨1, none⟩, ⟨1, none⟩, ⟨1, some (r20.map f32)⟩, ⟨1, some (r22.map f32)⟩]) ⟨aR, aR, aR, aR, aR, aR, aR, trivial⟩ ⟨⟨rfl, .inl rfl⟩, ⟨rfl, .inl rfl⟩, ⟨rfl, .inl rfl⟩, ⟨rfl, .inr rfl⟩, ⟨rfl, .inr rfl⟩, trivial⟩<|yS<|zQ<|ym rfl (b true)<|yl rfl (b false) y1<|ym rfl (b false)<|ym rfl (b true)<|yl rfl (b false) y1<|yl rfl (b false) yp<|zN ?_
       refine yF<|RunC.skip<|yS ?_
       obtain ⟨e23, he28, h⟩ := oS h
       obtain ⟨x24, hx29, h⟩ := oL h
       obtain ⟨e25, he30, h⟩ := oS h
       obtain ⟨r26, hf31, h⟩ := oS h
       obtain ⟨x27, hx32, h⟩ := oL h
       obtain ⟨x28, hx33, h⟩ := oL h
       refine RunC.region_draw (Γ' := [⟨2, none⟩, ⟨1, none⟩, ⟨1, none⟩, ⟨1, some (r20.map f32)⟩, ⟨1, some (r22.map f32)⟩]) 14 mixed 
        (tm rfl (oref 3 1 0 r20.length) <|
        (TR.d (r := optr 3 1 ((0 : Int).toNat)) (fs := []) rfl rfl (TOp.ixo und26 siz28 rfl rfl rfl (at_in he28 rfl) rfl) <|
        (TR.d (r := f32 e23) (fs := []) rfl rfl (TOp.load1_o rfl (at_cell he28) agg28 rfl rfl) <|
        (tm rfl (f32 a3) <|
        (tm rfl (oref 3 1 0 r20.length) <|
        (tm rfl (i64 (a1.length : Int)) <|
        (tl rfl (i64 x24) (LOp.eqr (LOp.sub rfl rfl rfl) (congrArg (ik .i64) hx29)) <|
        (TR.d (r := optr 3 1 x24.toNat) (fs := []) rfl rfl (TOp.ixo und26 siz28 rfl rfl rfl (at_in he30 rfl) rfl) <|
        (TR.d (r := f32 e25) (fs := []) rfl rfl (TOp.load1_o rfl (at_cell he30) agg28 rfl rfl) <|
        (TR.d (r := f32 r26) (fs := []) rfl rfl (yc ent76 rfl rfl (bP bN0) (i_mul_ok a3 e25 r26 hf31)) <|
        (tm rfl (f32 x5) <|
        (TR.d (r := f32 x27) (fs := []) rfl rfl (TOp.eqr (TOp.fop (.inr (.inr (.inr rfl))) rfl (OpF.tmp rfl) (OpF.tmp rfl)) (congrArg (f .f32) hx32)) <|
        (TR.d (r := f32 x28) (fs := []) rfl rfl (TOp.eqr (TOp.fop (.inl rfl) rfl (OpF.tmp rfl) (OpF.tmp rfl)) (congrArg (f .f32) hx33)) <|
        (tl rfl (f32 x28) (LOp.assign rfl rfl) <|
        TR.nil)))))))))))))) rfl (by kernel_rfl) rfl fills_nil rfl ?_
       iterate 14 refine ROps.dropS ?_
       refine ROps.drop0<|zN ?_
       refine RunC.wl (τ' := [(1, f32 a3), (10, i64 (a1.length : Int)), (11, f32 x5), (14, oref 3 1 0 r20.length), (16, oref 4 1 0 r22.length), (18, f32 x28)]) (Γ' := [⟨2, none⟩, ⟨1, none⟩, ⟨1, none⟩, ⟨1, some (r20.map f32)⟩, ⟨1, some (r22.map f32)⟩]) ⟨aR, aR, aR, aR, aR, aR, trivial⟩ ⟨⟨rfl, .inl rfl⟩, ⟨rfl, .inl rfl⟩, ⟨rfl, .inl rfl⟩, ⟨rfl, .inr rfl⟩, ⟨rfl, .inr rfl⟩, trivial⟩<|yS ?_
       obtain ⟨e29, he34, h⟩ := oS h
       obtain ⟨x30, hx35, h⟩ := oL h
       obtain ⟨x31, hx36, h⟩ := oL h
       obtain ⟨e32, he37, h⟩ := oS h
       obtain ⟨r33, hf38, h⟩ := oS h
       obtain ⟨x34, hx39, h⟩ := oL h
       obtain ⟨x35, hx40, h⟩ := oL h
       refine RunC.region_draw (Γ' := [⟨2, none⟩, ⟨1, none⟩, ⟨1, none⟩, ⟨1, some (r20.map f32)⟩, ⟨1, some (r22.map f32)⟩]) 15 mixed 
        (tm rfl (oref 4 1 0 r22.length) <|
        (TR.d (r := optr 4 1 ((0 : Int).toNat)) (fs := []) rfl rfl (TOp.ixo und26 siz28 rfl rfl rfl (at_in he34 rfl) rfl) <|
        (TR.d (r := f32 e29) (fs := []) rfl rfl (TOp.load1_o rfl (at_cell he34) agg28 rfl rfl) <|
        (TR.d (r := f32 x30) (fs := []) rfl rfl (TOp.eqr (TOp.fop (.inl rfl) rfl (OpF.const rfl (by kernel_rfl) (by kernel_rfl)) (OpF.tmp rfl)) (congrArg (f .f32) hx35)) <|
        (tm rfl (f32 a3) <|
        (tm rfl (oref 4 1 0 r22.length) <|
        (tm rfl (i64 (a1.length : Int)) <|
        (tl rfl (i64 x31) (LOp.eqr (LOp.sub rfl rfl rfl) (congrArg (ik .i64) hx36)) <|
        (TR.d (r := optr 4 1 x31.toNat) (fs := []) rfl rfl (TOp.ixo und26 siz28 rfl rfl rfl (at_in he37 rfl) rfl) <|
        (TR.d (r := f32 e32) (fs := []) rfl rfl (TOp.load1_o rfl (at_cell he37) agg28 rfl rfl) <|
        (TR.d (r := f32 r33) (fs := []) rfl rfl (yc ent76 rfl rfl (bP bN0) (i_mul_ok a3 e32 r33 hf38)) <|
        (tm rfl (f32 x5) <|
        (TR.d (r := f32 x34) (fs := []) rfl rfl (TOp.eqr (TOp.fop (.inr (.inr (.inr rfl))) rfl (OpF.tmp rfl) (OpF.tmp rfl)) (congrArg (f .f32) hx39)) <|
        (TR.d (r := f32 x35) (fs := []) rfl rfl (TOp.eqr (TOp.fop (.inl rfl) rfl (OpF.tmp rfl) (OpF.tmp rfl)) (congrArg (f .f32) hx40)) <|
        (tl rfl (f32 x35) (LOp.assign rfl rfl) <|
        TR.nil))))))))))))))) rfl (by kernel_rfl) rfl fills_nil rfl ?_
       iterate 15 refine ROps.dropS ?_
       refine ROps.drop0<|zN ?_
       refine RunC.wl (τ' := [(14, oref 3 1 0 r20.length), (16, oref 4 1 0 r22.length), (18, f32 x28), (19, f32 x35)]) (Γ' := [⟨2, none⟩, ⟨1, none⟩, ⟨1, none⟩, ⟨1, some (r20.map f32)⟩, ⟨1, some (r22.map f32)⟩]) ⟨aR, aR, aR, aR, trivial⟩ ⟨⟨rfl, .inl rfl⟩, ⟨rfl, .inl rfl⟩, ⟨rfl, .inl rfl⟩, ⟨rfl, .inr rfl⟩, ⟨rfl, .inr rfl⟩, trivial⟩<|yS ?_
       obtain ⟨x36, hx41, h⟩ := oL h
       obtain ⟨r37, r38, hf42, h⟩ := obind2_some h
       obtain ⟨hn43, h⟩ := need_some h
       obtain ⟨hn44, h⟩ := need_some h
       refine yW<|ym rfl (oref 3 1 0 r20.length)<|ym rfl (f32 x28)<|ym rfl (f32 x35)<|yd rfl (f32 x36) (TOp.eqr (TOp.fop (.inr (.inr (.inr rfl))) rfl (OpF.tmp rfl) (OpF.tmp rfl)) (congrArg (f .f32) hx41))<|ym rfl (oref 4 1 0 r22.length)<|ROps.callO (A := [oref 3 1 0 r20.length, f32 x36, oref 4 1 0 r22.length]) (args := [oref 0 0 0 r20.length, f32 x36, oref 1 0 0 r22.length]) (Γc := [⟨0, some (r20.map f32)⟩, ⟨0, some (r22.map f32)⟩]) (Γc' := [⟨0, some (r37.map f32)⟩, ⟨0, some (r38.map f32)⟩]) (r' := tup []) (Γ' := [⟨2, none⟩, ⟨1, none⟩, ⟨1, none⟩, ⟨1, some (r37.map f32)⟩, ⟨1, some (r38.map f32)⟩]) [(3, 1), (4, 1)] [] rfl (CallAs.func ent84 rfl rfl) rfl rfl (SelOk.of (show List.Nodup [3, 4] from by decide) (SelL.arr0 (f := f32) (fun _ => rfl) rfl (SelL.arr0 (f := f32) (fun _ => rfl) rfl trivial))) (live_of ⟨⟨_, _, rfl⟩, ⟨_, _, rfl⟩, trivial⟩) (by simp [ren, rens, sigma, rens_f32, rens_f64, rens_i64, rens_ik, rens_str, rens_cp]) rfl (i_less_0o_2o1_ok x36 r20 r22 r37 r38 hf42) rfl (news_of trivial) (show List.Nodup [3, 4] from by decide) (by simp [ren, rens, sigma, of_decide_eq_true hn43, of_decide_eq_true hn44]) (by simp [backOb, sigma, ren, rens, rens_f32, rens_f64, rens_i64, rens_ik, rens_str, rens_cp] <;> omega)<|zN ?_
       refine RunC.wl (τ' := [(14, oref 3 1 0 r20.length)]) (Γ' := [⟨2, none⟩, ⟨1, none⟩, ⟨1, none⟩, ⟨1, some (r37.map f32)⟩, ⟨1, none⟩]) ⟨aR, trivial⟩ ⟨⟨rfl, .inl rfl⟩, ⟨rfl, .inl rfl⟩, ⟨rfl, .inl rfl⟩, ⟨rfl, .inr rfl⟩, ⟨rfl, .inl rfl⟩, trivial⟩<|yS ?_
       obtain ⟨z1, hf45, h⟩ := oS h
       rcases z1 with z1 | z1
       ·replace h := (osum_inl _ _ _).symm.trans h
        obtain ⟨r39, r40, hz2, h⟩ := obind2_some h
        cases hz2
        obtain ⟨hn46, h⟩ := need_some h
        refine yW<|ym rfl (oref 3 1 0 r20.length)<|ROps.callO (A := [oref 3 1 0 r20.length]) (args := [oref 0 0 0 r37.length]) (Γc := [⟨0, some (r37.map f32)⟩]) (Γc' := [⟨0, some (r40.map f32)⟩]) (r' := tup [oref 3 1 0 r20.length, b r39]) (Γ' := [⟨2, none⟩, ⟨1, none⟩, ⟨1, none⟩, ⟨1, some (r40.map f32)⟩, ⟨1, none⟩]) [(3, 1)] [] rfl (CallAs.func ent77 rfl rfl) rfl rfl (SelOk.of (show List.Nodup [3] from by decide) (SelL.arr0 (f := f32) (fun _ => rfl) rfl trivial)) (live_of ⟨⟨_, _, rfl⟩, trivial⟩) (by simp [ren, rens, sigma, rens_f32, rens_f64, rens_i64, rens_ik, rens_str, rens_cp, (of_decide_eq_true hn43)]) rfl (i_allFinite_0o_ok0 r37 r39 r40 hf45) rfl (news_of trivial) (show List.Nodup [3] from by decide) (by simp [ren, rens, sigma, of_decide_eq_true hn46]) (by simp [backOb, sigma, ren, rens, rens_f32, rens_f64, rens_i64, rens_ik, rens_str, rens_cp] <;> omega)<|yl rfl (oref 3 1 0 r20.length) y3<|yl rfl (b r39) y3<|ya rfl (oref 3 1 0 r20.length)<|ya rfl (b r39)<|zN ?_
        refine RunC.ret ?_
        have hq := oI h
        obtain ⟨hq0, hq⟩ := Prod.mk.inj hq
        subst q0
        subst q1
        exact yB (tup [oref 3 1 0 r40.length, b r39]) [(3, 1)] (Res.eq (Res.two rfl (RV.tmp rfl) (RV.tmp rfl)) (by first | rfl | (rw [(show r40.length = r20.length from (of_decide_eq_true hn46))] <;> rfl))) (SelL.arr0 (f := f32) (fun _ => rfl) rfl trivial)
       ·replace h := (osum_inr _ _ _).symm.trans h
        obtain ⟨r41, r42, r43, hz3, h⟩ := obind3_some h
        cases hz3
        obtain ⟨hn47, h⟩ := need_some h
        refine yW<|ym rfl (oref 3 1 0 r20.length)<|ROps.callO (A := [oref 3 1 0 r20.length]) (args := [oref 0 0 0 r37.length]) (Γc := [⟨0, some (r37.map f32)⟩]) (Γc' := [⟨0, some (r42.map f32)⟩, ⟨0, some (r43.map f32)⟩]) (r' := tup [oref 0 3 0 r43.length, b r41]) (Γ' := [⟨3, some (r43.map f32)⟩, ⟨1, none⟩, ⟨1, none⟩, ⟨1, some (r42.map f32)⟩, ⟨1, none⟩]) [(3, 1)] [(0, 3)] rfl (CallAs.func ent77 rfl rfl) rfl rfl (SelOk.of (show List.Nodup [3] from by decide) (SelL.arr0 (f := f32) (fun _ => rfl) rfl trivial)) (live_of ⟨⟨_, _, rfl⟩, trivial⟩) (by simp [ren, rens, sigma, rens_f32, rens_f64, rens_i64, rens_ik, rens_str, rens_cp, (of_decide_eq_true hn43)]) rfl (i_allFinite_0o_ok1 r37 r41 r42 r43 hf45) rfl (news_of ⟨⟨_, rfl, rfl⟩, trivial⟩) (show List.Nodup [3, 0] from by decide) (by simp [ren, rens, sigma, of_decide_eq_true hn47]) (by simp [backOb, sigma, ren, rens, rens_f32, rens_f64, rens_i64, rens_ik, rens_str, rens_cp] <;> omega)<|yl rfl (oref 0 3 0 r43.length) y3<|yl rfl (b r41) y3<|ya rfl (oref 0 3 0 r43.length)<|ya rfl (b r41)<|zN ?_
        refine RunC.ret ?_
        have hq := oI h
        obtain ⟨hq0, hq⟩ := Prod.mk.inj hq
        subst q0
        subst q1
        exact yB (tup [oref 0 3 0 r43.length, b r41]) [(0, 3)] (Res.two rfl (RV.tmp rfl) (RV.tmp rfl)) (SelL.arr0 (f := f32) (fun _ => rfl) rfl trivial)
      ·refine yW<|yd rfl (agg [(sFc a0), oref 0 2 0 r6.length, (sFc a2)]) (TOp.loadAgg_o rfl agg47 siz47 rfl rfl rfl rfl)<|ym rfl (oref 2 1 0 ((a1.length : Int).toNat))<|ye rfl (tup [oref 4 1 0 r22.length, b r21]) ([⟨2, some (L15.map f32)⟩, ⟨1, some [(sFc a0), oref 0 2 0 r6.length, (sFc a2)]⟩, ⟨1, some (L18.map f32)⟩, ⟨1, some (r20.map f32)⟩, ⟨1, some (r22.map f32)⟩]) (TOp.callBN (ls := [(r22.map f32)]) [4] (CallAs.func ent24 rfl rfl) (Bors.cons (Bor.agg (bS (Bors.cons (Bor.own (f := f32) (fun _ => rfl) rfl ((setAt?_len he19).trans (setAt?_len he13))) (bS bN)))) (Bors.cons (Bor.own (f := f32) (fun _ => rfl) rfl ((setAt?_len he23).trans ((setAt?_len he22).trans List.length_replicate))) bN)) rfl (i_ThirdsSolve_ok a0 L15 a2 L18 r21 r22 hf26) (and_all (lts0_map (f := f32) (fun _ => rfl) _) rfl) (and_all (noss_map (f := f32) (fun _ => rfl) _) rfl) rfl (by decide) (ns_of ⟨⟨_, rfl⟩, trivial⟩))<|ym rfl (tup [oref 4 1 0 r22.length, b r21])<|yl rfl (oref 4 1 0 r22.length) y3<|yl rfl (b false) (LOp.eqb y3 hc27)<|ya rfl (oref 4 1 0 r22.length)<|ya rfl (b false)<|zN ?_
       refine RunC.wl (τ' := [(1, f32 a3), (10, i64 (a1.length : Int)), (11, f32 x5), (14, oref 3 1 0 r20.length), (15, b true), (16, oref 4 1 0 r22.length), (17, b false)]) (Γ' := [⟨2, none⟩, ⟨1, none⟩, ⟨1, none⟩, ⟨1, some (r20.map f32)⟩, ⟨1, some (r22.map f32)⟩]) ⟨aR, aR, aR, aR, aR, aR, aR, trivial⟩ ⟨⟨rfl, .inl rfl⟩, ⟨rfl, .inl rfl⟩, ⟨rfl, .inl rfl⟩, ⟨rfl, .inr rfl⟩, ⟨rfl, .inr rfl⟩, trivial⟩<|yS<|zQ<|ym rfl (b true)<|yl rfl (b false) y1<|ym rfl (b false)<|ym rfl (b false)<|yl rfl (b true) y0<|yl rfl (b true) yp<|zN ?_
       refine yT<|zQ<|ya rfl nilsl<|ya rfl (b false)<|zN ?_
       refine RunC.nil_slot (Γ' := [⟨3, some (([] : List F).map f32)⟩, ⟨1, none⟩, ⟨1, none⟩, ⟨1, some (r20.map f32)⟩, ⟨1, some (r22.map f32)⟩]) 8 0 rfl rfl rfl<|RunC.ret ?_
       have hq := oI h
       obtain ⟨hq0, hq⟩ := Prod.mk.inj hq
       subst q0
       subst q1
       exact yB (tup [oref 0 3 0 (([] : List F).length), b false]) [(0, 3)] (Res.eq (Res.two rfl (RV.tmp rfl) (RV.tmp rfl)) (by first | rfl | (rw [(show ([] : List F).length = 0 from rfl)] <;> rfl))) (SelL.arr0 (f := f32) (fun _ => rfl) rfl trivial)
     ·refine yW<|yd rfl (agg [(sFc a0), oref 0 2 0 r6.length, (sFc a2)]) (TOp.loadAgg_o rfl agg47 siz47 rfl rfl rfl rfl)<|ym rfl (sFc a5)<|ye rfl (tup [oref 3 1 0 r20.length, b r19]) ([⟨2, some (L15.map f32)⟩, ⟨1, some [(sFc a0), oref 0 2 0 r6.length, (sFc a2)]⟩, ⟨1, some (L18.map f32)⟩, ⟨1, some (r20.map f32)⟩, ⟨0, none⟩]) (TOp.callBN (ls := [(r20.map f32)]) [3] (CallAs.func ent24 rfl rfl) (Bors.cons (Bor.agg (bS (Bors.cons (Bor.own (f := f32) (fun _ => rfl) rfl ((setAt?_len he19).trans (setAt?_len he13))) (bS bN)))) (bS bN)) rfl (i_ThirdsSolve_ok a0 L15 a2 a5 r19 r20 hf24) (and_all (lts0_map (f := f32) (fun _ => rfl) _) rfl) (and_all (noss_map (f := f32) (fun _ => rfl) _) rfl) rfl (by decide) (ns_of ⟨⟨_, rfl⟩, trivial⟩))<|ym rfl (tup [oref 3 1 0 r20.length, b r19])<|yl rfl (oref 3 1 0 r20.length) y3<|yl rfl (b false) (LOp.eqb y3 hc25)<|ya rfl (oref 3 1 0 r20.length)<|ya rfl (b false)<|zN ?_
      refine RunC.wl (τ' := [(1, f32 a3), (10, i64 (a1.length : Int)), (11, f32 x5), (12, optr 1 1 0), (13, oref 2 1 0 ((a1.length : Int).toNat)), (14, oref 3 1 0 r20.length), (15, b false)]) (Γ' := [⟨2, some (L15.map f32)⟩, ⟨1, some [(sFc a0), oref 0 2 0 r6.length, (sFc a2)]⟩, ⟨1, some (L18.map f32)⟩, ⟨1, some (r20.map f32)⟩, ⟨0, none⟩]) ⟨aR, aR, aR, aR, aR, aR, aR, trivial⟩ ⟨⟨rfl, .inr rfl⟩, ⟨rfl, .inr rfl⟩, ⟨rfl, .inr rfl⟩, ⟨rfl, .inr rfl⟩, ⟨rfl, .inr rfl⟩, trivial⟩<|yS ?_
      obtain ⟨r44, r45, hf48, h⟩ := obind2_some h
      rcases oB h with ⟨hc49, h⟩ | ⟨hc49, h⟩
      ·refine yW<|yd rfl (agg [(sFc a0), oref 0 2 0 r6.length, (sFc a2)]) (TOp.loadAgg_o rfl agg47 siz47 rfl rfl rfl rfl)<|ym rfl (oref 2 1 0 ((a1.length : Int).toNat))<|ye rfl (tup [oref 4 1 0 r45.length, b r44]) ([⟨2, some (L15.map f32)⟩, ⟨1, some [(sFc a0), oref 0 2 0 r6.length, (sFc a2)]⟩, ⟨1, some (L18.map f32)⟩, ⟨1, some (r20.map f32)⟩, ⟨1, some (r45.map f32)⟩]) (TOp.callBN (ls := [(r45.map f32)]) [4] (CallAs.func ent24 rfl rfl) (Bors.cons (Bor.agg (bS (Bors.cons (Bor.own (f := f32) (fun _ => rfl) rfl ((setAt?_len he19).trans (setAt?_len he13))) (bS bN)))) (Bors.cons (Bor.own (f := f32) (fun _ => rfl) rfl ((setAt?_len he23).trans ((setAt?_len he22).trans List.length_replicate))) bN)) rfl (i_ThirdsSolve_ok a0 L15 a2 L18 r44 r45 hf48) (and_all (lts0_map (f := f32) (fun _ => rfl) _) rfl) (and_all (noss_map (f := f32) (fun _ => rfl) _) rfl) rfl (by decide) (ns_of ⟨⟨_, rfl⟩, trivial⟩))<|ym rfl (tup [oref 4 1 0 r45.length, b r44])<|yl rfl (oref 4 1 0 r45.length) y3<|yl rfl (b true) (LOp.eqb y3 hc49)<|ya rfl (oref 4 1 0 r45.length)<|ya rfl (b true)<|zN ?_
       refine RunC.wl (τ' := [(1, f32 a3), (10, i64 (a1.length : Int)), (11, f32 x5), (14, oref 3 1 0 r20.length), (15, b false), (16, oref 4 1 0 r45.length), (17, b true)]) (Γ' := [⟨2, none⟩, ⟨1, none⟩, ⟨1, none⟩, ⟨1, some (r20.map f32)⟩, ⟨1, some (r45.map f32)⟩]) ⟨aR, aR, aR, aR, aR, aR, aR, trivial⟩ ⟨⟨rfl, .inl rfl⟩, ⟨rfl, .inl rfl⟩, ⟨rfl, .inl rfl⟩, ⟨rfl, .inr rfl⟩, ⟨rfl, .inr rfl⟩, trivial⟩<|yS<|zQ<|ym rfl (b false)<|yl rfl (b true) y0<|ym rfl (b true)<|ROps.s rfl rfl rfl<|ROps.s rfl rfl rfl<|yl rfl (b true) yq<|zN ?_
       refine yT<|zQ<|ya rfl nilsl<|ya rfl (b false)<|zN ?_
       refine RunC.nil_slot (Γ' := [⟨3, some (([] : List F).map f32)⟩, ⟨1, none⟩, ⟨1, none⟩, ⟨1, some (r20.map f32)⟩, ⟨1, some (r45.map f32)⟩]) 8 0 rfl rfl rfl<|RunC.ret ?_
       have hq := oI h
       obtain ⟨hq0, hq⟩ := Prod.mk.inj hq
       subst q0
       subst q1
       exact yB (tup [oref 0 3 0 (([] : List F).length), b false]) [(0, 3)] (Res.eq (Res.two rfl (RV.tmp rfl) (RV.tmp rfl)) (by first | rfl | (rw [(show ([] : List F).length = 0 from rfl)] <;> rfl))) (SelL.arr0 (f := f32) (fun _ => rfl) rfl trivial)
      ·refine yW<|yd rfl (agg [(sFc a0), oref 0 2 0 r6.length, (sFc a2)]) (TOp.loadAgg_o rfl agg47 siz47 rfl rfl rfl rfl)<|ym rfl (oref 2 1 0 ((a1.length : Int).toNat))<|ye rfl (tup [oref 4 1 0 r45.length, b r44]) ([⟨2, some (L15.map f32)⟩, ⟨1, some [(sFc a0), oref 0 2 0 r6.length, (sFc a2)]⟩, ⟨1, some (L18.map f32)⟩, ⟨1, some (r20.map f32)⟩, ⟨1, some (r45.map f32)⟩]) (TOp.callBN (ls := [(r45.map f32)]) [4] (CallAs.func ent24 rfl rfl) (Bors.cons (Bor.agg (bS (Bors.cons (Bor.own (f := f32) (fun _ => rfl) rfl ((setAt?_len he19).trans (setAt?_len he13))) (bS bN)))) (Bors.cons (Bor.own (f := f32) (fun _ => rfl) rfl ((setAt?_len he23).trans ((setAt?_len he22).trans List.length_replicate))) bN)) rfl (i_ThirdsSolve_ok a0 L15 a2 L18 r44 r45 hf48) (and_all (lts0_map (f := f32) (fun _ => rfl) _) rfl) (and_all (noss_map (f := f32) (fun _ => rfl) _) rfl) rfl (by decide) (ns_of ⟨⟨_, rfl⟩, trivial⟩))<|ym rfl (tup [oref 4 1 0 r45.length, b r44])<|yl rfl (oref 4 1 0 r45.length) y3<|yl rfl (b false) (LOp.eqb y3 hc49)<|ya rfl (oref 4 1 0 r45.length)<|ya rfl (b false)<|zN ?_
       refine RunC.wl (τ' := [(1, f32 a3), (10, i64 (a1.length : Int)), (11, f32 x5), (14, oref 3 1 0 r20.length), (15, b false), (16, oref 4 1 0 r45.length), (17, b false)]) (Γ' := [⟨2, none⟩, ⟨1, none⟩, ⟨1, none⟩, ⟨1, some (r20.map f32)⟩, ⟨1, some (r45.map f32)⟩]) ⟨aR, aR, aR, aR, aR, aR, aR, trivial⟩ ⟨⟨rfl, .inl rfl⟩, ⟨rfl, .inl rfl⟩, ⟨rfl, .inl rfl⟩, ⟨rfl, .inr rfl⟩, ⟨rfl, .inr rfl⟩, trivial⟩<|yS<|zQ<|ym rfl (b false)<|yl rfl (b true) y0<|ym rfl (b true)<|ROps.s rfl rfl rfl<|ROps.s rfl rfl rfl<|yl rfl (b true) yq<|zN ?_
       refine yT<|zQ<|ya rfl nilsl<|ya rfl (b false)<|zN ?_
       refine RunC.nil_slot (Γ' := [⟨3, some (([] : List F).map f32)⟩, ⟨1, none⟩, ⟨1, none⟩, ⟨1, some (r20.map f32)⟩, ⟨1, some (r45.map f32)⟩]) 8 0 rfl rfl rfl<|RunC.ret ?_
       have hq := oI h
       obtain ⟨hq0, hq⟩ := Prod.mk.inj hq
       subst q0
       subst q1
       exact yB (tup [oref 0 3 0 (([] : List F).length), b false]) [(0, 3)] (Res.eq (Res.two rfl (RV.tmp rfl) (RV.tmp rfl)) (by first | rfl | (rw [(show ([] : List F).length = 0 from rfl)] <;> rfl))) (SelL.arr0 (f := f32) (fun _ => rfl) rfl trivial)
   ·refine yW<|yl rfl (agg [(sFc a0), (sFc a1), (sFc a2)]) (yL agg47 siz47)<|ym rfl (sFc a5)<|yd rfl (b true) (TOp.eqb (TOp.callB (CallAs.func ent81 rfl rfl) (Bors.cons (Bor.agg (bS (bS (bS bN)))) (bS bN)) rfl rfl (i_Thirds_takes_ok a0 a1 a2 a5 r1 hf1)) hc2)<|yl rfl (b false) y1<|ym rfl (b false)<|ym rfl (i64 (a1.length : Int))<|yl rfl (b false) (LOp.eqb (LOp.lss rfl rfl rfl) hc3)<|yl rfl (b false) yp<|ym rfl (b false)<|ym rfl (f32 a3)<|ym rfl (f32 a4)<|ye rfl (oref 0 1 0 2) ([⟨1, some (([a3, a4] : List F).map f32)⟩, ⟨0, none⟩, ⟨0, none⟩, ⟨0, none⟩, ⟨0, none⟩]) (TOp.buildSlice_o (g := ⟨0, none⟩) (za := f32 (some 0)) (qs := [(0, [f32 a3]), (1, [f32 a4])]) 0 rfl und26 siz28 zer28 rfl zel28 rfl rfl ⟨rfl, ⟨_, ALe.refl _, rfl⟩, ⟨rfl, ⟨_, ALe.refl _, rfl⟩, trivial⟩⟩ rfl)<|yd rfl (b false) (TOp.eqb (yc ent74 rfl rfl (Bors.cons (Bor.own (f := f32) (n := 2) (l := ([a3, a4] : List F)) (fun _ => rfl) rfl rfl) bN) (i_areFinite_ok ([a3, a4] : List F) r2 hf4)) hc5)<|yl rfl (b true) y0<|yl rfl (b true) yp<|ym rfl (b true)<|ROps.s rfl rfl rfl<|ROps.s rfl rfl rfl<|ROps.s rfl rfl rfl<|ROps.s rfl rfl rfl<|ROps.s rfl rfl rfl<|yl rfl (b true) yq<|zN ?_
    refine RunC.wl (τ' := [(1, f32 a3), (2, f32 a4), (3, (sFc a5)), (4, ptr [(sFc a0), (sFc a1), (sFc a2)]), (10, i64 (a1.length : Int)), (44, b true)]) (Γ' := [⟨1, none⟩, ⟨0, none⟩, ⟨0, none⟩, ⟨0, none⟩, ⟨0, none⟩]) ⟨aR, aR, aR, aR, aR, aR, trivial⟩ ⟨⟨rfl, .inl rfl⟩, ⟨rfl, .inr rfl⟩, ⟨rfl, .inr rfl⟩, ⟨rfl, .inr rfl⟩, ⟨rfl, .inr rfl⟩, trivial⟩<|yT<|zQ<|ya rfl nilsl<|ya rfl (b false)<|zN ?_
    refine RunC.nil_slot (Γ' := [⟨2, some (([] : List F).map f32)⟩, ⟨0, none⟩, ⟨0, none⟩, ⟨0, none⟩, ⟨0, none⟩]) 8 0 rfl rfl rfl<|RunC.ret ?_
    have hq := oI h
    obtain ⟨hq0, hq⟩ := Prod.mk.inj hq
    subst q0
    subst q1
    exact yB (tup [oref 0 2 0 (([] : List F).length), b false]) [(0, 2)] (Res.eq (Res.two rfl (RV.tmp rfl) (RV.tmp rfl)) (by first | rfl | (rw [(show ([] : List F).length = 0 from rfl)] <;> rfl))) (SelL.arr0 (f := f32) (fun _ => rfl) rfl trivial)
 ·refine yW<|yl rfl (agg [(sFc a0), (sFc a1), (sFc a2)]) (yL agg47 siz47)<|ym rfl (sFc a5)<|yd rfl (b false) (TOp.eqb (TOp.callB (CallAs.func ent81 rfl rfl) (Bors.cons (Bor.agg (bS (bS (bS bN)))) (bS bN)) rfl rfl (i_Thirds_takes_ok a0 a1 a2 a5 r1 hf1)) hc2)<|yl rfl (b true) y0<|ym rfl (b true)<|ROps.s rfl rfl rfl<|ROps.s rfl rfl rfl<|yl rfl (b true) yq<|ym rfl (b true)<|ROps.s rfl rfl rfl<|ROps.s rfl rfl rfl<|ROps.s rfl rfl rfl<|ROps.s rfl rfl rfl<|ROps.s rfl rfl rfl<|yl rfl (b true) yq<|ym rfl (b true)<|ROps.s rfl rfl rfl<|ROps.s rfl rfl rfl<|ROps.s rfl rfl rfl<|ROps.s rfl rfl rfl<|ROps.s rfl rfl rfl<|yl rfl (b true) yq<|zN ?_
  refine RunC.wl (τ' := [(1, f32 a3), (2, f32 a4), (3, (sFc a5)), (4, ptr [(sFc a0), (sFc a1), (sFc a2)]), (10, i64 (a1.length : Int)), (44, b true)]) (Γ' := [⟨0, none⟩, ⟨0, none⟩, ⟨0, none⟩, ⟨0, none⟩, ⟨0, none⟩]) ⟨aR, aR, aR, aR, aR, aR, trivial⟩ ⟨⟨rfl, .inr rfl⟩, ⟨rfl, .inr rfl⟩, ⟨rfl, .inr rfl⟩, ⟨rfl, .inr rfl⟩, ⟨rfl, .inr rfl⟩, trivial⟩<|yT<|zQ<|ya rfl nilsl<|ya rfl (b false)<|zN ?_
  refine RunC.nil_slot (Γ' := [⟨1, some (([] : List F).map f32)⟩, ⟨0, none⟩, ⟨0, none⟩, ⟨0, none⟩, ⟨0, none⟩]) 8 0 rfl rfl rfl<|RunC.ret ?_
  have hq := oI h
  obtain ⟨hq0, hq⟩ := Prod.mk.inj hq
  subst q0
  subst q1
  exact yB (tup [oref 0 1 0 (([] : List F).length), b false]) [(0, 1)] (Res.eq (Res.two rfl (RV.tmp rfl) (RV.tmp rfl)) (by first | rfl | (rw [(show ([] : List F).length = 0 from rfl)] <;> rfl))) (SelL.arr0 (f := f32) (fun _ => rfl) rfl trivial)
def i_ThirdsShared_b1 (a0 : List (List F × List F × List F)) (a1 : List F) (L4 : List (List F)) (v5 : Int) : Option (LR ((List (List F)) × Int) ((List (List F))) (Bool × (List (List F)))) :=
 bsel (decide (v5 < (a0.length : Int))) (
  obind (at? a0 v5) fun (e6 : (List F × List F × List F)) =>
  obind2 (i_ThirdsSolve e6.1 e6.2.1 e6.2.2 a1) fun (r7 : Bool) (r8 : List F) =>
  bsel r7 (
   need (apok 24 L4.length 1) <|
   olet (IntKind.i64.wrap (v5 + 1)) fun (x9 : Int) =>
   some (LR.next ((L4 ++ ([r8] : List (List F))), x9))) (
   some (LR.ret (false, ([] : List (List F)))))) (
  some (LR.out L4))
def i_ThirdsShared_s1 (a0 : List (List F × List F × List F)) (a1 : List F) : ((List (List F)) × Int) → Option (LR ((List (List F)) × Int) ((List (List F))) (Bool × (List (List F)))) := fun s => i_ThirdsShared_b1 a0 a1 s.1 s.2
def i_ThirdsShared_k1 (L12 : List (List F)) : Option (Bool × (List (List F))) :=
 some (true, L12)
def i_ThirdsShared (a0 : List (List F × List F × List F)) (a1 : List F) (a2 : Int) : Option (Bool × (List (List F))) :=
 bsel (decide (8 < (a0.length : Int))) (
  some (false, ([] : List (List F)))) (
  obind (i_inRange a2 1 8) fun (r1 : Bool) =>
  bsel r1 (
   obind (loopM (i_ThirdsShared_s1 a0 a1) (([] : List (List F)), 0)) fun z => osum z (fun e => i_ThirdsShared_k1 e) (fun r => some r)) (
   some (false, ([] : List (List F)))))
theorem i_ThirdsShared_ok (a0 : List (List F × List F × List F)) (a1 : List F) (a2 : Int) (q0 : Bool) (q1 : List (List F)) (h : i_ThirdsShared a0 a1 a2 = some (q0, q1)) : Ev Try.prog 27 [sl a0.length (a0.flatMap (fun z : (List F × List F × List F) => [(sll f32) z.1, (sll f32) z.2.1, (sll f32) z.2.2])), (sFc a1), i64 a2] [] (tup [oref 0 0 0 q1.length, b q0]) [⟨0, some (q1.map (sll f32))⟩] := by
 refine yE Try.func27 2 85 0 ([(0, sl a0.length (a0.flatMap (fun z : (List F × List F × List F) => [(sll f32) z.1, (sll f32) z.2.1, (sll f32) z.2.2]))), (1, (sFc a1)), (2, i64 a2)]) [⟨0, none⟩, ⟨0, none⟩] rfl ?_
 unfold i_ThirdsShared at h
 refine zQ<|ya rfl nilsl<|ya rfl (b false)<|zN ?_
 refine yS<|yS ?_
 rcases oB h with ⟨hc1, h⟩ | ⟨hc1, h⟩
 ·refine yW<|ym rfl (sl a0.length (a0.flatMap (fun z : (List F × List F × List F) => [(sll f32) z.1, (sll f32) z.2.1, (sll f32) z.2.2])))<|yl rfl (i64 (a0.length : Int)) (LOp.len_sl und54 rfl rfl)<|yl rfl (b true) (LOp.eqb (LOp.gtr rfl rfl rfl) hc1)<|ym rfl (b true)<|ROps.s rfl rfl rfl<|ROps.s rfl rfl rfl<|ROps.s rfl rfl rfl<|yl rfl (b true) yq<|zN ?_
  refine yT<|zQ<|ya rfl nilsl<|ya rfl (b false)<|zN ?_
  refine RunC.nil_slot (Γ' := [⟨1, some (([] : List (List F)).map (sll f32))⟩, ⟨0, none⟩]) 6 0 rfl rfl rfl<|RunC.ret ?_
  have hq := oI h
  obtain ⟨hq0, hq⟩ := Prod.mk.inj hq
  subst q0
  subst q1
  exact yB (tup [oref 0 1 0 (([] : List (List F)).length), b false]) [(0, 1)] (Res.eq (Res.two rfl (RV.tmp rfl) (RV.tmp rfl)) (by first | rfl | (rw [(show ([] : List (List F)).length = 0 from rfl)] <;> rfl))) (SelL.arr0 (f := (sll f32)) (fun _ => lt_slk (fun _ => rfl)) rfl trivial)
 ·obtain ⟨r1, hf2, h⟩ := oS h
  rcases oB h with ⟨hc3, h⟩ | ⟨hc3, h⟩
  ·refine yW<|ym rfl (sl a0.length (a0.flatMap (fun z : (List F × List F × List F) => [(sll f32) z.1, (sll f32) z.2.1, (sll f32) z.2.2])))<|yl rfl (i64 (a0.length : Int)) (LOp.len_sl und54 rfl rfl)<|yl rfl (b false) (LOp.eqb (LOp.gtr rfl rfl rfl) hc1)<|ym rfl (b false)<|ym rfl (i64 a2)<|yd rfl (b true) (TOp.eqb (yc ent85 rfl rfl (bP (bP bN0)) (i_inRange_ok a2 1 8 r1 hf2)) hc3)<|yl rfl (b false) y1<|yl rfl (b false) yp<|zN ?_
   refine yF<|RunC.skip<|zQ<|ye rfl (oref 0 1 0 0) ([⟨1, some (([] : List (List F)).map (sll f32))⟩, ⟨0, none⟩]) (TOp.buildSlice_o (g := ⟨0, none⟩) (za := nilsl) (qs := []) 0 rfl und51 siz26 zer26 rfl zel26 rfl rfl trivial rfl)<|ya rfl (oref 0 1 0 0)<|zN ?_
   refine yS<|zQ<|ym rfl (sl a0.length (a0.flatMap (fun z : (List F × List F × List F) => [(sll f32) z.1, (sll f32) z.2.1, (sll f32) z.2.2])))<|yl rfl (i64 (a0.length : Int)) (LOp.len_sl und54 rfl rfl)<|ym rfl (i64 0)<|zN ?_
   refine RunC.wl (τ' := [(1, (sFc a1)), (8, oref 0 1 0 0), (22, sl a0.length (a0.flatMap (fun z : (List F × List F × List F) => [(sll f32) z.1, (sll f32) z.2.1, (sll f32) z.2.2]))), (23, i64 (a0.length : Int)), (24, i64 0)]) (Γ' := [⟨1, some (([] : List (List F)).map (sll f32))⟩, ⟨0, none⟩]) ⟨aR, aR, aR, aR, aR, trivial⟩ ⟨⟨rfl, .inr rfl⟩, ⟨rfl, .inr rfl⟩, trivial⟩ ?_
   obtain ⟨z2, hz_2, h⟩ := oS h
   refine RunC.cutN (fun τ Γ => ∃ (L12 : List (List F)) (u10 : Nat) (u11 : Nat), Le 85 τ Γ [(8, oref 0 u10 0 L12.length)] [⟨u10, some (L12.map (sll f32))⟩, ⟨u11, none⟩] ∧ z2 = .inl L12) ?_ ?_
   ·refine RunC.block (RunC.loop (RunL.loopM (x := z2) (i_ThirdsShared_s1 a0 a1) (fun (s : (List (List F)) × Int) τ Γ => ∃ (u2 : Nat) (u3 : Nat), Le 85 τ Γ [(1, (sFc a1)), (8, oref 0 u2 0 s.1.length), (22, sl a0.length (a0.flatMap (fun z : (List F × List F × List F) => [(sll f32) z.1, (sll f32) z.2.1, (sll f32) z.2.2]))), (23, i64 (a0.length : Int)), (24, i64 s.2)] [⟨u2, some (s.1.map (sll f32))⟩, ⟨u3, none⟩]) ?_ _ _ _ hz_2 ⟨1, 0, (Le.of ⟨aR, aR, aR, aR, aR, trivial⟩ ⟨⟨rfl, .inr rfl⟩, ⟨rfl, .inl rfl⟩, trivial⟩)⟩))
    rintro ⟨L4, v5⟩ τ2 Γ2 y2_ ⟨u2, u3, hw2⟩ h2_ ho2 hr2
    refine RunC.le (τ' := [(1, (sFc a1)), (8, oref 0 u2 0 L4.length), (22, sl a0.length (a0.flatMap (fun z : (List F × List F × List F) => [(sll f32) z.1, (sll f32) z.2.1, (sll f32) z.2.2]))), (23, i64 (a0.length : Int)), (24, i64 v5)]) (Γ' := [⟨u2, some (L4.map (sll f32))⟩, ⟨u3, none⟩]) hw2 ?_
    replace h2_ : i_ThirdsShared_b1 a0 a1 L4 v5 = some y2_ := h2_
    unfold i_ThirdsShared_b1 at h2_
    refine yS ?_
    rcases oB h2_ with ⟨hc4, h2_⟩ | ⟨hc4, h2_⟩
    ·refine yW<|yl rfl (b true) (LOp.eqb (LOp.lss rfl rfl rfl) hc4)<|zN ?_
     refine yS<|yT<|RunC.skip<|yS<|RunC.block<|yS ?_
     obtain ⟨e6, he5, h2_⟩ := oS h2_
     refine yW<|yl rfl (ptr [sl e6.1.length (e6.1.map f32), sl e6.2.1.length (e6.2.1.map f32), sl e6.2.2.length (e6.2.2.map f32)]) (LOp.ixW (f := (fun z : (List F × List F × List F) => [(sll f32) z.1, (sll f32) z.2.1, (sll f32) z.2.2])) (k := 2) (fun _ => rfl) und54 siz47 rfl rfl rfl rfl he5)<|yl rfl (agg [sl e6.1.length (e6.1.map f32), sl e6.2.1.length (e6.2.1.map f32), sl e6.2.2.length (e6.2.2.map f32)]) (yL agg47 siz47)<|ye rfl (optr 1 (u3 + 1) 0) ([⟨u2, some (L4.map (sll f32))⟩, ⟨(u3 + 1), some [nilsl, nilsl, nilsl]⟩]) (TOp.alloc_o (g := ⟨u3, none⟩) 1 rfl zer47 zok47 rfl)<|ys (agg [sl e6.1.length (e6.1.map f32), sl e6.2.1.length (e6.2.1.map f32), sl e6.2.2.length (e6.2.2.map f32)]) [sl e6.1.length (e6.1.map f32), sl e6.2.1.length (e6.2.1.map f32), sl e6.2.2.length (e6.2.2.map f32)] ([⟨u2, some (L4.map (sll f32))⟩, ⟨(u3 + 1), some [sl e6.1.length (e6.1.map f32), sl e6.2.1.length (e6.2.1.map f32), sl e6.2.2.length (e6.2.2.map f32)]⟩]) siz47<|zN ?_
     refine yS ?_
     obtain ⟨r7, r8, hf6, h2_⟩ := obind2_some h2_
     rcases oB h2_ with ⟨hc7, h2_⟩ | ⟨hc7, h2_⟩
     ·refine yW<|yd rfl (agg [sl e6.1.length (e6.1.map f32), sl e6.2.1.length (e6.2.1.map f32), sl e6.2.2.length (e6.2.2.map f32)]) (TOp.loadAgg_o rfl agg47 siz47 rfl rfl rfl rfl)<|ym rfl (sFc a1)<|yd rfl (tup [(sFc r8), b r7]) (TOp.callS (CallAs.func ent24 rfl rfl) (ALes.cons aR (ALes.cons aR ALes.nil)) (lts_cons (lt_agg (lts_cons (lt_sl (fun _ => rfl)) (lts_cons (lt_sl (fun _ => rfl)) (lts_cons (lt_sl (fun _ => rfl)) lts_nil)))) (lts_cons (lt_sl (fun _ => rfl)) lts_nil)) (lt_tup (lts_cons (lt_sl (fun _ => rfl)) (lts_cons rfl lts_nil))) (i_ThirdsSolve_ok e6.1 e6.2.1 e6.2.2 a1 r7 r8 hf6) (Bor.tup (Bors.cons (Bor.own (f := f32) (fun _ => rfl) rfl rfl) bN0)))<|ym rfl (tup [(sFc r8), b r7])<|yl rfl (sFc r8) y3<|yl rfl (b true) (LOp.eqb y3 hc7)<|ya rfl (sFc r8)<|ya rfl (b true)<|zN ?_
      refine RunC.wl (τ' := [(1, (sFc a1)), (8, oref 0 u2 0 L4.length), (11, (sFc r8)), (12, b true), (22, sl a0.length (a0.flatMap (fun z : (List F × List F × List F) => [(sll f32) z.1, (sll f32) z.2.1, (sll f32) z.2.2]))), (23, i64 (a0.length : Int)), (24, i64 v5)]) (Γ' := [⟨u2, some (L4.map (sll f32))⟩, ⟨(u3 + 1), none⟩]) ⟨aR, aR, aR, aR, aR, aR, aR, trivial⟩ ⟨⟨rfl, .inr rfl⟩, ⟨rfl, .inl rfl⟩, trivial⟩<|yS<|zQ<|ym rfl (b true)<|yl rfl (b false) y1<|zN ?_
      refine yF<|RunC.skip ?_
      obtain ⟨hm8, h2_⟩ := need_some h2_
      refine yW<|ym rfl (oref 0 u2 0 L4.length)<|ym rfl (sFc r8)<|ye rfl (oref 1 (u3 + 2) 0 1) ([⟨u2, some (L4.map (sll f32))⟩, ⟨(u3 + 2), some (([r8] : List (List F)).map (sll f32))⟩]) (TOp.buildSlice_o (g := ⟨(u3 + 1), none⟩) (za := nilsl) (qs := [(0, [(sFc r8)])]) 1 rfl und51 siz26 zer26 rfl zel26 rfl rfl ⟨rfl, ⟨_, ALe.refl _, rfl⟩, trivial⟩ rfl)<|ROps.app (f := (sll f32)) (xs := L4) (ys := ([r8] : List (List F))) (Γ' := [⟨(u2 + 1), some ((L4 ++ ([r8] : List (List F))).map (sll f32))⟩, ⟨(u3 + 2), some (([r8] : List (List F)).map (sll f32))⟩]) rfl pun51 inf26 rfl rfl rfl rfl rfl rfl rfl rfl rfl (by simp) (ReadAs.own rfl (by simp)) (ones_map (fun _ => rfl)) (ap_by hm8) (ap_mx hm8) rfl<|ya rfl (oref 0 (u2 + 1) 0 (L4.length + 1))<|zN ?_
      refine RunC.wl (τ' := [(1, (sFc a1)), (8, oref 0 (u2 + 1) 0 (L4.length + 1)), (22, sl a0.length (a0.flatMap (fun z : (List F × List F × List F) => [(sll f32) z.1, (sll f32) z.2.1, (sll f32) z.2.2]))), (23, i64 (a0.length : Int)), (24, i64 v5)]) (Γ' := [⟨(u2 + 1), some ((L4 ++ ([r8] : List (List F))).map (sll f32))⟩, ⟨(u3 + 2), none⟩]) ⟨aR, aR, aR, aR, aR, trivial⟩ ⟨⟨rfl, .inr rfl⟩, ⟨rfl, .inl rfl⟩, trivial⟩ ?_
      obtain ⟨x9, hx9, h2_⟩ := oL h2_
      refine yW<|yl rfl (i64 x9) (LOp.eqr (LOp.add rfl rfl rfl) (congrArg (ik .i64) hx9))<|ym rfl (i64 x9)<|zN ?_
      cases oI h2_
      exact ⟨_, rfl, (u2 + 1), (u3 + 2), (Le.of ⟨aR, (by first | exact ALe.refl _ | exact ALe.eq (by rw [(app_len rfl rfl)] <;> rfl) | exact ALe.eq (by simp)), aR, aR, aR, trivial⟩ ⟨⟨rfl, .inr rfl⟩, ⟨rfl, .inl rfl⟩, trivial⟩)⟩
     ·refine yW<|yd rfl (agg [sl e6.1.length (e6.1.map f32), sl e6.2.1.length (e6.2.1.map f32), sl e6.2.2.length (e6.2.2.map f32)]) (TOp.loadAgg_o rfl agg47 siz47 rfl rfl rfl rfl)<|ym rfl (sFc a1)<|yd rfl (tup [(sFc r8), b r7]) (TOp.callS (CallAs.func ent24 rfl rfl) (ALes.cons aR (ALes.cons aR ALes.nil)) (lts_cons (lt_agg (lts_cons (lt_sl (fun _ => rfl)) (lts_cons (lt_sl (fun _ => rfl)) (lts_cons (lt_sl (fun _ => rfl)) lts_nil)))) (lts_cons (lt_sl (fun _ => rfl)) lts_nil)) (lt_tup (lts_cons (lt_sl (fun _ => rfl)) (lts_cons rfl lts_nil))) (i_ThirdsSolve_ok e6.1 e6.2.1 e6.2.2 a1 r7 r8 hf6) (Bor.tup (Bors.cons (Bor.own (f := f32) (fun _ => rfl) rfl rfl) bN0)))<|ym rfl (tup [(sFc r8), b r7])<|yl rfl (sFc r8) y3<|yl rfl (b false) (LOp.eqb y3 hc7)<|ya rfl (sFc r8)<|ya rfl (b false)<|zN ?_
      refine RunC.wl (τ' := [(1, (sFc a1)), (8, oref 0 u2 0 L4.length), (11, (sFc r8)), (12, b false), (22, sl a0.length (a0.flatMap (fun z : (List F × List F × List F) => [(sll f32) z.1, (sll f32) z.2.1, (sll f32) z.2.2]))), (23, i64 (a0.length : Int)), (24, i64 v5)]) (Γ' := [⟨u2, some (L4.map (sll f32))⟩, ⟨(u3 + 1), none⟩]) ⟨aR, aR, aR, aR, aR, aR, aR, trivial⟩ ⟨⟨rfl, .inr rfl⟩, ⟨rfl, .inl rfl⟩, trivial⟩<|yS<|zQ<|ym rfl (b false)<|yl rfl (b true) y0<|zN ?_
      refine yT<|zQ<|ya rfl nilsl<|ya rfl (b false)<|zN ?_
      refine RunC.nil_slot (Γ' := [⟨u2, some (L4.map (sll f32))⟩, ⟨(u3 + 2), some (([] : List (List F)).map (sll f32))⟩]) 6 1 rfl rfl rfl<|RunC.ret ?_
      cases oI h2_
      have hx3_ := hr2 _ rfl
      subst hx3_
      have hq := oI h
      obtain ⟨hq0, hq⟩ := Prod.mk.inj hq
      subst q0
      subst q1
      exact bodyQ.mk (r' := tup [oref 1 (u3 + 2) 0 (([] : List (List F)).length), b false]) [(1, (u3 + 2))] (.inr rfl) rfl (ndB_ok rfl) (by simp [ren, rens, sigma]) rfl (Res.eq (Res.two rfl (RV.tmp rfl) (RV.tmp rfl)) (by first | rfl | (rw [(show ([] : List (List F)).length = 0 from rfl)] <;> rfl))) (SelL.arr0 (f := (sll f32)) (fun _ => lt_slk (fun _ => rfl)) rfl trivial)
    ·refine yW<|yl rfl (b false) (LOp.eqb (LOp.lss rfl rfl rfl) hc4)<|zN ?_
     refine yS<|yF<|RunC.exit ?_
     cases oI h2_
     have hx := ho2 _ rfl
     exact ⟨L4, u2, u3, (Le.of ⟨aR, trivial⟩ ⟨⟨rfl, .inr rfl⟩, ⟨rfl, .inl rfl⟩, trivial⟩), hx⟩
   ·rintro τ4 Γ4 ⟨L12, u10, u11, hw4, rfl⟩
    refine RunC.le hw4 ?_
    replace h : i_ThirdsShared_k1 L12 = some (q0, q1) := h
    unfold i_ThirdsShared_k1 at h
    refine zQ<|ym rfl (oref 0 u10 0 L12.length)<|ya rfl (oref 0 u10 0 L12.length)<|ya rfl (b true)<|zN ?_
    refine RunC.ret ?_
    have hq := oI h
    obtain ⟨hq0, hq⟩ := Prod.mk.inj hq
    subst q0
    subst q1
    exact bodyQ.mk (r' := tup [oref 0 u10 0 L12.length, b true]) [(0, u10)] (.inr rfl) rfl (ndB_ok rfl) (by simp [ren, rens, sigma]) rfl (Res.two rfl (RV.tmp rfl) (RV.tmp rfl)) (SelL.arr0 (f := (sll f32)) (fun _ => lt_slk (fun _ => rfl)) rfl trivial)
  ·refine yW<|ym rfl (sl a0.length (a0.flatMap (fun z : (List F × List F × List F) => [(sll f32) z.1, (sll f32) z.2.1, (sll f32) z.2.2])))<|yl rfl (i64 (a0.length : Int)) (LOp.len_sl und54 rfl rfl)<|yl rfl (b false) (LOp.eqb (LOp.gtr rfl rfl rfl) hc1)<|ym rfl (b false)<|ym rfl (i64 a2)<|yd rfl (b false) (TOp.eqb (yc ent85 rfl rfl (bP (bP bN0)) (i_inRange_ok a2 1 8 r1 hf2)) hc3)<|yl rfl (b true) y0<|yl rfl (b true) yp<|zN ?_
   refine yT<|zQ<|ya rfl nilsl<|ya rfl (b false)<|zN ?_
   refine RunC.nil_slot (Γ' := [⟨1, some (([] : List (List F)).map (sll f32))⟩, ⟨0, none⟩]) 6 0 rfl rfl rfl<|RunC.ret ?_
   have hq := oI h
   obtain ⟨hq0, hq⟩ := Prod.mk.inj hq
   subst q0
   subst q1
   exact yB (tup [oref 0 1 0 (([] : List (List F)).length), b false]) [(0, 1)] (Res.eq (Res.two rfl (RV.tmp rfl) (RV.tmp rfl)) (by first | rfl | (rw [(show ([] : List (List F)).length = 0 from rfl)] <;> rfl))) (SelL.arr0 (f := (sll f32)) (fun _ => lt_slk (fun _ => rfl)) rfl trivial)
def s_l01Bits (a0 : F) : Option (Int) :=
 bsel (!feq .f32 a0 a0) (
  some 2143289344) (
  obind (a0) fun (b1 : Nat) =>
  olet (IntKind.i64.wrap (b1 : Int)) fun (x2 : Int) =>
  some x2)
theorem s_l01Bits_ok (a0 : F) (q0 : Int) (h : s_l01Bits a0 = some q0) : Ev Try.prog 175 [f32 a0] [] (i64 q0) [] := by
 refine yE Try.func175 0 19 0 [(0, f32 a0)] [] rfl ?_
 unfold s_l01Bits at h
 refine zQ<|ya rfl (i64 0)<|zN ?_
 refine yS<|yS ?_
 rcases oB h with ⟨hc1, h⟩ | ⟨hc1, h⟩
 ·refine yW<|ym rfl (f32 a0)<|ym rfl (f32 a0)<|yl rfl (b true) (LOp.eqb (LOp.fne rfl (OpF.tmp rfl) (OpF.tmp rfl)) hc1)<|zN ?_
  refine yT<|zQ<|ya rfl (i64 2143289344)<|zN ?_
  refine RunC.ret ?_
  have hq := oI h
  subst q0
  exact bodyQ.pure (.inr rfl) rfl (Res.one rfl (RV.tmp rfl))
 ·refine yW<|ym rfl (f32 a0)<|ym rfl (f32 a0)<|yl rfl (b false) (LOp.eqb (LOp.fne rfl (OpF.tmp rfl) (OpF.tmp rfl)) hc1)<|zN ?_
  refine yF<|RunC.skip<|yS ?_
  obtain ⟨b1, he2, h⟩ := oS h
  obtain ⟨x2, hx3, h⟩ := oL h
  refine yW<|ym rfl (f32 a0)<|yl rfl (ik .u32 (b1 : Int)) (LOp.fbx ext182 rfl (OpF.tmp rfl) he2)<|yl rfl (i64 x2) (LOp.eqr (LOp.i2i (src := 155) (dst := 2) ⟨_, pun155⟩ pun2 rfl rfl) (congrArg (ik .i64) hx3))<|ya rfl (i64 x2)<|zN ?_
  refine RunC.ret ?_
  have hq := oI h
  subst q0
  exact bodyQ.pure (.inr rfl) rfl (Res.one rfl (RV.tmp rfl))
def s_l01Same (a0 : F) (a1 : F) : Option (Bool) :=
 obind (s_l01Bits a0) fun (r1 : Int) =>
 obind (s_l01Bits a1) fun (r2 : Int) =>
 some (decide (r1 = r2))
theorem s_l01Same_ok (a0 : F) (a1 : F) (q0 : Bool) (h : s_l01Same a0 a1 = some q0) : Ev Try.prog 147 [f32 a0, f32 a1] [] (b q0) [] := by
 refine yE Try.func147 0 21 0 [(0, f32 a0), (1, f32 a1)] [] rfl ?_
 unfold s_l01Same at h
 refine zQ<|ya rfl (b false)<|zN ?_
 refine yS ?_
 obtain ⟨r1, hf1, h⟩ := oS h
 obtain ⟨r2, hf2, h⟩ := oS h
 refine yW<|ym rfl (f32 a0)<|yd rfl (i64 r1) (yc ent175 rfl rfl bN0 (s_l01Bits_ok a0 r1 hf1))<|ym rfl (f32 a1)<|yd rfl (i64 r2) (yc ent175 rfl rfl bN0 (s_l01Bits_ok a1 r2 hf2))<|yl rfl (b (decide (r1 = r2))) (LOp.eql rfl rfl rfl)<|ya rfl (b (decide (r1 = r2)))<|zN ?_
 refine RunC.ret ?_
 have hq := oI h
 subst q0
 exact bodyQ.pure (.inr rfl) rfl (Res.one rfl (RV.tmp rfl))
def s_SameNumber (a0 : F) (a1 : F) : Option (Bool) :=
 obind (s_l01Same a0 a1) fun (r1 : Bool) =>
 some r1
theorem s_SameNumber_ok (a0 : F) (a1 : F) (q0 : Bool) (h : s_SameNumber a0 a1 = some q0) : Ev Try.prog 86 [f32 a0, f32 a1] [] (b q0) [] := by
 refine yE Try.func86 0 17 0 [(0, f32 a0), (1, f32 a1)] [] rfl ?_
 unfold s_SameNumber at h
 refine zQ<|ya rfl (b false)<|zN ?_
 refine yS ?_
 obtain ⟨r1, hf1, h⟩ := oS h
 refine yW<|ym rfl (f32 a0)<|ym rfl (f32 a1)<|yd rfl (b r1) (yc ent147 rfl rfl (bP bN0) (s_l01Same_ok a0 a1 r1 hf1))<|ya rfl (b r1)<|zN ?_
 refine RunC.ret ?_
 have hq := oI h
 subst q0
 exact bodyQ.pure (.inr rfl) rfl (Res.one rfl (RV.tmp rfl))
def w_b10List_b1 (a0 : List F) (a1 : List F) (v1 : Int) : Option (LR (Int) (Unit) (Bool)) :=
 bsel (decide (v1 < (a0.length : Int))) (
  obind (at? a0 v1) fun (e2 : F) =>
  obind (at? a1 v1) fun (e3 : F) =>
  obind (s_SameNumber e2 e3) fun (r4 : Bool) =>
  bsel r4 (
   olet (IntKind.i64.wrap (v1 + 1)) fun (x5 : Int) =>
   some (LR.next x5)) (
   some (LR.ret false))) (
  some (LR.out ()))
def w_b10List_s1 (a0 : List F) (a1 : List F) : (Int) → Option (LR (Int) (Unit) (Bool)) := fun s => w_b10List_b1 a0 a1 s
def w_b10List_k1  : Option (Bool) :=
 some true
def w_b10List (a0 : List F) (a1 : List F) : Option (Bool) :=
 bsel (!decide ((a0.length : Int) = (a1.length : Int))) (
  some false) (
  obind (loopM (w_b10List_s1 a0 a1) 0) fun z => osum z (fun _ => w_b10List_k1) (fun r => some r))
theorem w_b10List_ok (a0 : List F) (a1 : List F) (q0 : Bool) (h : w_b10List a0 a1 = some q0) : Ev Try.prog 29 [(sFc a0), (sFc a1)] [] (b q0) [] := by
 refine yE Try.func29 0 55 0 [(0, (sFc a0)), (1, (sFc a1))] [] rfl ?_
 unfold w_b10List at h
 refine zQ<|ya rfl (b false)<|zN ?_
 refine yS<|yS ?_
 rcases oB h with ⟨hc1, h⟩ | ⟨hc1, h⟩
 ·refine yW<|ym rfl (sFc a0)<|yl rfl (i64 (a0.length : Int)) (LOp.len_sl und26 rfl rfl)<|ym rfl (sFc a1)<|yl rfl (i64 (a1.length : Int)) (LOp.len_sl und26 rfl rfl)<|yl rfl (b true) (LOp.eqb (LOp.neq rfl rfl rfl) hc1)<|zN ?_
  refine yT<|zQ<|ya rfl (b false)<|zN ?_
  refine RunC.ret ?_
  have hq := oI h
  subst q0
  exact bodyQ.pure (.inr rfl) rfl (Res.one rfl (RV.tmp rfl))
 ·refine yW<|ym rfl (sFc a0)<|yl rfl (i64 (a0.length : Int)) (LOp.len_sl und26 rfl rfl)<|ym rfl (sFc a1)<|yl rfl (i64 (a1.length : Int)) (LOp.len_sl und26 rfl rfl)<|yl rfl (b false) (LOp.eqb (LOp.neq rfl rfl rfl) hc1)<|zN ?_
  refine yF<|RunC.skip<|yS<|zQ<|ym rfl (sFc a0)<|yl rfl (i64 (a0.length : Int)) (LOp.len_sl und26 rfl rfl)<|ym rfl (i64 0)<|zN ?_
  obtain ⟨z2, hz_2, h⟩ := oS h
  refine RunC.cutN (fun τ Γ => WeakLe τ [] ∧ DeadLe Γ [] ∧ z2 = .inl ()) ?_ ?_
  ·refine RunC.block (RunC.loop (RunL.loopM (x := z2) (w_b10List_s1 a0 a1) (fun (s : Int) τ Γ => WeakLe τ [(0, (sFc a0)), (1, (sFc a1)), (12, i64 (a0.length : Int)), (13, i64 s)] ∧ DeadLe Γ []) ?_ _ _ _ hz_2 ⟨⟨aR, aR, aR, aR, trivial⟩, trivial⟩))
   rintro v1 τ2 Γ2 y2_ ⟨hw2, hd2⟩ h2_ ho2 hr2
   refine RunC.wl (τ' := [(0, (sFc a0)), (1, (sFc a1)), (12, i64 (a0.length : Int)), (13, i64 v1)]) (Γ' := []) hw2 hd2 ?_
   replace h2_ : w_b10List_b1 a0 a1 v1 = some y2_ := h2_
   unfold w_b10List_b1 at h2_
   refine yS ?_
   rcases oB h2_ with ⟨hc2, h2_⟩ | ⟨hc2, h2_⟩
   ·refine yW<|yl rfl (b true) (LOp.eqb (LOp.lss rfl rfl rfl) hc2)<|zN ?_
    refine yS<|yT<|RunC.skip<|yS<|RunC.block<|zQ<|ym rfl (i64 v1)<|ya rfl (i64 v1)<|zN ?_
    refine yS ?_
    obtain ⟨e2, he3, h2_⟩ := oS h2_
    obtain ⟨e3, he4, h2_⟩ := oS h2_
    obtain ⟨r4, hf5, h2_⟩ := oS h2_
    rcases oB h2_ with ⟨hc6, h2_⟩ | ⟨hc6, h2_⟩
    ·refine RunC.region_draw (Γ' := []) 10 mixed 
      (tm rfl (sFc a0) <|
      (tm rfl (i64 v1) <|
      (tl rfl (ptr [f32 e2]) (LOp.le (LOp.ix (f := f32) und26 siz28 rfl rfl rfl rfl he3) ALe.ptr) <|
      (tl rfl (f32 e2) (y2 agg28) <|
      (tm rfl (sFc a1) <|
      (tm rfl (i64 v1) <|
      (tl rfl (ptr [f32 e3]) (LOp.le (LOp.ix (f := f32) und26 siz28 rfl rfl rfl rfl he4) ALe.ptr) <|
      (tl rfl (f32 e3) (y2 agg28) <|
      (TR.d (r := b true) (fs := []) rfl rfl (TOp.eqb (yc ent86 rfl rfl (bP bN0) (s_SameNumber_ok e2 e3 r4 hf5)) hc6) <|
      (tl rfl (b false) (LOp.eqb (LOp.not rfl rfl) rfl) <|
      TR.nil)))))))))) rfl (by kernel_rfl) rfl fills_nil rfl ?_
     iterate 10 refine ROps.dropS ?_
     refine ROps.drop0<|zN ?_
     refine yF<|RunC.skip<|RunC.wl (τ' := [(0, (sFc a0)), (1, (sFc a1)), (12, i64 (a0.length : Int)), (13, i64 v1)]) (Γ' := []) ⟨aR, aR, aR, aR, trivial⟩ trivial ?_
     obtain ⟨x5, hx7, h2_⟩ := oL h2_
     refine yW<|yl rfl (i64 x5) (LOp.eqr (LOp.add rfl rfl rfl) (congrArg (ik .i64) hx7))<|ym rfl (i64 x5)<|zN ?_
     cases oI h2_
     exact ⟨_, rfl, ⟨aR, aR, aR, aR, trivial⟩, trivial⟩
    ·refine RunC.region_draw (Γ' := []) 10 mixed 
      (tm rfl (sFc a0) <|
      (tm rfl (i64 v1) <|
      (tl rfl (ptr [f32 e2]) (LOp.le (LOp.ix (f := f32) und26 siz28 rfl rfl rfl rfl he3) ALe.ptr) <|
      (tl rfl (f32 e2) (y2 agg28) <|
      (tm rfl (sFc a1) <|
      (tm rfl (i64 v1) <|
      (tl rfl (ptr [f32 e3]) (LOp.le (LOp.ix (f := f32) und26 siz28 rfl rfl rfl rfl he4) ALe.ptr) <|
      (tl rfl (f32 e3) (y2 agg28) <|
      (TR.d (r := b false) (fs := []) rfl rfl (TOp.eqb (yc ent86 rfl rfl (bP bN0) (s_SameNumber_ok e2 e3 r4 hf5)) hc6) <|
      (tl rfl (b true) (LOp.eqb (LOp.not rfl rfl) rfl) <|
      TR.nil)))))))))) rfl (by kernel_rfl) rfl fills_nil rfl ?_
     iterate 10 refine ROps.dropS ?_
     refine ROps.drop0<|zN ?_
     refine yT<|zQ<|ya rfl (b false)<|zN ?_
     refine RunC.ret ?_
     cases oI h2_
     have hx3_ := hr2 _ rfl
     subst hx3_
     have hq := oI h
     subst q0
     exact bodyQ.pure (.inr rfl) rfl (Res.one rfl (RV.tmp rfl))
   ·refine yW<|yl rfl (b false) (LOp.eqb (LOp.lss rfl rfl rfl) hc2)<|zN ?_
    refine yS<|yF<|RunC.exit ?_
    cases oI h2_
    have hx := ho2 _ rfl
    exact ⟨trivial, trivial, hx⟩
  ·rintro τ4 Γ4 ⟨hw4, hd4, rfl⟩
   refine RunC.wl hw4 hd4 ?_
   replace h : w_b10List_k1 = some q0 := h
   unfold w_b10List_k1 at h
   refine zQ<|ya rfl (b true)<|zN ?_
   refine RunC.ret ?_
   have hq := oI h
   subst q0
   exact bodyQ.pure (.inr rfl) rfl (Res.one rfl (RV.tmp rfl))
def s_l07Thirds (a0 : List F) (a1 : List F) (a2 : List F) : Option (Bool) :=
 bsel (decide ((a1.length : Int) < 1)) (
  some false) (
  bsel (decide (32 < (a1.length : Int))) (
   some false) (
   bsel (!decide ((a0.length : Int) = (a1.length : Int))) (
    some false) (
    bsel (!decide ((a2.length : Int) = (a1.length : Int))) (
     some false) (
     obind (s_l02Finite a0) fun (r1 : Bool) =>
     bsel r1 (
      obind (s_l02Finite a1) fun (r2 : Bool) =>
      bsel r2 (
       obind (s_l02Finite a2) fun (r3 : Bool) =>
       bsel r3 (
        obind (at? a0 0) fun (e4 : F) =>
        bsel (feq .f32 e4 (some 0)) (
         olet (IntKind.i64.wrap ((a1.length : Int) - 1)) fun (x5 : Int) =>
         obind (at? a2 x5) fun (e6 : F) =>
         some (feq .f32 e6 (some 0))) (
         some false)) (
        some false)) (
       some false)) (
      some false)))))
theorem s_l07Thirds_ok (a0 : List F) (a1 : List F) (a2 : List F) (q0 : Bool) (h : s_l07Thirds a0 a1 a2 = some q0) : Ev Try.prog 148 [ptr [(sFc a0), (sFc a1), (sFc a2)]] [] (b q0) [] := by
 refine yE Try.func148 0 145 0 ([(0, ptr [(sFc a0), (sFc a1), (sFc a2)])]) [] rfl ?_
 unfold s_l07Thirds at h
 refine zQ<|ya rfl (b false)<|zN ?_
 refine zQ<|ym rfl (ptr [(sFc a0), (sFc a1), (sFc a2)])<|yl rfl (ptr [(sFc a0), (sFc a1), (sFc a2)]) (LOp.nilCheck_ptr rfl rfl)<|yl rfl (ptr [(sFc a1), (sFc a2)]) (LOp.fap und47 rfl siz26 rfl rfl rfl)<|yl rfl (sFc a1) (y2 agg26)<|yl rfl (i64 (a1.length : Int)) (LOp.len_sl und26 rfl rfl)<|ya rfl (i64 (a1.length : Int))<|zN ?_
 refine yS<|yS ?_
 rcases oB h with ⟨hc1, h⟩ | ⟨hc1, h⟩
 ·refine yW<|ym rfl (i64 (a1.length : Int))<|yl rfl (b true) (LOp.eqb (LOp.lss rfl rfl rfl) hc1)<|ym rfl (b true)<|ROps.s rfl rfl rfl<|ROps.s rfl rfl rfl<|yl rfl (b true) yq<|ym rfl (b true)<|ROps.s rfl rfl rfl<|ROps.s rfl rfl rfl<|ROps.s rfl rfl rfl<|ROps.s rfl rfl rfl<|ROps.s rfl rfl rfl<|ROps.s rfl rfl rfl<|ROps.s rfl rfl rfl<|yl rfl (b true) yq<|ym rfl (b true)<|ROps.s rfl rfl rfl<|ROps.s rfl rfl rfl<|ROps.s rfl rfl rfl<|ROps.s rfl rfl rfl<|ROps.s rfl rfl rfl<|ROps.s rfl rfl rfl<|ROps.s rfl rfl rfl<|yl rfl (b true) yq<|zN ?_
  refine yT<|zQ<|ya rfl (b false)<|zN ?_
  refine RunC.ret ?_
  have hq := oI h
  subst q0
  exact bodyQ.pure (.inr rfl) rfl (Res.one rfl (RV.tmp rfl))
 ·rcases oB h with ⟨hc2, h⟩ | ⟨hc2, h⟩
  ·refine yW<|ym rfl (i64 (a1.length : Int))<|yl rfl (b false) (LOp.eqb (LOp.lss rfl rfl rfl) hc1)<|ym rfl (b false)<|ym rfl (i64 (a1.length : Int))<|yl rfl (b true) (LOp.eqb (LOp.gtr rfl rfl rfl) hc2)<|yl rfl (b true) yp<|ym rfl (b true)<|ROps.s rfl rfl rfl<|ROps.s rfl rfl rfl<|ROps.s rfl rfl rfl<|ROps.s rfl rfl rfl<|ROps.s rfl rfl rfl<|ROps.s rfl rfl rfl<|ROps.s rfl rfl rfl<|yl rfl (b true) yq<|ym rfl (b true)<|ROps.s rfl rfl rfl<|ROps.s rfl rfl rfl<|ROps.s rfl rfl rfl<|ROps.s rfl rfl rfl<|ROps.s rfl rfl rfl<|ROps.s rfl rfl rfl<|ROps.s rfl rfl rfl<|yl rfl (b true) yq<|zN ?_
   refine yT<|zQ<|ya rfl (b false)<|zN ?_
   refine RunC.ret ?_
   have hq := oI h
   subst q0
   exact bodyQ.pure (.inr rfl) rfl (Res.one rfl (RV.tmp rfl))
  ·rcases oB h with ⟨hc3, h⟩ | ⟨hc3, h⟩
   ·refine yW<|ym rfl (i64 (a1.length : Int))<|yl rfl (b false) (LOp.eqb (LOp.lss rfl rfl rfl) hc1)<|ym rfl (b false)<|ym rfl (i64 (a1.length : Int))<|yl rfl (b false) (LOp.eqb (LOp.gtr rfl rfl rfl) hc2)<|yl rfl (b false) yp<|ym rfl (b false)<|ym rfl (ptr [(sFc a0), (sFc a1), (sFc a2)])<|yl rfl (ptr [(sFc a0), (sFc a1), (sFc a2)]) (LOp.nilCheck_ptr rfl rfl)<|yl rfl (ptr [(sFc a0), (sFc a1), (sFc a2)]) (LOp.fap und47 rfl siz26 rfl rfl rfl)<|yl rfl (sFc a0) (y2 agg26)<|yl rfl (i64 (a0.length : Int)) (LOp.len_sl und26 rfl rfl)<|ym rfl (i64 (a1.length : Int))<|yl rfl (b true) (LOp.eqb (LOp.neq rfl rfl rfl) hc3)<|yl rfl (b true) yp<|ym rfl (b true)<|ROps.s rfl rfl rfl<|ROps.s rfl rfl rfl<|ROps.s rfl rfl rfl<|ROps.s rfl rfl rfl<|ROps.s rfl rfl rfl<|ROps.s rfl rfl rfl<|ROps.s rfl rfl rfl<|yl rfl (b true) yq<|zN ?_
    refine yT<|zQ<|ya rfl (b false)<|zN ?_
    refine RunC.ret ?_
    have hq := oI h
    subst q0
    exact bodyQ.pure (.inr rfl) rfl (Res.one rfl (RV.tmp rfl))
   ·rcases oB h with ⟨hc4, h⟩ | ⟨hc4, h⟩
    ·refine yW<|ym rfl (i64 (a1.length : Int))<|yl rfl (b false) (LOp.eqb (LOp.lss rfl rfl rfl) hc1)<|ym rfl (b false)<|ym rfl (i64 (a1.length : Int))<|yl rfl (b false) (LOp.eqb (LOp.gtr rfl rfl rfl) hc2)<|yl rfl (b false) yp<|ym rfl (b false)<|ym rfl (ptr [(sFc a0), (sFc a1), (sFc a2)])<|yl rfl (ptr [(sFc a0), (sFc a1), (sFc a2)]) (LOp.nilCheck_ptr rfl rfl)<|yl rfl (ptr [(sFc a0), (sFc a1), (sFc a2)]) (LOp.fap und47 rfl siz26 rfl rfl rfl)<|yl rfl (sFc a0) (y2 agg26)<|yl rfl (i64 (a0.length : Int)) (LOp.len_sl und26 rfl rfl)<|ym rfl (i64 (a1.length : Int))<|yl rfl (b false) (LOp.eqb (LOp.neq rfl rfl rfl) hc3)<|yl rfl (b false) yp<|ym rfl (b false)<|ym rfl (ptr [(sFc a0), (sFc a1), (sFc a2)])<|yl rfl (ptr [(sFc a0), (sFc a1), (sFc a2)]) (LOp.nilCheck_ptr rfl rfl)<|yl rfl (ptr [(sFc a2)]) (LOp.fap und47 rfl siz26 rfl rfl rfl)<|yl rfl (sFc a2) (y2 agg26)<|yl rfl (i64 (a2.length : Int)) (LOp.len_sl und26 rfl rfl)<|ym rfl (i64 (a1.length : Int))<|yl rfl (b true) (LOp.eqb (LOp.neq rfl rfl rfl) hc4)<|yl rfl (b true) yp<|zN ?_
     refine yT<|zQ<|ya rfl (b false)<|zN ?_
     refine RunC.ret ?_
     have hq := oI h
     subst q0
     exact bodyQ.pure (.inr rfl) rfl (Res.one rfl (RV.tmp rfl))
    ·refine yW<|ym rfl (i64 (a1.length : Int))<|yl rfl (b false) (LOp.eqb (LOp.lss rfl rfl rfl) hc1)<|ym rfl (b false)<|ym rfl (i64 (a1.length : Int))<|yl rfl (b false) (LOp.eqb (LOp.gtr rfl rfl rfl) hc2)<|yl rfl (b false) yp<|ym rfl (b false)<|ym rfl (ptr [(sFc a0), (sFc a1), (sFc a2)])<|yl rfl (ptr [(sFc a0), (sFc a1), (sFc a2)]) (LOp.nilCheck_ptr rfl rfl)<|yl rfl (ptr [(sFc a0), (sFc a1), (sFc a2)]) (LOp.fap und47 rfl siz26 rfl rfl rfl)<|yl rfl (sFc a0) (y2 agg26)<|yl rfl (i64 (a0.length : Int)) (LOp.len_sl und26 rfl rfl)<|ym rfl (i64 (a1.length : Int))<|yl rfl (b false) (LOp.eqb (LOp.neq rfl rfl rfl) hc3)<|yl rfl (b false) yp<|ym rfl (b false)<|ym rfl (ptr [(sFc a0), (sFc a1), (sFc a2)])<|yl rfl (ptr [(sFc a0), (sFc a1), (sFc a2)]) (LOp.nilCheck_ptr rfl rfl)<|yl rfl (ptr [(sFc a2)]) (LOp.fap und47 rfl siz26 rfl rfl rfl)<|yl rfl (sFc a2) (y2 agg26)<|yl rfl (i64 (a2.length : Int)) (LOp.len_sl und26 rfl rfl)<|ym rfl (i64 (a1.length : Int))<|yl rfl (b false) (LOp.eqb (LOp.neq rfl rfl rfl) hc4)<|yl rfl (b false) yp<|zN ?_
     refine yF<|RunC.skip<|yS ?_
     obtain ⟨r1, hf5, h⟩ := oS h
     rcases oB h with ⟨hc6, h⟩ | ⟨hc6, h⟩
     ·obtain ⟨r2, hf7, h⟩ := oS h
      rcases oB h with ⟨hc8, h⟩ | ⟨hc8, h⟩
      ·obtain ⟨r3, hf9, h⟩ := oS h
       rcases oB h with ⟨hc10, h⟩ | ⟨hc10, h⟩
       ·obtain ⟨e4, he11, h⟩ := oS h
        rcases oB h with ⟨hc12, h⟩ | ⟨hc12, h⟩
        ·obtain ⟨x5, hx13, h⟩ := oL h
         obtain ⟨e6, he14, h⟩ := oS h
         refine yW<|ym rfl (ptr [(sFc a0), (sFc a1), (sFc a2)])<|yl rfl (ptr [(sFc a0), (sFc a1), (sFc a2)]) (LOp.nilCheck_ptr rfl rfl)<|yl rfl (ptr [(sFc a0), (sFc a1), (sFc a2)]) (LOp.fap und47 rfl siz26 rfl rfl rfl)<|yl rfl (sFc a0) (y2 agg26)<|yd rfl (b true) (TOp.eqb (yc ent135 rfl rfl (bS bN) (s_l02Finite_ok a0 r1 hf5)) hc6)<|ym rfl (b true)<|ym rfl (ptr [(sFc a0), (sFc a1), (sFc a2)])<|yl rfl (ptr [(sFc a0), (sFc a1), (sFc a2)]) (LOp.nilCheck_ptr rfl rfl)<|yl rfl (ptr [(sFc a1), (sFc a2)]) (LOp.fap und47 rfl siz26 rfl rfl rfl)<|yl rfl (sFc a1) (y2 agg26)<|yd rfl (b true) (TOp.eqb (yc ent135 rfl rfl (bS bN) (s_l02Finite_ok a1 r2 hf7)) hc8)<|yl rfl (b true) yq<|ym rfl (b true)<|ym rfl (ptr [(sFc a0), (sFc a1), (sFc a2)])<|yl rfl (ptr [(sFc a0), (sFc a1), (sFc a2)]) (LOp.nilCheck_ptr rfl rfl)<|yl rfl (ptr [(sFc a2)]) (LOp.fap und47 rfl siz26 rfl rfl rfl)<|yl rfl (sFc a2) (y2 agg26)<|yd rfl (b true) (TOp.eqb (yc ent135 rfl rfl (bS bN) (s_l02Finite_ok a2 r3 hf9)) hc10)<|yl rfl (b true) yq<|ym rfl (b true)<|ym rfl (ptr [(sFc a0), (sFc a1), (sFc a2)])<|yl rfl (ptr [(sFc a0), (sFc a1), (sFc a2)]) (LOp.nilCheck_ptr rfl rfl)<|yl rfl (ptr [(sFc a0), (sFc a1), (sFc a2)]) (LOp.fap und47 rfl siz26 rfl rfl rfl)<|yl rfl (sFc a0) (y2 agg26)<|yl rfl (ptr [f32 e4]) (LOp.le (LOp.ix (f := f32) und26 siz28 rfl rfl rfl rfl he11) ALe.ptr)<|yl rfl (f32 e4) (y2 agg28)<|yl rfl (b true) (LOp.eqb (LOp.feq rfl (OpF.tmp rfl) (OpF.const rfl (by kernel_rfl) (by kernel_rfl))) hc12)<|yl rfl (b true) yq<|ym rfl (b true)<|ym rfl (ptr [(sFc a0), (sFc a1), (sFc a2)])<|yl rfl (ptr [(sFc a0), (sFc a1), (sFc a2)]) (LOp.nilCheck_ptr rfl rfl)<|yl rfl (ptr [(sFc a2)]) (LOp.fap und47 rfl siz26 rfl rfl rfl)<|yl rfl (sFc a2) (y2 agg26)<|ym rfl (i64 (a1.length : Int))<|yl rfl (i64 x5) (LOp.eqr (LOp.sub rfl rfl rfl) (congrArg (ik .i64) hx13))<|yl rfl (ptr [f32 e6]) (LOp.le (LOp.ix (f := f32) und26 siz28 rfl rfl rfl rfl he14) ALe.ptr)<|yl rfl (f32 e6) (y2 agg28)<|yl rfl (b (feq .f32 e6 (some 0))) (LOp.feq rfl (OpF.tmp rfl) (OpF.const rfl (by kernel_rfl) (by kernel_rfl)))<|yl rfl (b (feq .f32 e6 (some 0))) yq<|ya rfl (b (feq .f32 e6 (some 0)))<|zN ?_
         refine RunC.ret ?_
         have hq := oI h
         subst q0
         exact bodyQ.pure (.inr rfl) rfl (Res.one rfl (RV.tmp rfl))
        ·refine yW<|ym rfl (ptr [(sFc a0), (sFc a1), (sFc a2)])<|yl rfl (ptr [(sFc a0), (sFc a1), (sFc a2)]) (LOp.nilCheck_ptr rfl rfl)<|yl rfl (ptr [(sFc a0), (sFc a1), (sFc a2)]) (LOp.fap und47 rfl siz26 rfl rfl rfl)<|yl rfl (sFc a0) (y2 agg26)<|yd rfl (b true) (TOp.eqb (yc ent135 rfl rfl (bS bN) (s_l02Finite_ok a0 r1 hf5)) hc6)<|ym rfl (b true)<|ym rfl (ptr [(sFc a0), (sFc a1), (sFc a2)])<|yl rfl (ptr [(sFc a0), (sFc a1), (sFc a2)]) (LOp.nilCheck_ptr rfl rfl)<|yl rfl (ptr [(sFc a1), (sFc a2)]) (LOp.fap und47 rfl siz26 rfl rfl rfl)<|yl rfl (sFc a1) (y2 agg26)<|yd rfl (b true) (TOp.eqb (yc ent135 rfl rfl (bS bN) (s_l02Finite_ok a1 r2 hf7)) hc8)<|yl rfl (b true) yq<|ym rfl (b true)<|ym rfl (ptr [(sFc a0), (sFc a1), (sFc a2)])<|yl rfl (ptr [(sFc a0), (sFc a1), (sFc a2)]) (LOp.nilCheck_ptr rfl rfl)<|yl rfl (ptr [(sFc a2)]) (LOp.fap und47 rfl siz26 rfl rfl rfl)<|yl rfl (sFc a2) (y2 agg26)<|yd rfl (b true) (TOp.eqb (yc ent135 rfl rfl (bS bN) (s_l02Finite_ok a2 r3 hf9)) hc10)<|yl rfl (b true) yq<|ym rfl (b true)<|ym rfl (ptr [(sFc a0), (sFc a1), (sFc a2)])<|yl rfl (ptr [(sFc a0), (sFc a1), (sFc a2)]) (LOp.nilCheck_ptr rfl rfl)<|yl rfl (ptr [(sFc a0), (sFc a1), (sFc a2)]) (LOp.fap und47 rfl siz26 rfl rfl rfl)<|yl rfl (sFc a0) (y2 agg26)<|yl rfl (ptr [f32 e4]) (LOp.le (LOp.ix (f := f32) und26 siz28 rfl rfl rfl rfl he11) ALe.ptr)<|yl rfl (f32 e4) (y2 agg28)<|yl rfl (b false) (LOp.eqb (LOp.feq rfl (OpF.tmp rfl) (OpF.const rfl (by kernel_rfl) (by kernel_rfl))) hc12)<|yl rfl (b false) yq<|ym rfl (b false)<|ROps.s rfl rfl rfl<|ROps.s rfl rfl rfl<|ROps.s rfl rfl rfl<|ROps.s rfl rfl rfl<|ROps.s rfl rfl rfl<|ROps.s rfl rfl rfl<|ROps.s rfl rfl rfl<|ROps.s rfl rfl rfl<|ROps.s rfl rfl rfl<|yl rfl (b false) yp<|ya rfl (b false)<|zN ?_
         refine RunC.ret ?_
         have hq := oI h
         subst q0
         exact bodyQ.pure (.inr rfl) rfl (Res.one rfl (RV.tmp rfl))
       ·refine yW<|ym rfl (ptr [(sFc a0), (sFc a1), (sFc a2)])<|yl rfl (ptr [(sFc a0), (sFc a1), (sFc a2)]) (LOp.nilCheck_ptr rfl rfl)<|yl rfl (ptr [(sFc a0), (sFc a1), (sFc a2)]) (LOp.fap und47 rfl siz26 rfl rfl rfl)<|yl rfl (sFc a0) (y2 agg26)<|yd rfl (b true) (TOp.eqb (yc ent135 rfl rfl (bS bN) (s_l02Finite_ok a0 r1 hf5)) hc6)<|ym rfl (b true)<|ym rfl (ptr [(sFc a0), (sFc a1), (sFc a2)])<|yl rfl (ptr [(sFc a0), (sFc a1), (sFc a2)]) (LOp.nilCheck_ptr rfl rfl)<|yl rfl (ptr [(sFc a1), (sFc a2)]) (LOp.fap und47 rfl siz26 rfl rfl rfl)<|yl rfl (sFc a1) (y2 agg26)<|yd rfl (b true) (TOp.eqb (yc ent135 rfl rfl (bS bN) (s_l02Finite_ok a1 r2 hf7)) hc8)<|yl rfl (b true) yq<|ym rfl (b true)<|ym rfl (ptr [(sFc a0), (sFc a1), (sFc a2)])<|yl rfl (ptr [(sFc a0), (sFc a1), (sFc a2)]) (LOp.nilCheck_ptr rfl rfl)<|yl rfl (ptr [(sFc a2)]) (LOp.fap und47 rfl siz26 rfl rfl rfl)<|yl rfl (sFc a2) (y2 agg26)<|yd rfl (b false) (TOp.eqb (yc ent135 rfl rfl (bS bN) (s_l02Finite_ok a2 r3 hf9)) hc10)<|yl rfl (b false) yq<|ym rfl (b false)<|ROps.s rfl rfl rfl<|ROps.s rfl rfl rfl<|ROps.s rfl rfl rfl<|ROps.s rfl rfl rfl<|ROps.s rfl rfl rfl<|ROps.s rfl rfl rfl<|ROps.s rfl rfl rfl<|yl rfl (b false) yp<|ym rfl (b false)<|ROps.s rfl rfl rfl<|ROps.s rfl rfl rfl<|ROps.s rfl rfl rfl<|ROps.s rfl rfl rfl<|ROps.s rfl rfl rfl<|ROps.s rfl rfl rfl<|ROps.s rfl rfl rfl<|ROps.s rfl rfl rfl<|ROps.s rfl rfl rfl<|yl rfl (b false) yp<|ya rfl (b false)<|zN ?_
        refine RunC.ret ?_
        have hq := oI h
        subst q0
        exact bodyQ.pure (.inr rfl) rfl (Res.one rfl (RV.tmp rfl))
      ·refine yW<|ym rfl (ptr [(sFc a0), (sFc a1), (sFc a2)])<|yl rfl (ptr [(sFc a0), (sFc a1), (sFc a2)]) (LOp.nilCheck_ptr rfl rfl)<|yl rfl (ptr [(sFc a0), (sFc a1), (sFc a2)]) (LOp.fap und47 rfl siz26 rfl rfl rfl)<|yl rfl (sFc a0) (y2 agg26)<|yd rfl (b true) (TOp.eqb (yc ent135 rfl rfl (bS bN) (s_l02Finite_ok a0 r1 hf5)) hc6)<|ym rfl (b true)<|ym rfl (ptr [(sFc a0), (sFc a1), (sFc a2)])<|yl rfl (ptr [(sFc a0), (sFc a1), (sFc a2)]) (LOp.nilCheck_ptr rfl rfl)<|yl rfl (ptr [(sFc a1), (sFc a2)]) (LOp.fap und47 rfl siz26 rfl rfl rfl)<|yl rfl (sFc a1) (y2 agg26)<|yd rfl (b false) (TOp.eqb (yc ent135 rfl rfl (bS bN) (s_l02Finite_ok a1 r2 hf7)) hc8)<|yl rfl (b false) yq<|ym rfl (b false)<|ROps.s rfl rfl rfl<|ROps.s rfl rfl rfl<|ROps.s rfl rfl rfl<|ROps.s rfl rfl rfl<|ROps.s rfl rfl rfl<|yl rfl (b false) yp<|ym rfl (b false)<|ROps.s rfl rfl rfl<|ROps.s rfl rfl rfl<|ROps.s rfl rfl rfl<|ROps.s rfl rfl rfl<|ROps.s rfl rfl rfl<|ROps.s rfl rfl rfl<|ROps.s rfl rfl rfl<|yl rfl (b false) yp<|ym rfl (b false)<|ROps.s rfl rfl rfl<|ROps.s rfl rfl rfl<|ROps.s rfl rfl rfl<|ROps.s rfl rfl rfl<|ROps.s rfl rfl rfl<|ROps.s rfl rfl rfl<|ROps.s rfl rfl rfl<|ROps.s rfl rfl rfl<|ROps.s rfl rfl rfl<|yl rfl (b false) yp<|ya rfl (b false)<|zN ?_
       refine RunC.ret ?_
       have hq := oI h
       subst q0
       exact bodyQ.pure (.inr rfl) rfl (Res.one rfl (RV.tmp rfl))
     ·refine yW<|ym rfl (ptr [(sFc a0), (sFc a1), (sFc a2)])<|yl rfl (ptr [(sFc a0), (sFc a1), (sFc a2)]) (LOp.nilCheck_ptr rfl rfl)<|yl rfl (ptr [(sFc a0), (sFc a1), (sFc a2)]) (LOp.fap und47 rfl siz26 rfl rfl rfl)<|yl rfl (sFc a0) (y2 agg26)<|yd rfl (b false) (TOp.eqb (yc ent135 rfl rfl (bS bN) (s_l02Finite_ok a0 r1 hf5)) hc6)<|ym rfl (b false)<|ROps.s rfl rfl rfl<|ROps.s rfl rfl rfl<|ROps.s rfl rfl rfl<|ROps.s rfl rfl rfl<|ROps.s rfl rfl rfl<|yl rfl (b false) yp<|ym rfl (b false)<|ROps.s rfl rfl rfl<|ROps.s rfl rfl rfl<|ROps.s rfl rfl rfl<|ROps.s rfl rfl rfl<|ROps.s rfl rfl rfl<|yl rfl (b false) yp<|ym rfl (b false)<|ROps.s rfl rfl rfl<|ROps.s rfl rfl rfl<|ROps.s rfl rfl rfl<|ROps.s rfl rfl rfl<|ROps.s rfl rfl rfl<|ROps.s rfl rfl rfl<|ROps.s rfl rfl rfl<|yl rfl (b false) yp<|ym rfl (b false)<|ROps.s rfl rfl rfl<|ROps.s rfl rfl rfl<|ROps.s rfl rfl rfl<|ROps.s rfl rfl rfl<|ROps.s rfl rfl rfl<|ROps.s rfl rfl rfl<|ROps.s rfl rfl rfl<|ROps.s rfl rfl rfl<|ROps.s rfl rfl rfl<|yl rfl (b false) yp<|ya rfl (b false)<|zN ?_
      refine RunC.ret ?_
      have hq := oI h
      subst q0
      exact bodyQ.pure (.inr rfl) rfl (Res.one rfl (RV.tmp rfl))
def s_l07Fits (a0 : List F) (a1 : List F) (a2 : List F) (a3 : List F) : Option (Bool) :=
 obind (s_l07Thirds a0 a1 a2) fun (r1 : Bool) =>
 bsel r1 (
  bsel (decide ((a3.length : Int) = (a1.length : Int))) (
   obind (s_l02Finite a3) fun (r2 : Bool) =>
   some r2) (
   some false)) (
  some false)
theorem s_l07Fits_ok (a0 : List F) (a1 : List F) (a2 : List F) (a3 : List F) (q0 : Bool) (h : s_l07Fits a0 a1 a2 a3 = some q0) : Ev Try.prog 87 [ptr [(sFc a0), (sFc a1), (sFc a2)], (sFc a3)] [] (b q0) [] := by
 refine yE Try.func87 0 43 0 ([(0, ptr [(sFc a0), (sFc a1), (sFc a2)]), (1, (sFc a3))]) [] rfl ?_
 unfold s_l07Fits at h
 refine zQ<|ya rfl (b false)<|zN ?_
 refine yS ?_
 obtain ⟨r1, hf1, h⟩ := oS h
 rcases oB h with ⟨hc2, h⟩ | ⟨hc2, h⟩
 ·rcases oB h with ⟨hc3, h⟩ | ⟨hc3, h⟩
  ·obtain ⟨r2, hf4, h⟩ := oS h
   refine yW<|ym rfl (ptr [(sFc a0), (sFc a1), (sFc a2)])<|yd rfl (b true) (TOp.eqb (TOp.callB (CallAs.func ent148 rfl rfl) (Bors.cons (Bor.ptr (bS (bS (bS bN)))) bN) rfl rfl (s_l07Thirds_ok a0 a1 a2 r1 hf1)) hc2)<|ym rfl (b true)<|ym rfl (sFc a3)<|yl rfl (i64 (a3.length : Int)) (LOp.len_sl und26 rfl rfl)<|ym rfl (ptr [(sFc a0), (sFc a1), (sFc a2)])<|yl rfl (ptr [(sFc a0), (sFc a1), (sFc a2)]) (LOp.nilCheck_ptr rfl rfl)<|yl rfl (ptr [(sFc a1), (sFc a2)]) (LOp.fap und47 rfl siz26 rfl rfl rfl)<|yl rfl (sFc a1) (y2 agg26)<|yl rfl (i64 (a1.length : Int)) (LOp.len_sl und26 rfl rfl)<|yl rfl (b true) (LOp.eqb (LOp.eql rfl rfl rfl) hc3)<|yl rfl (b true) yq<|ym rfl (b true)<|ym rfl (sFc a3)<|yd rfl (b r2) (yc ent135 rfl rfl (bS bN) (s_l02Finite_ok a3 r2 hf4))<|yl rfl (b r2) yq<|ya rfl (b r2)<|zN ?_
   refine RunC.ret ?_
   have hq := oI h
   subst q0
   exact bodyQ.pure (.inr rfl) rfl (Res.one rfl (RV.tmp rfl))
  ·refine yW<|ym rfl (ptr [(sFc a0), (sFc a1), (sFc a2)])<|yd rfl (b true) (TOp.eqb (TOp.callB (CallAs.func ent148 rfl rfl) (Bors.cons (Bor.ptr (bS (bS (bS bN)))) bN) rfl rfl (s_l07Thirds_ok a0 a1 a2 r1 hf1)) hc2)<|ym rfl (b true)<|ym rfl (sFc a3)<|yl rfl (i64 (a3.length : Int)) (LOp.len_sl und26 rfl rfl)<|ym rfl (ptr [(sFc a0), (sFc a1), (sFc a2)])<|yl rfl (ptr [(sFc a0), (sFc a1), (sFc a2)]) (LOp.nilCheck_ptr rfl rfl)<|yl rfl (ptr [(sFc a1), (sFc a2)]) (LOp.fap und47 rfl siz26 rfl rfl rfl)<|yl rfl (sFc a1) (y2 agg26)<|yl rfl (i64 (a1.length : Int)) (LOp.len_sl und26 rfl rfl)<|yl rfl (b false) (LOp.eqb (LOp.eql rfl rfl rfl) hc3)<|yl rfl (b false) yq<|ym rfl (b false)<|ROps.s rfl rfl rfl<|ROps.s rfl rfl rfl<|yl rfl (b false) yp<|ya rfl (b false)<|zN ?_
   refine RunC.ret ?_
   have hq := oI h
   subst q0
   exact bodyQ.pure (.inr rfl) rfl (Res.one rfl (RV.tmp rfl))
 ·refine yW<|ym rfl (ptr [(sFc a0), (sFc a1), (sFc a2)])<|yd rfl (b false) (TOp.eqb (TOp.callB (CallAs.func ent148 rfl rfl) (Bors.cons (Bor.ptr (bS (bS (bS bN)))) bN) rfl rfl (s_l07Thirds_ok a0 a1 a2 r1 hf1)) hc2)<|ym rfl (b false)<|ROps.s rfl rfl rfl<|ROps.s rfl rfl rfl<|ROps.s rfl rfl rfl<|ROps.s rfl rfl rfl<|ROps.s rfl rfl rfl<|ROps.s rfl rfl rfl<|ROps.s rfl rfl rfl<|ROps.s rfl rfl rfl<|yl rfl (b false) yp<|ym rfl (b false)<|ROps.s rfl rfl rfl<|ROps.s rfl rfl rfl<|yl rfl (b false) yp<|ya rfl (b false)<|zN ?_
  refine RunC.ret ?_
  have hq := oI h
  subst q0
  exact bodyQ.pure (.inr rfl) rfl (Res.one rfl (RV.tmp rfl))
def s_ThirdsTimes_k4 (L4 : List F) (v5 : Int) (y22 : F) : Option (LR ((List F) × Int) ((List F)) (Bool × (List F))) :=
 need (apok 4 L4.length 1) <|
 olet (IntKind.i64.wrap (v5 + 1)) fun (x23 : Int) =>
 some (LR.next ((L4 ++ ([y22] : List F)), x23))
def s_ThirdsTimes_k3 (a1 : List F) (a2 : List F) (a3 : List F) (L4 : List F) (v5 : Int) (y11 : F) : Option (LR ((List F) × Int) ((List F)) (Bool × (List F))) :=
 obind (at? a1 v5) fun (e12 : F) =>
 obind (at? a3 v5) fun (e13 : F) =>
 olet (fop .mul .f32 e12 e13) fun (x14 : F) =>
 olet (fop .add .f32 y11 x14) fun (x15 : F) =>
 olet (IntKind.i64.wrap (v5 + 1)) fun (x16 : Int) =>
 bsel (decide (x16 < (a3.length : Int))) (
  obind (at? a2 v5) fun (e17 : F) =>
  olet (IntKind.i64.wrap (v5 + 1)) fun (x18 : Int) =>
  obind (at? a3 x18) fun (e19 : F) =>
  olet (fop .mul .f32 e17 e19) fun (x20 : F) =>
  olet (fop .add .f32 x15 x20) fun (x21 : F) =>
  s_ThirdsTimes_k4 L4 v5 x21) (
  s_ThirdsTimes_k4 L4 v5 x15)
def s_ThirdsTimes_b5 (a0 : List F) (a1 : List F) (a2 : List F) (a3 : List F) (L4 : List F) (v5 : Int) : Option (LR ((List F) × Int) ((List F)) (Bool × (List F))) :=
 bsel (decide (v5 < (a3.length : Int))) (
  bsel (decide (0 < v5)) (
   obind (at? a0 v5) fun (e6 : F) =>
   olet (IntKind.i64.wrap (v5 - 1)) fun (x7 : Int) =>
   obind (at? a3 x7) fun (e8 : F) =>
   olet (fop .mul .f32 e6 e8) fun (x9 : F) =>
   olet (fop .add .f32 (some 0) x9) fun (x10 : F) =>
   s_ThirdsTimes_k3 a1 a2 a3 L4 v5 x10) (
   s_ThirdsTimes_k3 a1 a2 a3 L4 v5 (some 0))) (
  some (LR.out L4))
def s_ThirdsTimes_s5 (a0 : List F) (a1 : List F) (a2 : List F) (a3 : List F) : ((List F) × Int) → Option (LR ((List F) × Int) ((List F)) (Bool × (List F))) := fun s => s_ThirdsTimes_b5 a0 a1 a2 a3 s.1 s.2
def s_ThirdsTimes_k5 (L26 : List F) : Option (Bool × (List F)) :=
 obind (s_l02List_0o L26) (fun z => osum z (fun y => obind2 (some y) fun (r27 : Bool) (r28 : List F) =>
  need (decide (r28.length = L26.length)) <|
  some (r27, r28)) (fun y => obind3 (some y) fun (r29 : Bool) (r30 : List F) (r31 : List F) =>
  need (decide (r30.length = L26.length)) <|
  some (r29, r31)))
def s_ThirdsTimes (a0 : List F) (a1 : List F) (a2 : List F) (a3 : List F) : Option (Bool × (List F)) :=
 obind (s_l07Fits a0 a1 a2 a3) fun (r1 : Bool) =>
 bsel r1 (
  obind (loopM (s_ThirdsTimes_s5 a0 a1 a2 a3) (([] : List F), 0)) fun z => osum z (fun e => s_ThirdsTimes_k5 e) (fun r => some r)) (
  some (false, ([] : List F)))
theorem s_ThirdsTimes_ok (a0 : List F) (a1 : List F) (a2 : List F) (a3 : List F) (q0 : Bool) (q1 : List F) (h : s_ThirdsTimes a0 a1 a2 a3 = some (q0, q1)) : Ev Try.prog 30 [agg [(sFc a0), (sFc a1), (sFc a2)], (sFc a3)] [] (tup [oref 0 0 0 q1.length, b q0]) [⟨0, some (q1.map f32)⟩] := by
 refine yE Try.func30 2 145 0 ([(0, agg [(sFc a0), (sFc a1), (sFc a2)]), (1, (sFc a3))]) [⟨0, none⟩, ⟨0, none⟩] rfl ?_
 unfold s_ThirdsTimes at h
 refine zQ<|yd rfl (ptr [(sFc a0), (sFc a1), (sFc a2)]) (TOp.box_s rfl rfl rfl)<|ya rfl nilsl<|ya rfl (b false)<|zN ?_
 refine yS<|yS ?_
 obtain ⟨r1, hf1, h⟩ := oS h
 rcases oB h with ⟨hc2, h⟩ | ⟨hc2, h⟩
 ·refine yW<|ym rfl (sFc a3)<|yd rfl (b true) (TOp.eqb (TOp.callB (CallAs.func ent87 rfl rfl) (Bors.cons (Bor.ptr (bS (bS (bS bN)))) (bS bN)) rfl rfl (s_l07Fits_ok a0 a1 a2 a3 r1 hf1)) hc2)<|yl rfl (b false) y1<|zN ?_
  refine yF<|RunC.skip<|zQ<|ye rfl (oref 0 1 0 0) ([⟨1, some (([] : List F).map f32)⟩, ⟨0, none⟩]) (TOp.buildSlice_o (g := ⟨0, none⟩) (za := f32 (some 0)) (qs := []) 0 rfl und26 siz28 zer28 rfl zel28 rfl rfl trivial rfl)<|ya rfl (oref 0 1 0 0)<|zN ?_
  refine yS<|zQ<|ym rfl (sFc a3)<|yl rfl (i64 (a3.length : Int)) (LOp.len_sl und26 rfl rfl)<|ym rfl (i64 0)<|zN ?_
  obtain ⟨z6, hz_6, h⟩ := oS h
  refine RunC.cutN (fun τ Γ => ∃ (L26 : List F) (u24 : Nat) (u25 : Nat), WeakLe τ [(6, oref 0 u24 0 L26.length)] ∧ DeadLe Γ [⟨u24, some (L26.map f32)⟩, ⟨u25, none⟩] ∧ z6 = .inl L26) ?_ ?_
  ·refine RunC.block (RunC.loop (RunL.loopM (x := z6) (s_ThirdsTimes_s5 a0 a1 a2 a3) (fun (s : (List F) × Int) τ Γ => ∃ (u2 : Nat) (u3 : Nat), WeakLe τ [(1, (sFc a3)), (2, ptr [(sFc a0), (sFc a1), (sFc a2)]), (6, oref 0 u2 0 s.1.length), (14, i64 (a3.length : Int)), (15, i64 s.2)] ∧ DeadLe Γ [⟨u2, some (s.1.map f32)⟩, ⟨u3, none⟩]) ?_ _ _ _ hz_6 ⟨1, 0, ⟨aR, aR, aR, aR, aR, trivial⟩, ⟨⟨rfl, .inr rfl⟩, ⟨rfl, .inl rfl⟩, trivial⟩⟩))
   rintro ⟨L4, v5⟩ τ6 Γ6 y6_ ⟨u2, u3, hw6, hd6⟩ h6_ ho6 hr6
   refine RunC.wl (τ' := [(1, (sFc a3)), (2, ptr [(sFc a0), (sFc a1), (sFc a2)]), (6, oref 0 u2 0 L4.length), (14, i64 (a3.length : Int)), (15, i64 v5)]) (Γ' := [⟨u2, some (L4.map f32)⟩, ⟨u3, none⟩]) hw6 hd6 ?_
   replace h6_ : s_ThirdsTimes_b5 a0 a1 a2 a3 L4 v5 = some y6_ := h6_
   unfold s_ThirdsTimes_b5 at h6_
   refine yS ?_
   rcases oB h6_ with ⟨hc3, h6_⟩ | ⟨hc3, h6_⟩
   ·refine yW<|yl rfl (b true) (LOp.eqb (LOp.lss rfl rfl rfl) hc3)<|zN ?_
    refine yS<|yT<|RunC.skip<|yS<|RunC.block<|zQ<|ym rfl (i64 v5)<|ya rfl (i64 v5)<|zN ?_
    refine zQ<|yl rfl (f32 (some 0)) (LOp.le (LOp.assign rfl rfl) (ALe.fl (by kernel_rfl) (by kernel_rfl)))<|zN ?_
    refine yS<|RunC.cutN (fun τ Γ => ∃ (y11 : F), WeakLe τ [(1, (sFc a3)), (2, ptr [(sFc a0), (sFc a1), (sFc a2)]), (6, oref 0 u2 0 L4.length), (7, i64 v5), (8, f32 y11), (14, i64 (a3.length : Int)), (15, i64 v5)] ∧ DeadLe Γ [⟨u2, some (L4.map f32)⟩, ⟨u3, none⟩] ∧ s_ThirdsTimes_k3 a1 a2 a3 L4 v5 y11 = some y6_) ?_ ?_
    ·refine yS ?_
     rcases oB h6_ with ⟨hc4, h6_⟩ | ⟨hc4, h6_⟩
     ·refine yW<|ym rfl (i64 v5)<|yl rfl (b true) (LOp.eqb (LOp.gtr rfl rfl rfl) hc4)<|zN ?_
      refine yT ?_
      obtain ⟨e6, he5, h6_⟩ := oS h6_
      obtain ⟨x7, hx6, h6_⟩ := oL h6_
      obtain ⟨e8, he7, h6_⟩ := oS h6_
      obtain ⟨x9, hx8, h6_⟩ := oL h6_
      obtain ⟨x10, hx9, h6_⟩ := oL h6_
      refine RunC.region_draw (Γ' := [⟨u2, some (L4.map f32)⟩, ⟨u3, none⟩]) 14 mixed 
       (tm rfl (f32 (some 0)) <|
       (tl rfl (ptr [(sFc a0), (sFc a1), (sFc a2)]) (LOp.fap und47 rfl siz26 rfl rfl rfl) <|
       (tl rfl (sFc a0) (y2 agg26) <|
       (tm rfl (i64 v5) <|
       (tl rfl (ptr [f32 e6]) (LOp.le (LOp.ix (f := f32) und26 siz28 rfl rfl rfl rfl he5) ALe.ptr) <|
       (tl rfl (f32 e6) (y2 agg28) <|
       (tm rfl (sFc a3) <|
       (tm rfl (i64 v5) <|
       (tl rfl (i64 x7) (LOp.eqr (LOp.sub rfl rfl rfl) (congrArg (ik .i64) hx6)) <|
       (tl rfl (ptr [f32 e8]) (LOp.le (LOp.ix (f := f32) und26 siz28 rfl rfl rfl rfl he7) ALe.ptr) <|
       (tl rfl (f32 e8) (y2 agg28) <|
       (TR.d (r := f32 x9) (fs := []) rfl rfl (TOp.eqr (TOp.fop (.inr (.inr (.inl rfl))) rfl (OpF.tmp rfl) (OpF.tmp rfl)) (congrArg (f .f32) hx8)) <|
       (TR.d (r := f32 x10) (fs := []) rfl rfl (TOp.eqr (TOp.fop (.inl rfl) rfl (OpF.tmp rfl) (OpF.tmp rfl)) (congrArg (f .f32) hx9)) <|
       (tl rfl (f32 x10) (LOp.assign rfl rfl) <|
       TR.nil)))))))))))))) rfl (by kernel_rfl) rfl fills_nil rfl ?_
      iterate 14 refine ROps.dropS ?_
      refine ROps.drop0<|zN ?_
      exact ⟨x10, ⟨aR, aR, aR, aR, aR, aR, aR, trivial⟩, ⟨⟨rfl, .inr rfl⟩, ⟨rfl, .inl rfl⟩, trivial⟩, h6_⟩
     ·refine yW<|ym rfl (i64 v5)<|yl rfl (b false) (LOp.eqb (LOp.gtr rfl rfl rfl) hc4)<|zN ?_
      refine yF<|RunC.skip ?_
      exact ⟨some 0, ⟨aR, aR, aR, aR, aR, aR, aR, trivial⟩, ⟨⟨rfl, .inr rfl⟩, ⟨rfl, .inl rfl⟩, trivial⟩, h6_⟩
    ·rintro τ7 Γ7 ⟨y11, hw7, hd7, h6_⟩
     refine RunC.wl hw7 hd7 ?_
     unfold s_ThirdsTimes_k3 at h6_
     refine yS ?_
     obtain ⟨e12, he10, h6_⟩ := oS h6_
     obtain ⟨e13, he11, h6_⟩ := oS h6_
     obtain ⟨x14, hx12, h6_⟩ := oL h6_
     obtain ⟨x15, hx13, h6_⟩ := oL h6_
     refine RunC.region_draw (Γ' := [⟨u2, some (L4.map f32)⟩, ⟨u3, none⟩]) 13 mixed 
      (tm rfl (f32 y11) <|
      (tl rfl (ptr [(sFc a1), (sFc a2)]) (LOp.fap und47 rfl siz26 rfl rfl rfl) <|
      (tl rfl (sFc a1) (y2 agg26) <|
      (tm rfl (i64 v5) <|
      (tl rfl (ptr [f32 e12]) (LOp.le (LOp.ix (f := f32) und26 siz28 rfl rfl rfl rfl he10) ALe.ptr) <|
      (tl rfl (f32 e12) (y2 agg28) <|
      (tm rfl (sFc a3) <|
      (tm rfl (i64 v5) <|
      (tl rfl (ptr [f32 e13]) (LOp.le (LOp.ix (f := f32) und26 siz28 rfl rfl rfl rfl he11) ALe.ptr) <|
      (tl rfl (f32 e13) (y2 agg28) <|
      (TR.d (r := f32 x14) (fs := []) rfl rfl (TOp.eqr (TOp.fop (.inr (.inr (.inl rfl))) rfl (OpF.tmp rfl) (OpF.tmp rfl)) (congrArg (f .f32) hx12)) <|
      (TR.d (r := f32 x15) (fs := []) rfl rfl (TOp.eqr (TOp.fop (.inl rfl) rfl (OpF.tmp rfl) (OpF.tmp rfl)) (congrArg (f .f32) hx13)) <|
      (tl rfl (f32 x15) (LOp.assign rfl rfl) <|
      TR.nil))))))))))))) rfl (by kernel_rfl) rfl fills_nil rfl ?_
     iterate 13 refine ROps.dropS ?_
     refine ROps.drop0<|zN ?_
     refine yS<|RunC.cutN (fun τ Γ => ∃ (y22 : F), WeakLe τ [(1, (sFc a3)), (2, ptr [(sFc a0), (sFc a1), (sFc a2)]), (6, oref 0 u2 0 L4.length), (8, f32 y22), (14, i64 (a3.length : Int)), (15, i64 v5)] ∧ DeadLe Γ [⟨u2, some (L4.map f32)⟩, ⟨u3, none⟩] ∧ s_ThirdsTimes_k4 L4 v5 y22 = some y6_) ?_ ?_
     ·refine yS ?_
      obtain ⟨x16, hx14, h6_⟩ := oL h6_
      rcases oB h6_ with ⟨hc15, h6_⟩ | ⟨hc15, h6_⟩
      ·refine yW<|ym rfl (i64 v5)<|yl rfl (i64 x16) (LOp.eqr (LOp.add rfl rfl rfl) (congrArg (ik .i64) hx14))<|ym rfl (sFc a3)<|yl rfl (i64 (a3.length : Int)) (LOp.len_sl und26 rfl rfl)<|yl rfl (b true) (LOp.eqb (LOp.lss rfl rfl rfl) hc15)<|zN ?_
       refine RunC.wl (τ' := [(1, (sFc a3)), (2, ptr [(sFc a0), (sFc a1), (sFc a2)]), (6, oref 0 u2 0 L4.length), (7, i64 v5), (8, f32 x15), (14, i64 (a3.length : Int)), (15, i64 v5), (49, b true)]) (Γ' := [⟨u2, some (L4.map f32)⟩, ⟨u3, none⟩]) ⟨aR, aR, aR, aR, aR, aR, aR, aR, trivial⟩ ⟨⟨rfl, .inr rfl⟩, ⟨rfl, .inl rfl⟩, trivial⟩<|yT ?_
       obtain ⟨e17, he16, h6_⟩ := oS h6_
       obtain ⟨x18, hx17, h6_⟩ := oL h6_
       obtain ⟨e19, he18, h6_⟩ := oS h6_
       obtain ⟨x20, hx19, h6_⟩ := oL h6_
       obtain ⟨x21, hx20, h6_⟩ := oL h6_
       refine RunC.region_draw (Γ' := [⟨u2, some (L4.map f32)⟩, ⟨u3, none⟩]) 14 mixed 
        (tm rfl (f32 x15) <|
        (tl rfl (ptr [(sFc a2)]) (LOp.fap und47 rfl siz26 rfl rfl rfl) <|
        (tl rfl (sFc a2) (y2 agg26) <|
        (tm rfl (i64 v5) <|
        (tl rfl (ptr [f32 e17]) (LOp.le (LOp.ix (f := f32) und26 siz28 rfl rfl rfl rfl he16) ALe.ptr) <|
        (tl rfl (f32 e17) (y2 agg28) <|
        (tm rfl (sFc a3) <|
        (tm rfl (i64 v5) <|
        (tl rfl (i64 x18) (LOp.eqr (LOp.add rfl rfl rfl) (congrArg (ik .i64) hx17)) <|
        (tl rfl (ptr [f32 e19]) (LOp.le (LOp.ix (f := f32) und26 siz28 rfl rfl rfl rfl he18) ALe.ptr) <|
        (tl rfl (f32 e19) (y2 agg28) <|
        (TR.d (r := f32 x20) (fs := []) rfl rfl (TOp.eqr (TOp.fop (.inr (.inr (.inl rfl))) rfl (OpF.tmp rfl) (OpF.tmp rfl)) (congrArg (f .f32) hx19)) <|
        (TR.d (r := f32 x21) (fs := []) rfl rfl (TOp.eqr (TOp.fop (.inl rfl) rfl (OpF.tmp rfl) (OpF.tmp rfl)) (congrArg (f .f32) hx20)) <|
        (tl rfl (f32 x21) (LOp.assign rfl rfl) <|
        TR.nil)))))))))))))) rfl (by kernel_rfl) rfl fills_nil rfl ?_
       iterate 14 refine ROps.dropS ?_
       refine ROps.drop0<|zN ?_
       exact ⟨x21, ⟨aR, aR, aR, aR, aR, aR, trivial⟩, ⟨⟨rfl, .inr rfl⟩, ⟨rfl, .inl rfl⟩, trivial⟩, h6_⟩
      ·refine yW<|ym rfl (i64 v5)<|yl rfl (i64 x16) (LOp.eqr (LOp.add rfl rfl rfl) (congrArg (ik .i64) hx14))<|ym rfl (sFc a3)<|yl rfl (i64 (a3.length : Int)) (LOp.len_sl und26 rfl rfl)<|yl rfl (b false) (LOp.eqb (LOp.lss rfl rfl rfl) hc15)<|zN ?_
       refine RunC.wl (τ' := [(1, (sFc a3)), (2, ptr [(sFc a0), (sFc a1), (sFc a2)]), (6, oref 0 u2 0 L4.length), (7, i64 v5), (8, f32 x15), (14, i64 (a3.length : Int)), (15, i64 v5), (49, b false)]) (Γ' := [⟨u2, some (L4.map f32)⟩, ⟨u3, none⟩]) ⟨aR, aR, aR, aR, aR, aR, aR, aR, trivial⟩ ⟨⟨rfl, .inr rfl⟩, ⟨rfl, .inl rfl⟩, trivial⟩<|yF<|RunC.skip ?_
       exact ⟨x15, ⟨aR, aR, aR, aR, aR, aR, trivial⟩, ⟨⟨rfl, .inr rfl⟩, ⟨rfl, .inl rfl⟩, trivial⟩, h6_⟩
     ·rintro τ8 Γ8 ⟨y22, hw8, hd8, h6_⟩
      refine RunC.wl hw8 hd8 ?_
      unfold s_ThirdsTimes_k4 at h6_
      obtain ⟨hm21, h6_⟩ := need_some h6_
      refine yW<|ym rfl (oref 0 u2 0 L4.length)<|ym rfl (f32 y22)<|ye rfl (oref 1 (u3 + 1) 0 1) ([⟨u2, some (L4.map f32)⟩, ⟨(u3 + 1), some (([y22] : List F).map f32)⟩]) (TOp.buildSlice_o (g := ⟨u3, none⟩) (za := f32 (some 0)) (qs := [(0, [f32 y22])]) 1 rfl und26 siz28 zer28 rfl zel28 rfl rfl ⟨rfl, ⟨_, ALe.refl _, rfl⟩, trivial⟩ rfl)<|ROps.app (f := f32) (xs := L4) (ys := ([y22] : List F)) (Γ' := [⟨(u2 + 1), some ((L4 ++ ([y22] : List F)).map f32)⟩, ⟨(u3 + 1), some (([y22] : List F).map f32)⟩]) rfl pun26 inf28 rfl rfl rfl rfl rfl rfl rfl rfl rfl (by simp) (ReadAs.own rfl (by simp)) (ones_map (fun _ => rfl)) (ap_by hm21) (ap_mx hm21) rfl<|ya rfl (oref 0 (u2 + 1) 0 (L4.length + 1))<|zN ?_
      refine RunC.wl (τ' := [(1, (sFc a3)), (2, ptr [(sFc a0), (sFc a1), (sFc a2)]), (6, oref 0 (u2 + 1) 0 (L4.length + 1)), (14, i64 (a3.length : Int)), (15, i64 v5)]) (Γ' := [⟨(u2 + 1), some ((L4 ++ ([y22] : List F)).map f32)⟩, ⟨(u3 + 1), none⟩]) ⟨aR, aR, aR, aR, aR, trivial⟩ ⟨⟨rfl, .inr rfl⟩, ⟨rfl, .inl rfl⟩, trivial⟩ ?_
      obtain ⟨x23, hx22, h6_⟩ := oL h6_
      refine yW<|yl rfl (i64 x23) (LOp.eqr (LOp.add rfl rfl rfl) (congrArg (ik .i64) hx22))<|ym rfl (i64 x23)<|zN ?_
      cases oI h6_
      exact ⟨_, rfl, (u2 + 1), (u3 + 1), ⟨aR, aR, (ALe.eq (by rw [(app_len rfl rfl)] <;> rfl)), aR, aR, trivial⟩, ⟨⟨rfl, .inr rfl⟩, ⟨rfl, .inl rfl⟩, trivial⟩⟩
   ·refine yW<|yl rfl (b false) (LOp.eqb (LOp.lss rfl rfl rfl) hc3)<|zN ?_
    refine yS<|yF<|RunC.exit ?_
    cases oI h6_
    have hx := ho6 _ rfl
    exact ⟨L4, u2, u3, ⟨aR, trivial⟩, ⟨⟨rfl, .inr rfl⟩, ⟨rfl, .inl rfl⟩, trivial⟩, hx⟩
  ·rintro τ9 Γ9 ⟨L26, u24, u25, hw9, hd9, rfl⟩
   refine RunC.wl hw9 hd9 ?_
   replace h : s_ThirdsTimes_k5 L26 = some (q0, q1) := h
   unfold s_ThirdsTimes_k5 at h
   refine yS ?_
   obtain ⟨z10, hf23, h⟩ := oS h
   rcases z10 with z10 | z10
   ·replace h := (osum_inl _ _ _).symm.trans h
    obtain ⟨r27, r28, hz11, h⟩ := obind2_some h
    cases hz11
    obtain ⟨hn24, h⟩ := need_some h
    refine yW<|ym rfl (oref 0 u24 0 L26.length)<|ROps.callO (A := [oref 0 u24 0 L26.length]) (args := [oref 0 0 0 L26.length]) (Γc := [⟨0, some (L26.map f32)⟩]) (Γc' := [⟨0, some (r28.map f32)⟩]) (r' := tup [oref 0 u24 0 L26.length, b r27]) (Γ' := [⟨u24, some (r28.map f32)⟩, ⟨u25, none⟩]) [(0, u24)] [] rfl (CallAs.func ent68 rfl rfl) rfl rfl (SelOk.of (ndB_ok rfl) (SelL.arr0 (f := f32) (fun _ => rfl) rfl trivial)) (live_of ⟨⟨_, _, rfl⟩, trivial⟩) (by simp [ren, rens, sigma, rens_f32, rens_f64, rens_i64, rens_ik, rens_str, rens_cp]) rfl (s_l02List_0o_ok0 L26 r27 r28 hf23) rfl (news_of trivial) (ndB_ok rfl) (by simp [ren, rens, sigma, of_decide_eq_true hn24]) (by simp [backOb, sigma, ren, rens, rens_f32, rens_f64, rens_i64, rens_ik, rens_str, rens_cp] <;> omega)<|yl rfl (oref 0 u24 0 L26.length) y3<|yl rfl (b r27) y3<|ya rfl (oref 0 u24 0 L26.length)<|ya rfl (b r27)<|zN ?_
    refine RunC.ret ?_
    have hq := oI h
    obtain ⟨hq0, hq⟩ := Prod.mk.inj hq
    subst q0
    subst q1
    exact bodyQ.mk (r' := tup [oref 0 u24 0 r28.length, b r27]) [(0, u24)] (.inr rfl) rfl (ndB_ok rfl) (by simp [ren, rens, sigma]) rfl (Res.eq (Res.two rfl (RV.tmp rfl) (RV.tmp rfl)) (by first | rfl | (rw [(show r28.length = L26.length from (of_decide_eq_true hn24))] <;> rfl))) (SelL.arr0 (f := f32) (fun _ => rfl) rfl trivial)
   ·replace h := (osum_inr _ _ _).symm.trans h
    obtain ⟨r29, r30, r31, hz12, h⟩ := obind3_some h
    cases hz12
    obtain ⟨hn25, h⟩ := need_some h
    refine yW<|ym rfl (oref 0 u24 0 L26.length)<|ROps.callO (A := [oref 0 u24 0 L26.length]) (args := [oref 0 0 0 L26.length]) (Γc := [⟨0, some (L26.map f32)⟩]) (Γc' := [⟨0, some (r30.map f32)⟩, ⟨0, some (r31.map f32)⟩]) (r' := tup [oref 1 (u25 + 1) 0 r31.length, b r29]) (Γ' := [⟨u24, some (r30.map f32)⟩, ⟨(u25 + 1), some (r31.map f32)⟩]) [(0, u24)] [(1, (u25 + 1))] rfl (CallAs.func ent68 rfl rfl) rfl rfl (SelOk.of (ndB_ok rfl) (SelL.arr0 (f := f32) (fun _ => rfl) rfl trivial)) (live_of ⟨⟨_, _, rfl⟩, trivial⟩) (by simp [ren, rens, sigma, rens_f32, rens_f64, rens_i64, rens_ik, rens_str, rens_cp]) rfl (s_l02List_0o_ok1 L26 r29 r30 r31 hf23) rfl (news_of ⟨⟨_, rfl, rfl⟩, trivial⟩) (show List.Nodup [0, 1] from by decide) (by simp [ren, rens, sigma, of_decide_eq_true hn25]) (by simp [backOb, sigma, ren, rens, rens_f32, rens_f64, rens_i64, rens_ik, rens_str, rens_cp] <;> omega)<|yl rfl (oref 1 (u25 + 1) 0 r31.length) y3<|yl rfl (b r29) y3<|ya rfl (oref 1 (u25 + 1) 0 r31.length)<|ya rfl (b r29)<|zN ?_
    refine RunC.ret ?_
    have hq := oI h
    obtain ⟨hq0, hq⟩ := Prod.mk.inj hq
    subst q0
    subst q1
    exact bodyQ.mk (r' := tup [oref 1 (u25 + 1) 0 r31.length, b r29]) [(1, (u25 + 1))] (.inr rfl) rfl (ndB_ok rfl) (by simp [ren, rens, sigma]) rfl (Res.two rfl (RV.tmp rfl) (RV.tmp rfl)) (SelL.arr0 (f := f32) (fun _ => rfl) rfl trivial)
 ·refine yW<|ym rfl (sFc a3)<|yd rfl (b false) (TOp.eqb (TOp.callB (CallAs.func ent87 rfl rfl) (Bors.cons (Bor.ptr (bS (bS (bS bN)))) (bS bN)) rfl rfl (s_l07Fits_ok a0 a1 a2 a3 r1 hf1)) hc2)<|yl rfl (b true) y0<|zN ?_
  refine yT<|zQ<|ya rfl nilsl<|ya rfl (b false)<|zN ?_
  refine RunC.nil_slot (Γ' := [⟨1, some (([] : List F).map f32)⟩, ⟨0, none⟩]) 4 0 rfl rfl rfl<|RunC.ret ?_
  have hq := oI h
  obtain ⟨hq0, hq⟩ := Prod.mk.inj hq
  subst q0
  subst q1
  exact yB (tup [oref 0 1 0 (([] : List F).length), b false]) [(0, 1)] (Res.eq (Res.two rfl (RV.tmp rfl) (RV.tmp rfl)) (by first | rfl | (rw [(show ([] : List F).length = 0 from rfl)] <;> rfl))) (SelL.arr0 (f := f32) (fun _ => rfl) rfl trivial)
def w_FnShiftRows_b1 (a0 : List Int) (x3 : Int) (L6 : List F) (v7 : Int) : Option (LR ((List F) × Int) ((List F)) (Bool)) :=
 bsel (decide (v7 < x3)) (
  obind (w_b10At a0 v7 9) fun (r8 : Int) =>
  olet (IntKind.i64.wrap (r8 - 4)) fun (x9 : Int) =>
  olet (fint .f32 x9) fun (x10 : F) =>
  olet (fop .quo .f32 x10 (some 1082130432)) fun (x11 : F) =>
  need (apok 4 L6.length 1) <|
  olet (IntKind.i64.wrap (v7 + 1)) fun (x12 : Int) =>
  some (LR.next ((L6 ++ ([x11] : List F)), x12))) (
  some (LR.out L6))
def w_FnShiftRows_s1 (a0 : List Int) (x3 : Int) : ((List F) × Int) → Option (LR ((List F) × Int) ((List F)) (Bool)) := fun s => w_FnShiftRows_b1 a0 x3 s.1 s.2
def w_FnShiftRows_k3  : Option (Bool) :=
 some false
def w_FnShiftRows_k7  : Option (Bool) :=
 some false
def w_FnShiftRows_b10 (r28 : List F) (v35 : Int) : Option (LR (Int) (Unit) (Bool)) :=
 bsel (decide (v35 < ((r28.length : Nat) : Int))) (
  obind (at? r28 v35) fun (e36 : F) =>
  bsel (fle .f32 (some 1065353216) e36) (
   some (LR.ret false)) (
   obind (at? r28 v35) fun (e37 : F) =>
   bsel (fle .f32 e37 (some 3212836864)) (
    some (LR.ret false)) (
    olet (IntKind.i64.wrap (v35 + 1)) fun (x38 : Int) =>
    some (LR.next x38)))) (
  some (LR.out ()))
def w_FnShiftRows_s10 (r28 : List F) : (Int) → Option (LR (Int) (Unit) (Bool)) := fun s => w_FnShiftRows_b10 r28 s
def w_FnShiftRows_k12  : Option (Bool) :=
 some false
def w_FnShiftRows_k16  : Option (Bool) :=
 some false
def w_FnShiftRows_k18 (x40 : Int) (r44 : List F) (x52 : F) (x56 : F) (r58 : List F) (r70 : List F) : Option (Bool) :=
 obind (at? r70 0) fun (e71 : F) =>
 olet (IntKind.i64.wrap (x40 - 1)) fun (x72 : Int) =>
 obind (at? r58 x72) fun (e73 : F) =>
 olet (fop .mul .f32 x52 e73) fun (x74 : F) =>
 olet (fop .add .f32 e71 x74) fun (x75 : F) =>
 obind (setAt? r70 0 x75) fun (L76 : List F) =>
 olet (IntKind.i64.wrap (x40 - 1)) fun (x77 : Int) =>
 obind (at? L76 x77) fun (e78 : F) =>
 obind (at? r58 0) fun (e79 : F) =>
 olet (fop .mul .f32 x56 e79) fun (x80 : F) =>
 olet (fop .add .f32 e78 x80) fun (x81 : F) =>
 obind (setAt? L76 x77 x81) fun (L82 : List F) =>
 obind (w_b10Far L82 r44 (some 4562254508917369340)) fun (r83 : Bool) =>
 some (!r83)
def w_FnShiftRows_k14 (x40 : Int) (r41 : List F) (r42 : List F) (r43 : List F) (r44 : List F) (x52 : F) (x56 : F) (r58 : List F) : Option (Bool) :=
 obind2 (s_ThirdsTimes r41 r42 r43 r58) fun (r69 : Bool) (r70 : List F) =>
 bsel r69 (
  bsel (!decide (((r70.length : Nat) : Int) = x40)) (
   w_FnShiftRows_k16) (
   w_FnShiftRows_k18 x40 r44 x52 x56 r58 r70)) (
  w_FnShiftRows_k16)
def w_FnShiftRows_k10 (a0 : List Int) (a1 : List Int) : Option (Bool) :=
 obind (w_b10At a1 1 8) fun (r39 : Int) =>
 olet (IntKind.i64.wrap (3 + r39)) fun (x40 : Int) =>
 obind3 (s_B10Thirds a0 x40) fun (r41 : List F) (r42 : List F) (r43 : List F) =>
 obind (s_B10Vector a1 x40) fun (r44 : List F) =>
 obind2 (i_ThirdsSolve r41 r42 r43 r44) fun (r45 : Bool) (r46 : List F) =>
 obind2 (i_ThirdsTimes r41 r42 r43 r46) fun (r47 : Bool) (r48 : List F) =>
 obind (w_b10At a1 2 9) fun (r49 : Int) =>
 olet (IntKind.i64.wrap (r49 - 4)) fun (x50 : Int) =>
 olet (fint .f32 x50) fun (x51 : F) =>
 olet (fop .quo .f32 x51 (some 1082130432)) fun (x52 : F) =>
 obind (w_b10At a1 3 9) fun (r53 : Int) =>
 olet (IntKind.i64.wrap (r53 - 4)) fun (x54 : Int) =>
 olet (fint .f32 x54) fun (x55 : F) =>
 olet (fop .quo .f32 x55 (some 1082130432)) fun (x56 : F) =>
 obind2 (i_ThirdsRing r41 r42 r43 x52 x56 r44) fun (r57 : Bool) (r58 : List F) =>
 obind (w_b10At a1 4 8) fun (r59 : Int) =>
 olet (IntKind.i64.wrap (1 + r59)) fun (x60 : Int) =>
 obind2 (i_ThirdsShared ([(r41, r42, r43), (r41, r42, r43)] : List (List F × List F × List F)) r44 x60) fun (r61 : Bool) (r62 : List (List F)) =>
 bsel r45 (
  bsel r47 (
   bsel r57 (
    bsel r61 (
     obind (i_ValidThirds r41 r42 r43) fun (r63 : Bool) =>
     bsel r63 (
      obind (w_b10Far r48 r44 (some 4562254508917369340)) fun (r64 : Bool) =>
      bsel r64 (
       w_FnShiftRows_k12) (
       bsel (!decide ((r62.length : Int) = 2)) (
        w_FnShiftRows_k12) (
        obind (at? r62 0) fun (e65 : (List F)) =>
        obind (w_b10List e65 r46) fun (r66 : Bool) =>
        bsel r66 (
         obind (at? r62 1) fun (e67 : (List F)) =>
         obind (w_b10List e67 r46) fun (r68 : Bool) =>
         bsel r68 (
          bsel (!decide ((r58.length : Int) = x40)) (
           w_FnShiftRows_k12) (
           w_FnShiftRows_k14 x40 r41 r42 r43 r44 x52 x56 r58)) (
          w_FnShiftRows_k12)) (
         w_FnShiftRows_k12)))) (
      w_FnShiftRows_k12)) (
     w_FnShiftRows_k12)) (
    w_FnShiftRows_k12)) (
   w_FnShiftRows_k12)) (
  w_FnShiftRows_k12)
def w_FnShiftRows_k9 (a0 : List Int) (a1 : List Int) (r28 : List F) : Option (Bool) :=
 obind (loopM (w_FnShiftRows_s10 r28) 0) fun z => osum z (fun e => w_FnShiftRows_k10 a0 a1) (fun r => some r)
def w_FnShiftRows_k5 (a0 : List Int) (a1 : List Int) (r16 : List F) (r18 : List F) (r21 : Int) (r22 : Int) (r24 : List F) (r28 : List F) : Option (Bool) :=
 obind2 (s_TimesVector r21 r22 r24 r18) fun (r32 : Bool) (r33 : List F) =>
 bsel r32 (
  obind (w_b10Far r33 r16 (some 4562254508917369340)) fun (r34 : Bool) =>
  bsel r34 (
   w_FnShiftRows_k7) (
   w_FnShiftRows_k9 a0 a1 r28)) (
  w_FnShiftRows_k7)
def w_FnShiftRows_k1 (a0 : List Int) (a1 : List Int) (x3 : Int) (L15 : List F) : Option (Bool) :=
 obind (s_B10Vector a1 x3) fun (r16 : List F) =>
 obind2 (i_ShiftSolve L15 r16) fun (r17 : Bool) (r18 : List F) =>
 obind2 (i_ShiftTimes L15 r18) fun (r19 : Bool) (r20 : List F) =>
 obind4 (i_ShiftMatrix L15) fun (r21 : Int) (r22 : Int) (r23 : Bool) (r24 : List F) =>
 obind4 (i_ReflectionsOf L15) fun (r25 : F) (r26 : Bool) (r27 : List F) (r28 : List F) =>
 bsel r17 (
  bsel r19 (
   bsel r23 (
    bsel r26 (
     obind (w_b10Far r20 r16 (some 4562254508917369340)) fun (r29 : Bool) =>
     bsel r29 (
      w_FnShiftRows_k3) (
      olet (IntKind.i64.wrap (x3 - 1)) fun (x30 : Int) =>
      bsel (!decide (((r27.length : Nat) : Int) = x30)) (
       w_FnShiftRows_k3) (
       olet (IntKind.i64.wrap (x3 - 1)) fun (x31 : Int) =>
       bsel (!decide (((r28.length : Nat) : Int) = x31)) (
        w_FnShiftRows_k3) (
        bsel (fle .f32 r25 (some 0)) (
         w_FnShiftRows_k3) (
         bsel (flt .f32 (some 1090519040) r25) (
          w_FnShiftRows_k3) (
          w_FnShiftRows_k5 a0 a1 r16 r18 r21 r22 r24 r28)))))) (
     w_FnShiftRows_k3)) (
    w_FnShiftRows_k3)) (
   w_FnShiftRows_k3)) (
  w_FnShiftRows_k3)
def w_FnShiftRows (a0 : List Int) (a1 : List Int) : Option (Bool) :=
 obind (w_b10Long a0 a1) fun (r1 : Bool) =>
 bsel r1 (
  some true) (
  obind (w_b10At a1 0 8) fun (r2 : Int) =>
  olet (IntKind.i64.wrap (1 + r2)) fun (x3 : Int) =>
  obind (loopM (w_FnShiftRows_s1 a0 x3) (([some 1090519040] : List F), 1)) fun z => osum z (fun e => w_FnShiftRows_k1 a0 a1 x3 e) (fun r => some r))
theorem w_FnShiftRows_ok (a0 : List Int) (a1 : List Int) (q0 : Bool) (h : w_FnShiftRows a0 a1 = some q0) : Ev Try.prog 4 [sl a0.length (a0.map (ik .u8)), sl a1.length (a1.map (ik .u8))] [] (b q0) [] := by
 refine yE Try.func4 7 601 0 [(0, sl a0.length (a0.map (ik .u8))), (1, sl a1.length (a1.map (ik .u8)))] [⟨0, none⟩, ⟨0, none⟩, ⟨0, none⟩, ⟨0, none⟩, ⟨0, none⟩, ⟨0, none⟩, ⟨0, none⟩] rfl ?_
 unfold w_FnShiftRows at h
 refine zQ<|ya rfl (b false)<|zN ?_
 refine yS<|yS ?_
 obtain ⟨r1, hf1, h⟩ := oS h
 rcases oB h with ⟨hc2, h⟩ | ⟨hc2, h⟩
 ·refine yW<|ym rfl (sl a0.length (a0.map (ik .u8)))<|ym rfl (sl a1.length (a1.map (ik .u8)))<|yd rfl (b true) (TOp.eqb (yc ent7 rfl rfl (bS (bS bN)) (w_b10Long_ok a0 a1 r1 hf1)) hc2)<|zN ?_
  refine yT<|zQ<|ya rfl (b true)<|zN ?_
  refine RunC.ret ?_
  have hq := oI h
  subst q0
  exact bodyQ.pure (.inr rfl) rfl (Res.one rfl (RV.tmp rfl))
 ·refine yW<|ym rfl (sl a0.length (a0.map (ik .u8)))<|ym rfl (sl a1.length (a1.map (ik .u8)))<|yd rfl (b false) (TOp.eqb (yc ent7 rfl rfl (bS (bS bN)) (w_b10Long_ok a0 a1 r1 hf1)) hc2)<|zN ?_
  refine yF<|RunC.skip<|yS ?_
  obtain ⟨r2, hf3, h⟩ := oS h
  obtain ⟨x3, hx4, h⟩ := oL h
  refine yW<|ym rfl (sl a1.length (a1.map (ik .u8)))<|yd rfl (i64 r2) (yc ent8 rfl rfl (bS (bP bN0)) (w_b10At_ok a1 0 8 r2 hf3))<|yl rfl (i64 x3) (LOp.eqr (LOp.add rfl rfl rfl) (congrArg (ik .i64) hx4))<|ya rfl (i64 x3)<|zN ?_
  refine zQ<|ye rfl (oref 0 1 0 1) ([⟨1, some (([some 1090519040] : List F).map f32)⟩, ⟨0, none⟩, ⟨0, none⟩, ⟨0, none⟩, ⟨0, none⟩, ⟨0, none⟩, ⟨0, none⟩]) (TOp.buildSlice_o (g := ⟨0, none⟩) (za := f32 (some 0)) (qs := [(0, [f32 (some 1090519040)])]) 0 rfl und26 siz28 zer28 rfl zel28 rfl rfl ⟨rfl, ⟨_, (ALe.fl (by kernel_rfl) (by kernel_rfl)), rfl⟩, trivial⟩ rfl)<|ya rfl (oref 0 1 0 1)<|zN ?_
  refine yS<|zQ<|ya rfl (i64 1)<|zN ?_
  obtain ⟨z19, hz_19, h⟩ := oS h
  refine RunC.cutN (fun τ Γ => ∃ (L15 : List F) (u13 : Nat) (u14 : Nat), Le 601 τ Γ [(0, sl a0.length (a0.map (ik .u8))), (1, sl a1.length (a1.map (ik .u8))), (5, i64 x3), (6, oref 0 u13 0 L15.length)] [⟨u13, some (L15.map f32)⟩, ⟨u14, none⟩, ⟨0, none⟩, ⟨0, none⟩, ⟨0, none⟩, ⟨0, none⟩, ⟨0, none⟩] ∧ z19 = .inl L15) ?_ ?_
  ·refine RunC.block (RunC.loop (RunL.loopM (x := z19) (w_FnShiftRows_s1 a0 x3) (fun (s : (List F) × Int) τ Γ => ∃ (u4 : Nat) (u5 : Nat), Le 601 τ Γ [(0, sl a0.length (a0.map (ik .u8))), (1, sl a1.length (a1.map (ik .u8))), (5, i64 x3), (6, oref 0 u4 0 s.1.length), (7, i64 s.2)] [⟨u4, some (s.1.map f32)⟩, ⟨u5, none⟩, ⟨0, none⟩, ⟨0, none⟩, ⟨0, none⟩, ⟨0, none⟩, ⟨0, none⟩]) ?_ _ _ _ hz_19 ⟨1, 0, (Le.of ⟨aR, aR, aR, aR, aR, trivial⟩ ⟨⟨rfl, .inr rfl⟩, ⟨rfl, .inl rfl⟩, ⟨rfl, .inr rfl⟩, ⟨rfl, .inr rfl⟩, ⟨rfl, .inr rfl⟩, ⟨rfl, .inr rfl⟩, ⟨rfl, .inr rfl⟩, trivial⟩)⟩))
   rintro ⟨L6, v7⟩ τ19 Γ19 y19_ ⟨u4, u5, hw19⟩ h19_ ho19 hr19
   refine RunC.le (τ' := [(0, sl a0.length (a0.map (ik .u8))), (1, sl a1.length (a1.map (ik .u8))), (5, i64 x3), (6, oref 0 u4 0 L6.length), (7, i64 v7)]) (Γ' := [⟨u4, some (L6.map f32)⟩, ⟨u5, none⟩, ⟨0, none⟩, ⟨0, none⟩, ⟨0, none⟩, ⟨0, none⟩, ⟨0, none⟩]) hw19 ?_
   replace h19_ : w_FnShiftRows_b1 a0 x3 L6 v7 = some y19_ := h19_
   unfold w_FnShiftRows_b1 at h19_
   refine yS<|yS ?_
   rcases oB h19_ with ⟨hc5, h19_⟩ | ⟨hc5, h19_⟩
   ·refine yW<|ym rfl (i64 v7)<|ym rfl (i64 x3)<|yl rfl (b true) (LOp.eqb (LOp.lss rfl rfl rfl) hc5)<|zN ?_
    refine yT<|RunC.skip<|yS<|RunC.block ?_
    obtain ⟨r8, hf6, h19_⟩ := oS h19_
    obtain ⟨x9, hx7, h19_⟩ := oL h19_
    obtain ⟨x10, hx8, h19_⟩ := oL h19_
    obtain ⟨x11, hx9, h19_⟩ := oL h19_
    obtain ⟨hm10, h19_⟩ := need_some h19_
    refine yW<|ym rfl (oref 0 u4 0 L6.length)<|ym rfl (sl a0.length (a0.map (ik .u8)))<|ym rfl (i64 v7)<|yd rfl (i64 r8) (yc ent8 rfl rfl (bS (bP bN0)) (w_b10At_ok a0 v7 9 r8 hf6))<|yl rfl (i64 x9) (LOp.eqr (LOp.sub rfl rfl rfl) (congrArg (ik .i64) hx7))<|yl rfl (f32 x10) (LOp.eqr (LOp.i2f (src := 2) (dst := 28) ⟨_, pun2⟩ pun28 rfl rfl) (congrArg (f .f32) hx8))<|yd rfl (f32 x11) (TOp.eqr (TOp.fop (.inr (.inr (.inr rfl))) rfl (OpF.tmp rfl) (OpF.const rfl (by kernel_rfl) (by kernel_rfl))) (congrArg (f .f32) hx9))<|ye rfl (oref 1 (u5 + 1) 0 1) ([⟨u4, some (L6.map f32)⟩, ⟨(u5 + 1), some (([x11] : List F).map f32)⟩, ⟨0, none⟩, ⟨0, none⟩, ⟨0, none⟩, ⟨0, none⟩, ⟨0, none⟩]) (TOp.buildSlice_o (g := ⟨u5, none⟩) (za := f32 (some 0)) (qs := [(0, [f32 x11])]) 1 rfl und26 siz28 zer28 rfl zel28 rfl rfl ⟨rfl, ⟨_, ALe.refl _, rfl⟩, trivial⟩ rfl)<|ROps.app (f := f32) (xs := L6) (ys := ([x11] : List F)) (Γ' := [⟨(u4 + 1), some ((L6 ++ ([x11] : List F)).map f32)⟩, ⟨(u5 + 1), some (([x11] : List F).map f32)⟩, ⟨0, none⟩, ⟨0, none⟩, ⟨0, none⟩, ⟨0, none⟩, ⟨0, none⟩]) rfl pun26 inf28 rfl rfl rfl rfl rfl rfl rfl rfl rfl (by simp) (ReadAs.own rfl (by simp)) (ones_map (fun _ => rfl)) (ap_by hm10) (ap_mx hm10) rfl<|ya rfl (oref 0 (u4 + 1) 0 (L6.length + 1))<|zN ?_
    refine RunC.wl (τ' := [(0, sl a0.length (a0.map (ik .u8))), (1, sl a1.length (a1.map (ik .u8))), (5, i64 x3), (6, oref 0 (u4 + 1) 0 (L6.length + 1)), (7, i64 v7)]) (Γ' := [⟨(u4 + 1), some ((L6 ++ ([x11] : List F)).map f32)⟩, ⟨(u5 + 1), none⟩, ⟨0, none⟩, ⟨0, none⟩, ⟨0, none⟩, ⟨0, none⟩, ⟨0, none⟩]) ⟨aR, aR, aR, aR, aR, trivial⟩ ⟨⟨rfl, .inr rfl⟩, ⟨rfl, .inl rfl⟩, ⟨rfl, .inr rfl⟩, ⟨rfl, .inr rfl⟩, ⟨rfl, .inr rfl⟩, ⟨rfl, .inr rfl⟩, ⟨rfl, .inr rfl⟩, trivial⟩ ?_
    obtain ⟨x12, hx11, h19_⟩ := oL h19_
    refine yW<|ym rfl (i64 v7)<|yl rfl (i64 x12) (LOp.eqr (LOp.add rfl rfl rfl) (congrArg (ik .i64) hx11))<|ya rfl (i64 x12)<|zN ?_
    cases oI h19_
    exact ⟨_, rfl, (u4 + 1), (u5 + 1), (Le.of ⟨aR, aR, aR, (by first | exact ALe.refl _ | exact ALe.eq (by rw [(app_len rfl rfl)] <;> rfl) | exact ALe.eq (by simp)), aR, trivial⟩ ⟨⟨rfl, .inr rfl⟩, ⟨rfl, .inl rfl⟩, ⟨rfl, .inr rfl⟩, ⟨rfl, .inr rfl⟩, ⟨rfl, .inr rfl⟩, ⟨rfl, .inr rfl⟩, ⟨rfl, .inr rfl⟩, trivial⟩)⟩
   ·refine yW<|ym rfl (i64 v7)<|ym rfl (i64 x3)<|yl rfl (b false) (LOp.eqb (LOp.lss rfl rfl rfl) hc5)<|zN ?_
    refine yF<|RunC.exit ?_
    cases oI h19_
    have hx := ho19 _ rfl
    exact ⟨L6, u4, u5, (Le.of ⟨aR, aR, aR, aR, trivial⟩ ⟨⟨rfl, .inr rfl⟩, ⟨rfl, .inl rfl⟩, ⟨rfl, .inr rfl⟩, ⟨rfl, .inr rfl⟩, ⟨rfl, .inr rfl⟩, ⟨rfl, .inr rfl⟩, ⟨rfl, .inr rfl⟩, trivial⟩), hx⟩
  ·rintro τ20 Γ20 ⟨L15, u13, u14, hw20, rfl⟩
   refine RunC.le hw20 ?_
   replace h : w_FnShiftRows_k1 a0 a1 x3 L15 = some q0 := h
   unfold w_FnShiftRows_k1 at h
   refine yS ?_
   obtain ⟨r16, hf12, h⟩ := oS h
   refine yW<|ym rfl (sl a1.length (a1.map (ik .u8)))<|ym rfl (i64 x3)<|yd rfl (sFc r16) (TOp.callS (CallAs.func ent18 rfl rfl) (ALes.cons aR (ALes.cons aR ALes.nil)) (lts_cons (lt_sl (fun _ => rfl)) (lts_cons rfl lts_nil)) (lt_sl (fun _ => rfl)) (s_B10Vector_ok a1 x3 r16 hf12) (Bor.own (f := f32) (fun _ => rfl) rfl rfl))<|ya rfl (sFc r16)<|zN ?_
   refine yS ?_
   obtain ⟨r17, r18, hf13, h⟩ := obind2_some h
   refine yW<|ym rfl (oref 0 u13 0 L15.length)<|ym rfl (sFc r16)<|ye rfl (tup [oref 1 (u14 + 1) 0 r18.length, b r17]) [⟨u13, some (L15.map f32)⟩, ⟨(u14 + 1), some (r18.map f32)⟩, ⟨0, none⟩, ⟨0, none⟩, ⟨0, none⟩, ⟨0, none⟩, ⟨0, none⟩] (TOp.eqr (TOp.callBN (ls := [(r18.map f32)]) [1] (CallAs.func ent19 rfl rfl) (Bors.cons (Bor.own (f := f32) (fun _ => rfl) rfl rfl) (bS bN)) rfl (i_ShiftSolve_ok L15 r16 r17 r18 hf13) (and_all (lts0_map (f := f32) (fun _ => rfl) _) rfl) (and_all (noss_map (f := f32) (fun _ => rfl) _) rfl) rfl (by decide) (ns_of ⟨⟨_, rfl⟩, trivial⟩)) (by simp [ren, rens, sigma, newNames]))<|ym rfl (tup [oref 1 (u14 + 1) 0 r18.length, b r17])<|yl rfl (oref 1 (u14 + 1) 0 r18.length) y3<|yl rfl (b r17) y3<|ya rfl (oref 1 (u14 + 1) 0 r18.length)<|ya rfl (b r17)<|zN ?_
   refine yS ?_
   obtain ⟨r19, r20, hf14, h⟩ := obind2_some h
   refine yW<|ym rfl (oref 0 u13 0 L15.length)<|ym rfl (oref 1 (u14 + 1) 0 r18.length)<|ye rfl (tup [oref 2 1 0 r20.length, b r19]) [⟨u13, some (L15.map f32)⟩, ⟨(u14 + 1), some (r18.map f32)⟩, ⟨1, some (r20.map f32)⟩, ⟨0, none⟩, ⟨0, none⟩, ⟨0, none⟩, ⟨0, none⟩] (TOp.callBN (ls := [(r20.map f32)]) [2] (CallAs.func ent20 rfl rfl) (Bors.cons (Bor.own (f := f32) (fun _ => rfl) rfl rfl) (Bors.cons (Bor.own (f := f32) (fun _ => rfl) rfl rfl) bN)) rfl (i_ShiftTimes_ok L15 r18 r19 r20 hf14) (and_all (lts0_map (f := f32) (fun _ => rfl) _) rfl) (and_all (noss_map (f := f32) (fun _ => rfl) _) rfl) rfl (by decide) (ns_of ⟨⟨_, rfl⟩, trivial⟩))<|ym rfl (tup [oref 2 1 0 r20.length, b r19])<|yl rfl (oref 2 1 0 r20.length) y3<|yl rfl (b r19) y3<|ya rfl (oref 2 1 0 r20.length)<|ya rfl (b r19)<|zN ?_
   refine yS ?_
   obtain ⟨r21, r22, r23, r24, hf15, h⟩ := obind4_some h
   refine yW<|ym rfl (oref 0 u13 0 L15.length)<|ye rfl (tup [agg (oXc r21 r22 3 1 r24.length), b r23]) [⟨u13, some (L15.map f32)⟩, ⟨(u14 + 1), some (r18.map f32)⟩, ⟨1, some (r20.map f32)⟩, ⟨1, some (r24.map f32)⟩, ⟨0, none⟩, ⟨0, none⟩, ⟨0, none⟩] (TOp.callBN (ls := [(r24.map f32)]) [3] (CallAs.func ent21 rfl rfl) (Bors.cons (Bor.own (f := f32) (fun _ => rfl) rfl rfl) bN) rfl (i_ShiftMatrix_ok L15 r21 r22 r23 r24 hf15) (and_all (lts0_map (f := f32) (fun _ => rfl) _) rfl) (and_all (noss_map (f := f32) (fun _ => rfl) _) rfl) rfl (by decide) (ns_of ⟨⟨_, rfl⟩, trivial⟩))<|ym rfl (tup [agg (oXc r21 r22 3 1 r24.length), b r23])<|yl rfl (agg (oXc r21 r22 3 1 r24.length)) y3<|yl rfl (b r23) y3<|ye rfl (optr 4 1 0) [⟨u13, some (L15.map f32)⟩, ⟨(u14 + 1), some (r18.map f32)⟩, ⟨1, some (r20.map f32)⟩, ⟨1, some (r24.map f32)⟩, ⟨1, some zMx⟩, ⟨0, none⟩, ⟨0, none⟩] (TOp.alloc_o (g := ⟨0, none⟩) 4 rfl zer33 zok33 rfl)<|ys (agg (oXc r21 r22 3 1 r24.length)) (oXc r21 r22 3 1 r24.length) [⟨u13, some (L15.map f32)⟩, ⟨(u14 + 1), some (r18.map f32)⟩, ⟨1, some (r20.map f32)⟩, ⟨1, some (r24.map f32)⟩, ⟨1, some (oXc r21 r22 3 1 r24.length)⟩, ⟨0, none⟩, ⟨0, none⟩] siz33<|ya rfl (b r23)<|zN ?_
   refine yS ?_
   obtain ⟨r25, r26, r27, r28, hf16, h⟩ := obind4_some h
   refine yW<|ym rfl (oref 0 u13 0 L15.length)<|ye rfl (tup [oref 5 1 0 r27.length, oref 6 1 0 r28.length, f32 r25, b r26]) [⟨u13, some (L15.map f32)⟩, ⟨(u14 + 1), some (r18.map f32)⟩, ⟨1, some (r20.map f32)⟩, ⟨1, some (r24.map f32)⟩, ⟨1, some (oXc r21 r22 3 1 r24.length)⟩, ⟨1, some (r27.map f32)⟩, ⟨1, some (r28.map f32)⟩] (TOp.callBN (ls := [(r27.map f32), (r28.map f32)]) [5, 6] (CallAs.func ent22 rfl rfl) (Bors.cons (Bor.own (f := f32) (fun _ => rfl) rfl rfl) bN) rfl (i_ReflectionsOf_ok L15 r25 r26 r27 r28 hf16) (and_all (lts0_map (f := f32) (fun _ => rfl) _) (and_all (lts0_map (f := f32) (fun _ => rfl) _) rfl)) (and_all (noss_map (f := f32) (fun _ => rfl) _) (and_all (noss_map (f := f32) (fun _ => rfl) _) rfl)) rfl (by decide) (ns_of ⟨⟨_, rfl⟩, ⟨_, rfl⟩, trivial⟩))<|ym rfl (tup [oref 5 1 0 r27.length, oref 6 1 0 r28.length, f32 r25, b r26])<|yl rfl (oref 5 1 0 r27.length) y3<|yl rfl (oref 6 1 0 r28.length) y3<|yl rfl (f32 r25) y3<|yl rfl (b r26) y3<|ya rfl (oref 5 1 0 r27.length)<|ya rfl (oref 6 1 0 r28.length)<|ya rfl (f32 r25)<|ya rfl (b r26)<|zN ?_
   refine RunC.wl (τ' := [(0, sl a0.length (a0.map (ik .u8))), (1, sl a1.length (a1.map (ik .u8))), (5, i64 x3), (8, (sFc r16)), (9, oref 1 (u14 + 1) 0 r18.length), (10, b r17), (11, oref 2 1 0 r20.length), (12, b r19), (13, optr 4 1 0), (14, b r23), (15, oref 5 1 0 r27.length), (16, oref 6 1 0 r28.length), (17, f32 r25), (18, b r26)]) (Γ' := [⟨u13, none⟩, ⟨(u14 + 1), some (r18.map f32)⟩, ⟨1, some (r20.map f32)⟩, ⟨1, some (r24.map f32)⟩, ⟨1, some (oXc r21 r22 3 1 r24.length)⟩, ⟨1, some (r27.map f32)⟩, ⟨1, some (r28.map f32)⟩]) ⟨aR, aR, aR, aR, aR, aR, aR, aR, aR, aR, aR, aR, aR, aR, trivial⟩ ⟨⟨rfl, .inl rfl⟩, ⟨rfl, .inr rfl⟩, ⟨rfl, .inr rfl⟩, ⟨rfl, .inr rfl⟩, ⟨rfl, .inr rfl⟩, ⟨rfl, .inr rfl⟩, ⟨rfl, .inr rfl⟩, trivial⟩<|yS<|yS<|RunC.cutN (fun τ Γ => ( Le 601 τ Γ [(0, sl a0.length (a0.map (ik .u8))), (1, sl a1.length (a1.map (ik .u8))), (8, (sFc r16)), (9, oref 1 (u14 + 1) 0 r18.length), (13, optr 4 1 0), (16, oref 6 1 0 r28.length), (125, b true)] [⟨u13, none⟩, ⟨(u14 + 1), some (r18.map f32)⟩, ⟨1, none⟩, ⟨1, some (r24.map f32)⟩, ⟨1, some (oXc r21 r22 3 1 r24.length)⟩, ⟨1, none⟩, ⟨1, some (r28.map f32)⟩] ∧ w_FnShiftRows_k3 = some q0) ∨ ( Le 601 τ Γ [(0, sl a0.length (a0.map (ik .u8))), (1, sl a1.length (a1.map (ik .u8))), (8, (sFc r16)), (9, oref 1 (u14 + 1) 0 r18.length), (13, optr 4 1 0), (16, oref 6 1 0 r28.length), (125, b false)] [⟨u13, none⟩, ⟨(u14 + 1), some (r18.map f32)⟩, ⟨1, none⟩, ⟨1, some (r24.map f32)⟩, ⟨1, some (oXc r21 r22 3 1 r24.length)⟩, ⟨1, none⟩, ⟨1, some (r28.map f32)⟩] ∧ w_FnShiftRows_k5 a0 a1 r16 r18 r21 r22 r24 r28 = some q0)) ?_ ?_
   ·rcases oB h with ⟨hc17, h⟩ | ⟨hc17, h⟩
    ·rcases oB h with ⟨hc18, h⟩ | ⟨hc18, h⟩
     ·rcases oB h with ⟨hc19, h⟩ | ⟨hc19, h⟩
      ·rcases oB h with ⟨hc20, h⟩ | ⟨hc20, h⟩
       ·obtain ⟨r29, hf21, h⟩ := oS h
        rcases oB h with ⟨hc22, h⟩ | ⟨hc22, h⟩
        ·refine yW<|yl rfl (b true) (yv hc17)<|yl rfl (b false) y1<|ym rfl (b false)<|yl rfl (b true) (yv hc18)<|yl rfl (b false) y1<|yl rfl (b false) yp<|ym rfl (b false)<|yl rfl (b true) (yv hc19)<|yl rfl (b false) y1<|yl rfl (b false) yp<|ym rfl (b false)<|yl rfl (b true) (yv hc20)<|yl rfl (b false) y1<|yl rfl (b false) yp<|ym rfl (b false)<|ym rfl (oref 2 1 0 r20.length)<|ym rfl (sFc r16)<|yd rfl (b true) (TOp.eqb (yc ent16 rfl rfl (Bors.cons (Bor.own (f := f32) (fun _ => rfl) rfl rfl) (bS (Bors.cons (Bor.le (ALe.fl (by kernel_rfl) (by kernel_rfl)) (Bor.pure rfl)) bN))) (w_b10Far_ok r20 r16 (some 4562254508917369340) r29 hf21)) hc22)<|yl rfl (b true) yp<|ym rfl (b true)<|ROps.s rfl rfl rfl<|ROps.s rfl rfl rfl<|ROps.s rfl rfl rfl<|ROps.s rfl rfl rfl<|ROps.s rfl rfl rfl<|yl rfl (b true) yq<|ym rfl (b true)<|ROps.s rfl rfl rfl<|ROps.s rfl rfl rfl<|ROps.s rfl rfl rfl<|ROps.s rfl rfl rfl<|ROps.s rfl rfl rfl<|yl rfl (b true) yq<|ym rfl (b true)<|ROps.s rfl rfl rfl<|ROps.s rfl rfl rfl<|yl rfl (b true) yq<|ym rfl (b true)<|ROps.s rfl rfl rfl<|ROps.s rfl rfl rfl<|yl rfl (b true) yq<|zN ?_
         exact .inl ⟨(Le.of ⟨aR, aR, aR, aR, aR, aR, aR, trivial⟩ ⟨⟨rfl, .inl rfl⟩, ⟨rfl, .inr rfl⟩, ⟨rfl, .inl rfl⟩, ⟨rfl, .inr rfl⟩, ⟨rfl, .inr rfl⟩, ⟨rfl, .inl rfl⟩, ⟨rfl, .inr rfl⟩, trivial⟩), h⟩
        ·obtain ⟨x30, hx23, h⟩ := oL h
         rcases oB h with ⟨hc24, h⟩ | ⟨hc24, h⟩
         ·refine yW<|yl rfl (b true) (yv hc17)<|yl rfl (b false) y1<|ym rfl (b false)<|yl rfl (b true) (yv hc18)<|yl rfl (b false) y1<|yl rfl (b false) yp<|ym rfl (b false)<|yl rfl (b true) (yv hc19)<|yl rfl (b false) y1<|yl rfl (b false) yp<|ym rfl (b false)<|yl rfl (b true) (yv hc20)<|yl rfl (b false) y1<|yl rfl (b false) yp<|ym rfl (b false)<|ym rfl (oref 2 1 0 r20.length)<|ym rfl (sFc r16)<|yd rfl (b false) (TOp.eqb (yc ent16 rfl rfl (Bors.cons (Bor.own (f := f32) (fun _ => rfl) rfl rfl) (bS (Bors.cons (Bor.le (ALe.fl (by kernel_rfl) (by kernel_rfl)) (Bor.pure rfl)) bN))) (w_b10Far_ok r20 r16 (some 4562254508917369340) r29 hf21)) hc22)<|yl rfl (b false) yp<|ym rfl (b false)<|ym rfl (oref 5 1 0 r27.length)<|yl rfl (i64 ((r27.length : Nat) : Int)) (LOp.len_oref und26 rfl rfl)<|ym rfl (i64 x3)<|yl rfl (i64 x30) (LOp.eqr (LOp.sub rfl rfl rfl) (congrArg (ik .i64) hx23))<|yl rfl (b true) (LOp.eqb (LOp.neq rfl rfl rfl) hc24)<|yl rfl (b true) yp<|ym rfl (b true)<|ROps.s rfl rfl rfl<|ROps.s rfl rfl rfl<|ROps.s rfl rfl rfl<|ROps.s rfl rfl rfl<|ROps.s rfl rfl rfl<|yl rfl (b true) yq<|ym rfl (b true)<|ROps.s rfl rfl rfl<|ROps.s rfl rfl rfl<|yl rfl (b true) yq<|ym rfl (b true)<|ROps.s rfl rfl rfl<|ROps.s rfl rfl rfl<|yl rfl (b true) yq<|zN ?_
          exact .inl ⟨(Le.of ⟨aR, aR, aR, aR, aR, aR, aR, trivial⟩ ⟨⟨rfl, .inl rfl⟩, ⟨rfl, .inr rfl⟩, ⟨rfl, .inl rfl⟩, ⟨rfl, .inr rfl⟩, ⟨rfl, .inr rfl⟩, ⟨rfl, .inl rfl⟩, ⟨rfl, .inr rfl⟩, trivial⟩), h⟩
         ·obtain ⟨x31, hx25, h⟩ := oL h
          rcases oB h with ⟨hc26, h⟩ | ⟨hc26, h⟩
          ·refine yW<|yl rfl (b true) (yv hc17)<|yl rfl (b false) y1<|ym rfl (b false)<|yl rfl (b true) (yv hc18)<|yl rfl (b false) y1<|yl rfl (b false) yp<|ym rfl (b false)<|yl rfl (b true) (yv hc19)<|yl rfl (b false) y1<|yl rfl (b false) yp<|ym rfl (b false)<|yl rfl (b true) (yv hc20)<|yl rfl (b false) y1<|yl rfl (b false) yp<|ym rfl (b false)<|ym rfl (oref 2 1 0 r20.length)<|ym rfl (sFc r16)<|yd rfl (b false) (TOp.eqb (yc ent16 rfl rfl (Bors.cons (Bor.own (f := f32) (fun _ => rfl) rfl rfl) (bS (Bors.cons (Bor.le (ALe.fl (by kernel_rfl) (by kernel_rfl)) (Bor.pure rfl)) bN))) (w_b10Far_ok r20 r16 (some 4562254508917369340) r29 hf21)) hc22)<|yl rfl (b false) yp<|ym rfl (b false)<|ym rfl (oref 5 1 0 r27.length)<|yl rfl (i64 ((r27.length : Nat) : Int)) (LOp.len_oref und26 rfl rfl)<|ym rfl (i64 x3)<|yl rfl (i64 x30) (LOp.eqr (LOp.sub rfl rfl rfl) (congrArg (ik .i64) hx23))<|yl rfl (b false) (LOp.eqb (LOp.neq rfl rfl rfl) hc24)<|yl rfl (b false) yp<|ym rfl (b false)<|ym rfl (oref 6 1 0 r28.length)<|yl rfl (i64 ((r28.length : Nat) : Int)) (LOp.len_oref und26 rfl rfl)<|ym rfl (i64 x3)<|yl rfl (i64 x31) (LOp.eqr (LOp.sub rfl rfl rfl) (congrArg (ik .i64) hx25))<|yl rfl (b true) (LOp.eqb (LOp.neq rfl rfl rfl) hc26)<|yl rfl (b true) yp<|ym rfl (b true)<|ROps.s rfl rfl rfl<|ROps.s rfl rfl rfl<|yl rfl (b true) yq<|ym rfl (b true)<|ROps.s rfl rfl rfl<|ROps.s rfl rfl rfl<|yl rfl (b true) yq<|zN ?_
           exact .inl ⟨(Le.of ⟨aR, aR, aR, aR, aR, aR, aR, trivial⟩ ⟨⟨rfl, .inl rfl⟩, ⟨rfl, .inr rfl⟩, ⟨rfl, .inl rfl⟩, ⟨rfl, .inr rfl⟩, ⟨rfl, .inr rfl⟩, ⟨rfl, .inl rfl⟩, ⟨rfl, .inr rfl⟩, trivial⟩), h⟩
          ·rcases oB h with ⟨hc27, h⟩ | ⟨hc27, h⟩
           ·refine yW<|yl rfl (b true) (yv hc17)<|yl rfl (b false) y1<|ym rfl (b false)<|yl rfl (b true) (yv hc18)<|yl rfl (b false) y1<|yl rfl (b false) yp<|ym rfl (b false)<|yl rfl (b true) (yv hc19)<|yl rfl (b false) y1<|yl rfl (b false) yp<|ym rfl (b false)<|yl rfl (b true) (yv hc20)<|yl rfl (b false) y1<|yl rfl (b false) yp<|ym rfl (b false)<|ym rfl (oref 2 1 0 r20.length)<|ym rfl (sFc r16)<|yd rfl (b false) (TOp.eqb (yc ent16 rfl rfl (Bors.cons (Bor.own (f := f32) (fun _ => rfl) rfl rfl) (bS (Bors.cons (Bor.le (ALe.fl (by kernel_rfl) (by kernel_rfl)) (Bor.pure rfl)) bN))) (w_b10Far_ok r20 r16 (some 4562254508917369340) r29 hf21)) hc22)<|yl rfl (b false) yp<|ym rfl (b false)<|ym rfl (oref 5 1 0 r27.length)<|yl rfl (i64 ((r27.length : Nat) : Int)) (LOp.len_oref und26 rfl rfl)<|ym rfl (i64 x3)<|yl rfl (i64 x30) (LOp.eqr (LOp.sub rfl rfl rfl) (congrArg (ik .i64) hx23))<|yl rfl (b false) (LOp.eqb (LOp.neq rfl rfl rfl) hc24)<|yl rfl (b false) yp<|ym rfl (b false)<|ym rfl (oref 6 1 0 r28.length)<|yl rfl (i64 ((r28.length : Nat) : Int)) (LOp.len_oref und26 rfl rfl)<|ym rfl (i64 x3)<|yl rfl (i64 x31) (LOp.eqr (LOp.sub rfl rfl rfl) (congrArg (ik .i64) hx25))<|yl rfl (b false) (LOp.eqb (LOp.neq rfl rfl rfl) hc26)<|yl rfl (b false) yp<|ym rfl (b false)<|ym rfl (f32 r25)<|yl rfl (b true) (LOp.eqb (LOp.fle rfl (OpF.tmp rfl) (OpF.const rfl (by kernel_rfl) (by kernel_rfl))) hc27)<|yl rfl (b true) yp<|ym rfl (b true)<|ROps.s rfl rfl rfl<|ROps.s rfl rfl rfl<|yl rfl (b true) yq<|zN ?_
            exact .inl ⟨(Le.of ⟨aR, aR, aR, aR, aR, aR, aR, trivial⟩ ⟨⟨rfl, .inl rfl⟩, ⟨rfl, .inr rfl⟩, ⟨rfl, .inl rfl⟩, ⟨rfl, .inr rfl⟩, ⟨rfl, .inr rfl⟩, ⟨rfl, .inl rfl⟩, ⟨rfl, .inr rfl⟩, trivial⟩), h⟩
           ·rcases oB h with ⟨hc28, h⟩ | ⟨hc28, h⟩
            ·refine yW<|yl rfl (b true) (yv hc17)<|yl rfl (b false) y1<|ym rfl (b false)<|yl rfl (b true) (yv hc18)<|yl rfl (b false) y1<|yl rfl (b false) yp<|ym rfl (b false)<|yl rfl (b true) (yv hc19)<|yl rfl (b false) y1<|yl rfl (b false) yp<|ym rfl (b false)<|yl rfl (b true) (yv hc20)<|yl rfl (b false) y1<|yl rfl (b false) yp<|ym rfl (b false)<|ym rfl (oref 2 1 0 r20.length)<|ym rfl (sFc r16)<|yd rfl (b false) (TOp.eqb (yc ent16 rfl rfl (Bors.cons (Bor.own (f := f32) (fun _ => rfl) rfl rfl) (bS (Bors.cons (Bor.le (ALe.fl (by kernel_rfl) (by kernel_rfl)) (Bor.pure rfl)) bN))) (w_b10Far_ok r20 r16 (some 4562254508917369340) r29 hf21)) hc22)<|yl rfl (b false) yp<|ym rfl (b false)<|ym rfl (oref 5 1 0 r27.length)<|yl rfl (i64 ((r27.length : Nat) : Int)) (LOp.len_oref und26 rfl rfl)<|ym rfl (i64 x3)<|yl rfl (i64 x30) (LOp.eqr (LOp.sub rfl rfl rfl) (congrArg (ik .i64) hx23))<|yl rfl (b false) (LOp.eqb (LOp.neq rfl rfl rfl) hc24)<|yl rfl (b false) yp<|ym rfl (b false)<|ym rfl (oref 6 1 0 r28.length)<|yl rfl (i64 ((r28.length : Nat) : Int)) (LOp.len_oref und26 rfl rfl)<|ym rfl (i64 x3)<|yl rfl (i64 x31) (LOp.eqr (LOp.sub rfl rfl rfl) (congrArg (ik .i64) hx25))<|yl rfl (b false) (LOp.eqb (LOp.neq rfl rfl rfl) hc26)<|yl rfl (b false) yp<|ym rfl (b false)<|ym rfl (f32 r25)<|yl rfl (b false) (LOp.eqb (LOp.fle rfl (OpF.tmp rfl) (OpF.const rfl (by kernel_rfl) (by kernel_rfl))) hc27)<|yl rfl (b false) yp<|ym rfl (b false)<|ym rfl (f32 r25)<|yl rfl (b true) (LOp.eqb (LOp.fgt rfl (OpF.tmp rfl) (OpF.const rfl (by kernel_rfl) (by kernel_rfl))) hc28)<|yl rfl (b true) yp<|zN ?_
             exact .inl ⟨(Le.of ⟨aR, aR, aR, aR, aR, aR, aR, trivial⟩ ⟨⟨rfl, .inl rfl⟩, ⟨rfl, .inr rfl⟩, ⟨rfl, .inl rfl⟩, ⟨rfl, .inr rfl⟩, ⟨rfl, .inr rfl⟩, ⟨rfl, .inl rfl⟩, ⟨rfl, .inr rfl⟩, trivial⟩), h⟩
            ·refine yW<|yl rfl (b true) (yv hc17)<|yl rfl (b false) y1<|ym rfl (b false)<|yl rfl (b true) (yv hc18)<|yl rfl (b false) y1<|yl rfl (b false) yp<|ym rfl (b false)<|yl rfl (b true) (yv hc19)<|yl rfl (b false) y1<|yl rfl (b false) yp<|ym rfl (b false)<|yl rfl (b true) (yv hc20)<|yl rfl (b false) y1<|yl rfl (b false) yp<|ym rfl (b false)<|ym rfl (oref 2 1 0 r20.length)<|ym rfl (sFc r16)<|yd rfl (b false) (TOp.eqb (yc ent16 rfl rfl (Bors.cons (Bor.own (f := f32) (fun _ => rfl) rfl rfl) (bS (Bors.cons (Bor.le (ALe.fl (by kernel_rfl) (by kernel_rfl)) (Bor.pure rfl)) bN))) (w_b10Far_ok r20 r16 (some 4562254508917369340) r29 hf21)) hc22)<|yl rfl (b false) yp<|ym rfl (b false)<|ym rfl (oref 5 1 0 r27.length)<|yl rfl (i64 ((r27.length : Nat) : Int)) (LOp.len_oref und26 rfl rfl)<|ym rfl (i64 x3)<|yl rfl (i64 x30) (LOp.eqr (LOp.sub rfl rfl rfl) (congrArg (ik .i64) hx23))<|yl rfl (b false) (LOp.eqb (LOp.neq rfl rfl rfl) hc24)<|yl rfl (b false) yp<|ym rfl (b false)<|ym rfl (oref 6 1 0 r28.length)<|yl rfl (i64 ((r28.length : Nat) : Int)) (LOp.len_oref und26 rfl rfl)<|ym rfl (i64 x3)<|yl rfl (i64 x31) (LOp.eqr (LOp.sub rfl rfl rfl) (congrArg (ik .i64) hx25))<|yl rfl (b false) (LOp.eqb (LOp.neq rfl rfl rfl) hc26)<|yl rfl (b false) yp<|ym rfl (b false)<|ym rfl (f32 r25)<|yl rfl (b false) (LOp.eqb (LOp.fle rfl (OpF.tmp rfl) (OpF.const rfl (by kernel_rfl) (by kernel_rfl))) hc27)<|yl rfl (b false) yp<|ym rfl (b false)<|ym rfl (f32 r25)<|yl rfl (b false) (LOp.eqb (LOp.fgt rfl (OpF.tmp rfl) (OpF.const rfl (by kernel_rfl) (by kernel_rfl))) hc28)<|yl rfl (b false) yp<|zN ?_
             exact .inr (⟨(Le.of ⟨aR, aR, aR, aR, aR, aR, aR, trivial⟩ ⟨⟨rfl, .inl rfl⟩, ⟨rfl, .inr rfl⟩, ⟨rfl, .inl rfl⟩, ⟨rfl, .inr rfl⟩, ⟨rfl, .inr rfl⟩, ⟨rfl, .inl rfl⟩, ⟨rfl, .inr rfl⟩, trivial⟩), h⟩)
       ·refine yW<|yl rfl (b true) (yv hc17)<|yl rfl (b false) y1<|ym rfl (b false)<|yl rfl (b true) (yv hc18)<|yl rfl (b false) y1<|yl rfl (b false) yp<|ym rfl (b false)<|yl rfl (b true) (yv hc19)<|yl rfl (b false) y1<|yl rfl (b false) yp<|ym rfl (b false)<|yl rfl (b false) (yv hc20)<|yl rfl (b true) y0<|yl rfl (b true) yp<|ym rfl (b true)<|ROps.s rfl rfl rfl<|ROps.s rfl rfl rfl<|ROps.s rfl rfl rfl<|yl rfl (b true) yq<|ym rfl (b true)<|ROps.s rfl rfl rfl<|ROps.s rfl rfl rfl<|ROps.s rfl rfl rfl<|ROps.s rfl rfl rfl<|ROps.s rfl rfl rfl<|yl rfl (b true) yq<|ym rfl (b true)<|ROps.s rfl rfl rfl<|ROps.s rfl rfl rfl<|ROps.s rfl rfl rfl<|ROps.s rfl rfl rfl<|ROps.s rfl rfl rfl<|yl rfl (b true) yq<|ym rfl (b true)<|ROps.s rfl rfl rfl<|ROps.s rfl rfl rfl<|yl rfl (b true) yq<|ym rfl (b true)<|ROps.s rfl rfl rfl<|ROps.s rfl rfl rfl<|yl rfl (b true) yq<|zN ?_
        exact .inl ⟨(Le.of ⟨aR, aR, aR, aR, aR, aR, aR, trivial⟩ ⟨⟨rfl, .inl rfl⟩, ⟨rfl, .inr rfl⟩, ⟨rfl, .inl rfl⟩, ⟨rfl, .inr rfl⟩, ⟨rfl, .inr rfl⟩, ⟨rfl, .inl rfl⟩, ⟨rfl, .inr rfl⟩, trivial⟩), h⟩
      ·refine yW<|yl rfl (b true) (yv hc17)<|yl rfl (b false) y1<|ym rfl (b false)<|yl rfl (b true) (yv hc18)<|yl rfl (b false) y1<|yl rfl (b false) yp<|ym rfl (b false)<|yl rfl (b false) (yv hc19)<|yl rfl (b true) y0<|yl rfl (b true) yp<|ym rfl (b true)<|ROps.s rfl rfl rfl<|ROps.s rfl rfl rfl<|yl rfl (b true) yq<|ym rfl (b true)<|ROps.s rfl rfl rfl<|ROps.s rfl rfl rfl<|ROps.s rfl rfl rfl<|yl rfl (b true) yq<|ym rfl (b true)<|ROps.s rfl rfl rfl<|ROps.s rfl rfl rfl<|ROps.s rfl rfl rfl<|ROps.s rfl rfl rfl<|ROps.s rfl rfl rfl<|yl rfl (b true) yq<|ym rfl (b true)<|ROps.s rfl rfl rfl<|ROps.s rfl rfl rfl<|ROps.s rfl rfl rfl<|ROps.s rfl rfl rfl<|ROps.s rfl rfl rfl<|yl rfl (b true) yq<|ym rfl (b true)<|ROps.s rfl rfl rfl<|ROps.s rfl rfl rfl<|yl rfl (b true) yq<|ym rfl (b true)<|ROps.s rfl rfl rfl<|ROps.s rfl rfl rfl<|yl rfl (b true) yq<|zN ?_
       exact .inl ⟨(Le.of ⟨aR, aR, aR, aR, aR, aR, aR, trivial⟩ ⟨⟨rfl, .inl rfl⟩, ⟨rfl, .inr rfl⟩, ⟨rfl, .inl rfl⟩, ⟨rfl, .inr rfl⟩, ⟨rfl, .inr rfl⟩, ⟨rfl, .inl rfl⟩, ⟨rfl, .inr rfl⟩, trivial⟩), h⟩
     ·refine yW<|yl rfl (b true) (yv hc17)<|yl rfl (b false) y1<|ym rfl (b false)<|yl rfl (b false) (yv hc18)<|yl rfl (b true) y0<|yl rfl (b true) yp<|ym rfl (b true)<|ROps.s rfl rfl rfl<|ROps.s rfl rfl rfl<|yl rfl (b true) yq<|ym rfl (b true)<|ROps.s rfl rfl rfl<|ROps.s rfl rfl rfl<|yl rfl (b true) yq<|ym rfl (b true)<|ROps.s rfl rfl rfl<|ROps.s rfl rfl rfl<|ROps.s rfl rfl rfl<|yl rfl (b true) yq<|ym rfl (b true)<|ROps.s rfl rfl rfl<|ROps.s rfl rfl rfl<|ROps.s rfl rfl rfl<|ROps.s rfl rfl rfl<|ROps.s rfl rfl rfl<|yl rfl (b true) yq<|ym rfl (b true)<|ROps.s rfl rfl rfl<|ROps.s rfl rfl rfl<|ROps.s rfl rfl rfl<|ROps.s rfl rfl rfl<|ROps.s rfl rfl rfl<|yl rfl (b true) yq<|ym rfl (b true)<|ROps.s rfl rfl rfl<|ROps.s rfl rfl rfl<|yl rfl (b true) yq<|ym rfl (b true)<|ROps.s rfl rfl rfl<|ROps.s rfl rfl rfl<|yl rfl (b true) yq<|zN ?_
      exact .inl ⟨(Le.of ⟨aR, aR, aR, aR, aR, aR, aR, trivial⟩ ⟨⟨rfl, .inl rfl⟩, ⟨rfl, .inr rfl⟩, ⟨rfl, .inl rfl⟩, ⟨rfl, .inr rfl⟩, ⟨rfl, .inr rfl⟩, ⟨rfl, .inl rfl⟩, ⟨rfl, .inr rfl⟩, trivial⟩), h⟩
    ·refine yW<|yl rfl (b false) (yv hc17)<|yl rfl (b true) y0<|ym rfl (b true)<|ROps.s rfl rfl rfl<|ROps.s rfl rfl rfl<|yl rfl (b true) yq<|ym rfl (b true)<|ROps.s rfl rfl rfl<|ROps.s rfl rfl rfl<|yl rfl (b true) yq<|ym rfl (b true)<|ROps.s rfl rfl rfl<|ROps.s rfl rfl rfl<|yl rfl (b true) yq<|ym rfl (b true)<|ROps.s rfl rfl rfl<|ROps.s rfl rfl rfl<|ROps.s rfl rfl rfl<|yl rfl (b true) yq<|ym rfl (b true)<|ROps.s rfl rfl rfl<|ROps.s rfl rfl rfl<|ROps.s rfl rfl rfl<|ROps.s rfl rfl rfl<|ROps.s rfl rfl rfl<|yl rfl (b true) yq<|ym rfl (b true)<|ROps.s rfl rfl rfl<|ROps.s rfl rfl rfl<|ROps.s rfl rfl rfl<|ROps.s rfl rfl rfl<|ROps.s rfl rfl rfl<|yl rfl (b true) yq<|ym rfl (b true)<|ROps.s rfl rfl rfl<|ROps.s rfl rfl rfl<|yl rfl (b true) yq<|ym rfl (b true)<|ROps.s rfl rfl rfl<|ROps.s rfl rfl rfl<|yl rfl (b true) yq<|zN ?_
     exact .inl ⟨(Le.of ⟨aR, aR, aR, aR, aR, aR, aR, trivial⟩ ⟨⟨rfl, .inl rfl⟩, ⟨rfl, .inr rfl⟩, ⟨rfl, .inl rfl⟩, ⟨rfl, .inr rfl⟩, ⟨rfl, .inr rfl⟩, ⟨rfl, .inl rfl⟩, ⟨rfl, .inr rfl⟩, trivial⟩), h⟩
   ·rintro τ21 Γ21 (⟨hw21, h⟩ | ⟨hw21, h⟩)
    ·refine RunC.le (τ' := [(0, sl a0.length (a0.map (ik .u8))), (1, sl a1.length (a1.map (ik .u8))), (8, (sFc r16)), (9, oref 1 (u14 + 1) 0 r18.length), (13, optr 4 1 0), (16, oref 6 1 0 r28.length), (125, b true)]) (Γ' := [⟨u13, none⟩, ⟨(u14 + 1), some (r18.map f32)⟩, ⟨1, none⟩, ⟨1, some (r24.map f32)⟩, ⟨1, some (oXc r21 r22 3 1 r24.length)⟩, ⟨1, none⟩, ⟨1, some (r28.map f32)⟩]) hw21 ?_
     unfold w_FnShiftRows_k3 at h
     refine yT<|zQ<|ya rfl (b false)<|zN ?_
     refine RunC.ret ?_
     have hq := oI h
     subst q0
     exact bodyQ.pure (.inr rfl) rfl (Res.one rfl (RV.tmp rfl))
    ·refine RunC.le (τ' := [(0, sl a0.length (a0.map (ik .u8))), (1, sl a1.length (a1.map (ik .u8))), (8, (sFc r16)), (9, oref 1 (u14 + 1) 0 r18.length), (13, optr 4 1 0), (16, oref 6 1 0 r28.length), (125, b false)]) (Γ' := [⟨u13, none⟩, ⟨(u14 + 1), some (r18.map f32)⟩, ⟨1, none⟩, ⟨1, some (r24.map f32)⟩, ⟨1, some (oXc r21 r22 3 1 r24.length)⟩, ⟨1, none⟩, ⟨1, some (r28.map f32)⟩]) hw21 ?_
     unfold w_FnShiftRows_k5 at h
     refine yF<|RunC.skip<|yS ?_
     obtain ⟨r32, r33, hf29, h⟩ := obind2_some h
     refine yW<|yd rfl (agg (oXc r21 r22 3 1 r24.length)) (TOp.loadAgg_o rfl agg33 siz33 rfl rfl rfl rfl)<|ym rfl (oref 1 (u14 + 1) 0 r18.length)<|ye rfl (tup [oref 0 (u13 + 1) 0 r33.length, b r32]) [⟨(u13 + 1), some (r33.map f32)⟩, ⟨(u14 + 1), some (r18.map f32)⟩, ⟨1, none⟩, ⟨1, some (r24.map f32)⟩, ⟨1, some (oXc r21 r22 3 1 r24.length)⟩, ⟨1, none⟩, ⟨1, some (r28.map f32)⟩] (TOp.eqr (TOp.callBN (ls := [(r33.map f32)]) [0] (CallAs.func ent15 rfl rfl) (Bors.cons (Bor.agg (bP (bP (Bors.cons (Bor.own (f := f32) (fun _ => rfl) rfl rfl) bN)))) (Bors.cons (Bor.own (f := f32) (fun _ => rfl) rfl rfl) bN)) rfl (s_TimesVector_ok r21 r22 r24 r18 r32 r33 hf29) (and_all (lts0_map (f := f32) (fun _ => rfl) _) rfl) (and_all (noss_map (f := f32) (fun _ => rfl) _) rfl) rfl (by decide) (ns_of ⟨⟨_, rfl⟩, trivial⟩)) (by simp [ren, rens, sigma, newNames]))<|ym rfl (tup [oref 0 (u13 + 1) 0 r33.length, b r32])<|yl rfl (oref 0 (u13 + 1) 0 r33.length) y3<|yl rfl (b r32) y3<|ya rfl (oref 0 (u13 + 1) 0 r33.length)<|ya rfl (b r32)<|zN ?_
     refine RunC.wl (τ' := [(0, sl a0.length (a0.map (ik .u8))), (1, sl a1.length (a1.map (ik .u8))), (8, (sFc r16)), (16, oref 6 1 0 r28.length), (19, oref 0 (u13 + 1) 0 r33.length), (20, b r32)]) (Γ' := [⟨(u13 + 1), some (r33.map f32)⟩, ⟨(u14 + 1), none⟩, ⟨1, none⟩, ⟨1, none⟩, ⟨1, none⟩, ⟨1, none⟩, ⟨1, some (r28.map f32)⟩]) ⟨aR, aR, aR, aR, aR, aR, trivial⟩ ⟨⟨rfl, .inr rfl⟩, ⟨rfl, .inl rfl⟩, ⟨rfl, .inl rfl⟩, ⟨rfl, .inl rfl⟩, ⟨rfl, .inl rfl⟩, ⟨rfl, .inl rfl⟩, ⟨rfl, .inr rfl⟩, trivial⟩<|yS<|yS<|RunC.cutN (fun τ Γ => ( Le 601 τ Γ [(0, sl a0.length (a0.map (ik .u8))), (1, sl a1.length (a1.map (ik .u8))), (16, oref 6 1 0 r28.length), (138, b true)] [⟨(u13 + 1), none⟩, ⟨(u14 + 1), none⟩, ⟨1, none⟩, ⟨1, none⟩, ⟨1, none⟩, ⟨1, none⟩, ⟨1, some (r28.map f32)⟩] ∧ w_FnShiftRows_k7 = some q0) ∨ ( Le 601 τ Γ [(0, sl a0.length (a0.map (ik .u8))), (1, sl a1.length (a1.map (ik .u8))), (16, oref 6 1 0 r28.length), (138, b false)] [⟨(u13 + 1), none⟩, ⟨(u14 + 1), none⟩, ⟨1, none⟩, ⟨1, none⟩, ⟨1, none⟩, ⟨1, none⟩, ⟨1, some (r28.map f32)⟩] ∧ w_FnShiftRows_k9 a0 a1 r28 = some q0)) ?_ ?_
     ·rcases oB h with ⟨hc30, h⟩ | ⟨hc30, h⟩
      ·obtain ⟨r34, hf31, h⟩ := oS h
       rcases oB h with ⟨hc32, h⟩ | ⟨hc32, h⟩
       ·refine yW<|yl rfl (b true) (yv hc30)<|yl rfl (b false) y1<|ym rfl (b false)<|ym rfl (oref 0 (u13 + 1) 0 r33.length)<|ym rfl (sFc r16)<|yd rfl (b true) (TOp.eqb (yc ent16 rfl rfl (Bors.cons (Bor.own (f := f32) (fun _ => rfl) rfl rfl) (bS (Bors.cons (Bor.le (ALe.fl (by kernel_rfl) (by kernel_rfl)) (Bor.pure rfl)) bN))) (w_b10Far_ok r33 r16 (some 4562254508917369340) r34 hf31)) hc32)<|yl rfl (b true) yp<|zN ?_
        exact .inl ⟨(Le.of ⟨aR, aR, aR, aR, trivial⟩ ⟨⟨rfl, .inl rfl⟩, ⟨rfl, .inl rfl⟩, ⟨rfl, .inl rfl⟩, ⟨rfl, .inl rfl⟩, ⟨rfl, .inl rfl⟩, ⟨rfl, .inl rfl⟩, ⟨rfl, .inr rfl⟩, trivial⟩), h⟩
       ·refine yW<|yl rfl (b true) (yv hc30)<|yl rfl (b false) y1<|ym rfl (b false)<|ym rfl (oref 0 (u13 + 1) 0 r33.length)<|ym rfl (sFc r16)<|yd rfl (b false) (TOp.eqb (yc ent16 rfl rfl (Bors.cons (Bor.own (f := f32) (fun _ => rfl) rfl rfl) (bS (Bors.cons (Bor.le (ALe.fl (by kernel_rfl) (by kernel_rfl)) (Bor.pure rfl)) bN))) (w_b10Far_ok r33 r16 (some 4562254508917369340) r34 hf31)) hc32)<|yl rfl (b false) yp<|zN ?_
        exact .inr (⟨(Le.of ⟨aR, aR, aR, aR, trivial⟩ ⟨⟨rfl, .inl rfl⟩, ⟨rfl, .inl rfl⟩, ⟨rfl, .inl rfl⟩, ⟨rfl, .inl rfl⟩, ⟨rfl, .inl rfl⟩, ⟨rfl, .inl rfl⟩, ⟨rfl, .inr rfl⟩, trivial⟩), h⟩)
      ·refine yW<|yl rfl (b false) (yv hc30)<|yl rfl (b true) y0<|ym rfl (b true)<|ROps.s rfl rfl rfl<|ROps.s rfl rfl rfl<|ROps.s rfl rfl rfl<|yl rfl (b true) yq<|zN ?_
       exact .inl ⟨(Le.of ⟨aR, aR, aR, aR, trivial⟩ ⟨⟨rfl, .inl rfl⟩, ⟨rfl, .inl rfl⟩, ⟨rfl, .inl rfl⟩, ⟨rfl, .inl rfl⟩, ⟨rfl, .inl rfl⟩, ⟨rfl, .inl rfl⟩, ⟨rfl, .inr rfl⟩, trivial⟩), h⟩
     ·rintro τ22 Γ22 (⟨hw22, h⟩ | ⟨hw22, h⟩)
      ·refine RunC.le (τ' := [(0, sl a0.length (a0.map (ik .u8))), (1, sl a1.length (a1.map (ik .u8))), (16, oref 6 1 0 r28.length), (138, b true)]) (Γ' := [⟨(u13 + 1), none⟩, ⟨(u14 + 1), none⟩, ⟨1, none⟩, ⟨1, none⟩, ⟨1, none⟩, ⟨1, none⟩, ⟨1, some (r28.map f32)⟩]) hw22 ?_
       unfold w_FnShiftRows_k7 at h
       refine yT<|zQ<|ya rfl (b false)<|zN ?_
       refine RunC.ret ?_
       have hq := oI h
       subst q0
       exact bodyQ.pure (.inr rfl) rfl (Res.one rfl (RV.tmp rfl))
      ·refine RunC.le (τ' := [(0, sl a0.length (a0.map (ik .u8))), (1, sl a1.length (a1.map (ik .u8))), (16, oref 6 1 0 r28.length), (138, b false)]) (Γ' := [⟨(u13 + 1), none⟩, ⟨(u14 + 1), none⟩, ⟨1, none⟩, ⟨1, none⟩, ⟨1, none⟩, ⟨1, none⟩, ⟨1, some (r28.map f32)⟩]) hw22 ?_
       unfold w_FnShiftRows_k9 at h
       refine yF<|RunC.skip<|yS<|zQ<|ym rfl (oref 6 1 0 r28.length)<|yl rfl (i64 ((r28.length : Nat) : Int)) (LOp.len_oref und26 rfl rfl)<|ym rfl (i64 0)<|zN ?_
       obtain ⟨z23, hz_23, h⟩ := oS h
       refine RunC.cutN (fun τ Γ => Le 601 τ Γ [(0, sl a0.length (a0.map (ik .u8))), (1, sl a1.length (a1.map (ik .u8)))] [⟨(u13 + 1), none⟩, ⟨(u14 + 1), none⟩, ⟨1, none⟩, ⟨1, none⟩, ⟨1, none⟩, ⟨1, none⟩, ⟨1, none⟩] ∧ z23 = .inl ()) ?_ ?_
       ·refine RunC.block (RunC.loop (RunL.loopM (x := z23) (w_FnShiftRows_s10 r28) (fun (s : Int) τ Γ => Le 601 τ Γ [(0, sl a0.length (a0.map (ik .u8))), (1, sl a1.length (a1.map (ik .u8))), (16, oref 6 1 0 r28.length), (140, i64 ((r28.length : Nat) : Int)), (141, i64 s)] [⟨(u13 + 1), none⟩, ⟨(u14 + 1), none⟩, ⟨1, none⟩, ⟨1, none⟩, ⟨1, none⟩, ⟨1, none⟩, ⟨1, some (r28.map f32)⟩]) ?_ _ _ _ hz_23 (Le.of ⟨aR, aR, aR, aR, aR, trivial⟩ ⟨⟨rfl, .inl rfl⟩, ⟨rfl, .inl rfl⟩, ⟨rfl, .inl rfl⟩, ⟨rfl, .inl rfl⟩, ⟨rfl, .inl rfl⟩, ⟨rfl, .inl rfl⟩, ⟨rfl, .inr rfl⟩, trivial⟩)))
        rintro v35 τ23 Γ23 y23_ hw23 h23_ ho23 hr23
        refine RunC.le (τ' := [(0, sl a0.length (a0.map (ik .u8))), (1, sl a1.length (a1.map (ik .u8))), (16, oref 6 1 0 r28.length), (140, i64 ((r28.length : Nat) : Int)), (141, i64 v35)]) (Γ' := [⟨(u13 + 1), none⟩, ⟨(u14 + 1), none⟩, ⟨1, none⟩, ⟨1, none⟩, ⟨1, none⟩, ⟨1, none⟩, ⟨1, some (r28.map f32)⟩]) hw23 ?_
        replace h23_ : w_FnShiftRows_b10 r28 v35 = some y23_ := h23_
        unfold w_FnShiftRows_b10 at h23_
        refine yS ?_
        rcases oB h23_ with ⟨hc33, h23_⟩ | ⟨hc33, h23_⟩
        ·refine yW<|yl rfl (b true) (LOp.eqb (LOp.lss rfl rfl rfl) hc33)<|zN ?_
         refine yS<|yT<|RunC.skip<|yS<|RunC.block<|zQ<|ym rfl (i64 v35)<|ya rfl (i64 v35)<|zN ?_
         refine yS ?_
         obtain ⟨e36, he34, h23_⟩ := oS h23_
         rcases oB h23_ with ⟨hc35, h23_⟩ | ⟨hc35, h23_⟩
         ·refine yW<|ym rfl (oref 6 1 0 r28.length)<|ym rfl (i64 v35)<|yd rfl (optr 6 1 v35.toNat) (TOp.ixo und26 siz28 rfl rfl rfl (at_in he34 rfl) rfl)<|yd rfl (f32 e36) (TOp.load1_o rfl (at_cell he34) agg28 rfl rfl)<|yl rfl (b true) (LOp.eqb (LOp.fge rfl (OpF.tmp rfl) (OpF.const rfl (by kernel_rfl) (by kernel_rfl))) hc35)<|ym rfl (b true)<|ROps.s rfl rfl rfl<|ROps.s rfl rfl rfl<|ROps.s rfl rfl rfl<|ROps.s rfl rfl rfl<|ROps.s rfl rfl rfl<|yl rfl (b true) yq<|zN ?_
          refine yT<|zQ<|ya rfl (b false)<|zN ?_
          refine RunC.ret ?_
          cases oI h23_
          have hx24_ := hr23 _ rfl
          subst hx24_
          have hq := oI h
          subst q0
          exact bodyQ.pure (.inr rfl) rfl (Res.one rfl (RV.tmp rfl))
         ·obtain ⟨e37, he36, h23_⟩ := oS h23_
          rcases oB h23_ with ⟨hc37, h23_⟩ | ⟨hc37, h23_⟩
          ·refine yW<|ym rfl (oref 6 1 0 r28.length)<|ym rfl (i64 v35)<|yd rfl (optr 6 1 v35.toNat) (TOp.ixo und26 siz28 rfl rfl rfl (at_in he34 rfl) rfl)<|yd rfl (f32 e36) (TOp.load1_o rfl (at_cell he34) agg28 rfl rfl)<|yl rfl (b false) (LOp.eqb (LOp.fge rfl (OpF.tmp rfl) (OpF.const rfl (by kernel_rfl) (by kernel_rfl))) hc35)<|ym rfl (b false)<|ym rfl (oref 6 1 0 r28.length)<|ym rfl (i64 v35)<|yd rfl (optr 6 1 v35.toNat) (TOp.ixo und26 siz28 rfl rfl rfl (at_in he36 rfl) rfl)<|yd rfl (f32 e37) (TOp.load1_o rfl (at_cell he36) agg28 rfl rfl)<|yl rfl (b true) (LOp.eqb (LOp.fle rfl (OpF.tmp rfl) (OpF.const rfl (by kernel_rfl) (by kernel_rfl))) hc37)<|yl rfl (b true) yp<|zN ?_
           refine yT<|zQ<|ya rfl (b false)<|zN ?_
           refine RunC.ret ?_
           cases oI h23_
           have hx25_ := hr23 _ rfl
           subst hx25_
           have hq := oI h
           subst q0
           exact bodyQ.pure (.inr rfl) rfl (Res.one rfl (RV.tmp rfl))
          ·refine yW<|ym rfl (oref 6 1 0 r28.length)<|ym rfl (i64 v35)<|yd rfl (optr 6 1 v35.toNat) (TOp.ixo und26 siz28 rfl rfl rfl (at_in he34 rfl) rfl)<|yd rfl (f32 e36) (TOp.load1_o rfl (at_cell he34) agg28 rfl rfl)<|yl rfl (b false) (LOp.eqb (LOp.fge rfl (OpF.tmp rfl) (OpF.const rfl (by kernel_rfl) (by kernel_rfl))) hc35)<|ym rfl (b false)<|ym rfl (oref 6 1 0 r28.length)<|ym rfl (i64 v35)<|yd rfl (optr 6 1 v35.toNat) (TOp.ixo und26 siz28 rfl rfl rfl (at_in he36 rfl) rfl)<|yd rfl (f32 e37) (TOp.load1_o rfl (at_cell he36) agg28 rfl rfl)<|yl rfl (b false) (LOp.eqb (LOp.fle rfl (OpF.tmp rfl) (OpF.const rfl (by kernel_rfl) (by kernel_rfl))) hc37)<|yl rfl (b false) yp<|zN ?_
           refine yF<|RunC.skip ?_
           obtain ⟨x38, hx38, h23_⟩ := oL h23_
           refine yW<|yl rfl (i64 x38) (LOp.eqr (LOp.add rfl rfl rfl) (congrArg (ik .i64) hx38))<|ym rfl (i64 x38)<|zN ?_
           cases oI h23_
           exact ⟨_, rfl, (Le.of ⟨aR, aR, aR, aR, aR, trivial⟩ ⟨⟨rfl, .inl rfl⟩, ⟨rfl, .inl rfl⟩, ⟨rfl, .inl rfl⟩, ⟨rfl, .inl rfl⟩, ⟨rfl, .inl rfl⟩, ⟨rfl, .inl rfl⟩, ⟨rfl, .inr rfl⟩, trivial⟩)⟩
        ·refine yW<|yl rfl (b false) (LOp.eqb (LOp.lss rfl rfl rfl) hc33)<|zN ?_
         refine yS<|yF<|RunC.exit ?_
         cases oI h23_
         have hx := ho23 _ rfl
         exact ⟨(Le.of ⟨aR, aR, trivial⟩ ⟨⟨rfl, .inl rfl⟩, ⟨rfl, .inl rfl⟩, ⟨rfl, .inl rfl⟩, ⟨rfl, .inl rfl⟩, ⟨rfl, .inl rfl⟩, ⟨rfl, .inl rfl⟩, ⟨rfl, .inl rfl⟩, trivial⟩), hx⟩
       ·rintro τ26 Γ26 ⟨hw26, rfl⟩
        refine RunC.le hw26 ?_
        replace h : w_FnShiftRows_k10 a0 a1 = some q0 := h
        unfold w_FnShiftRows_k10 at h
        refine yS ?_
        obtain ⟨r39, hf39, h⟩ := oS h
        obtain ⟨x40, hx40, h⟩ := oL h
        refine yW<|ym rfl (sl a1.length (a1.map (ik .u8)))<|yd rfl (i64 r39) (yc ent8 rfl rfl (bS (bP bN0)) (w_b10At_ok a1 1 8 r39 hf39))<|yl rfl (i64 x40) (LOp.eqr (LOp.add rfl rfl rfl) (congrArg (ik .i64) hx40))<|ya rfl (i64 x40)<|zN ?_
        refine yS ?_
        obtain ⟨r41, r42, r43, hf41, h⟩ := obind3_some h
        refine yW<|ym rfl (sl a0.length (a0.map (ik .u8)))<|ym rfl (i64 x40)<|yd rfl (agg [(sFc r41), (sFc r42), (sFc r43)]) (TOp.callS (CallAs.func ent23 rfl rfl) (ALes.cons aR (ALes.cons aR ALes.nil)) (lts_cons (lt_sl (fun _ => rfl)) (lts_cons rfl lts_nil)) (lt_agg (lts_cons (lt_sl (fun _ => rfl)) (lts_cons (lt_sl (fun _ => rfl)) (lts_cons (lt_sl (fun _ => rfl)) lts_nil)))) (s_B10Thirds_ok a0 x40 r41 r42 r43 hf41) (Bor.agg (Bors.cons (Bor.own (f := f32) (fun _ => rfl) rfl rfl) (Bors.cons (Bor.own (f := f32) (fun _ => rfl) rfl rfl) (Bors.cons (Bor.own (f := f32) (fun _ => rfl) rfl rfl) bN)))))<|ye rfl (optr 0 (u13 + 2) 0) ([⟨(u13 + 2), some [nilsl, nilsl, nilsl]⟩, ⟨(u14 + 1), none⟩, ⟨1, none⟩, ⟨1, none⟩, ⟨1, none⟩, ⟨1, none⟩, ⟨1, none⟩]) (TOp.alloc_o (g := ⟨(u13 + 1), none⟩) 0 rfl zer47 zok47 rfl)<|ys (agg [(sFc r41), (sFc r42), (sFc r43)]) [(sFc r41), (sFc r42), (sFc r43)] ([⟨(u13 + 2), some [(sFc r41), (sFc r42), (sFc r43)]⟩, ⟨(u14 + 1), none⟩, ⟨1, none⟩, ⟨1, none⟩, ⟨1, none⟩, ⟨1, none⟩, ⟨1, none⟩]) siz47<|zN ?_
        refine yS ?_
        obtain ⟨r44, hf42, h⟩ := oS h
        refine yW<|ym rfl (sl a1.length (a1.map (ik .u8)))<|ym rfl (i64 x40)<|yd rfl (sFc r44) (TOp.callS (CallAs.func ent18 rfl rfl) (ALes.cons aR (ALes.cons aR ALes.nil)) (lts_cons (lt_sl (fun _ => rfl)) (lts_cons rfl lts_nil)) (lt_sl (fun _ => rfl)) (s_B10Vector_ok a1 x40 r44 hf42) (Bor.own (f := f32) (fun _ => rfl) rfl rfl))<|ya rfl (sFc r44)<|zN ?_
        refine yS ?_
        obtain ⟨r45, r46, hf43, h⟩ := obind2_some h
        refine yW<|yd rfl (agg [(sFc r41), (sFc r42), (sFc r43)]) (TOp.loadAgg_o rfl agg47 siz47 rfl rfl rfl rfl)<|ym rfl (sFc r44)<|yd rfl (tup [(sFc r46), b r45]) (TOp.callS (CallAs.func ent24 rfl rfl) (ALes.cons aR (ALes.cons aR ALes.nil)) (lts_cons (lt_agg (lts_cons (lt_sl (fun _ => rfl)) (lts_cons (lt_sl (fun _ => rfl)) (lts_cons (lt_sl (fun _ => rfl)) lts_nil)))) (lts_cons (lt_sl (fun _ => rfl)) lts_nil)) (lt_tup (lts_cons (lt_sl (fun _ => rfl)) (lts_cons rfl lts_nil))) (i_ThirdsSolve_ok r41 r42 r43 r44 r45 r46 hf43) (Bor.tup (Bors.cons (Bor.own (f := f32) (fun _ => rfl) rfl rfl) bN0)))<|ym rfl (tup [(sFc r46), b r45])<|yl rfl (sFc r46) y3<|yl rfl (b r45) y3<|ya rfl (sFc r46)<|ya rfl (b r45)<|zN ?_
        refine yS ?_
        obtain ⟨r47, r48, hf44, h⟩ := obind2_some h
        refine yW<|yd rfl (agg [(sFc r41), (sFc r42), (sFc r43)]) (TOp.loadAgg_o rfl agg47 siz47 rfl rfl rfl rfl)<|ym rfl (sFc r46)<|yd rfl (tup [(sFc r48), b r47]) (TOp.callS (CallAs.func ent25 rfl rfl) (ALes.cons aR (ALes.cons aR ALes.nil)) (lts_cons (lt_agg (lts_cons (lt_sl (fun _ => rfl)) (lts_cons (lt_sl (fun _ => rfl)) (lts_cons (lt_sl (fun _ => rfl)) lts_nil)))) (lts_cons (lt_sl (fun _ => rfl)) lts_nil)) (lt_tup (lts_cons (lt_sl (fun _ => rfl)) (lts_cons rfl lts_nil))) (i_ThirdsTimes_ok r41 r42 r43 r46 r47 r48 hf44) (Bor.tup (Bors.cons (Bor.own (f := f32) (fun _ => rfl) rfl rfl) bN0)))<|ym rfl (tup [(sFc r48), b r47])<|yl rfl (sFc r48) y3<|yl rfl (b r47) y3<|ya rfl (sFc r48)<|ya rfl (b r47)<|zN ?_
        refine yS ?_
        obtain ⟨r49, hf45, h⟩ := oS h
        obtain ⟨x50, hx46, h⟩ := oL h
        obtain ⟨x51, hx47, h⟩ := oL h
        obtain ⟨x52, hx48, h⟩ := oL h
        refine yW<|ym rfl (sl a1.length (a1.map (ik .u8)))<|yd rfl (i64 r49) (yc ent8 rfl rfl (bS (bP bN0)) (w_b10At_ok a1 2 9 r49 hf45))<|yl rfl (i64 x50) (LOp.eqr (LOp.sub rfl rfl rfl) (congrArg (ik .i64) hx46))<|yl rfl (f32 x51) (LOp.eqr (LOp.i2f (src := 2) (dst := 28) ⟨_, pun2⟩ pun28 rfl rfl) (congrArg (f .f32) hx47))<|yd rfl (f32 x52) (TOp.eqr (TOp.fop (.inr (.inr (.inr rfl))) rfl (OpF.tmp rfl) (OpF.const rfl (by kernel_rfl) (by kernel_rfl))) (congrArg (f .f32) hx48))<|ya rfl (f32 x52)<|zN ?_
        refine yS ?_
        obtain ⟨r53, hf49, h⟩ := oS h
        obtain ⟨x54, hx50, h⟩ := oL h
        obtain ⟨x55, hx51, h⟩ := oL h
        obtain ⟨x56, hx52, h⟩ := oL h
        refine yW<|ym rfl (sl a1.length (a1.map (ik .u8)))<|yd rfl (i64 r53) (yc ent8 rfl rfl (bS (bP bN0)) (w_b10At_ok a1 3 9 r53 hf49))<|yl rfl (i64 x54) (LOp.eqr (LOp.sub rfl rfl rfl) (congrArg (ik .i64) hx50))<|yl rfl (f32 x55) (LOp.eqr (LOp.i2f (src := 2) (dst := 28) ⟨_, pun2⟩ pun28 rfl rfl) (congrArg (f .f32) hx51))<|yd rfl (f32 x56) (TOp.eqr (TOp.fop (.inr (.inr (.inr rfl))) rfl (OpF.tmp rfl) (OpF.const rfl (by kernel_rfl) (by kernel_rfl))) (congrArg (f .f32) hx52))<|ya rfl (f32 x56)<|zN ?_
        refine yS ?_
        obtain ⟨r57, r58, hf53, h⟩ := obind2_some h
        refine yW<|yd rfl (agg [(sFc r41), (sFc r42), (sFc r43)]) (TOp.loadAgg_o rfl agg47 siz47 rfl rfl rfl rfl)<|ym rfl (f32 x52)<|ym rfl (f32 x56)<|ym rfl (sFc r44)<|yd rfl (tup [(sFc r58), b r57]) (TOp.callS (CallAs.func ent26 rfl rfl) (ALes.cons aR (ALes.cons aR (ALes.cons aR (ALes.cons aR ALes.nil)))) (lts_cons (lt_agg (lts_cons (lt_sl (fun _ => rfl)) (lts_cons (lt_sl (fun _ => rfl)) (lts_cons (lt_sl (fun _ => rfl)) lts_nil)))) (lts_cons rfl (lts_cons rfl (lts_cons (lt_sl (fun _ => rfl)) lts_nil)))) (lt_tup (lts_cons (lt_sl (fun _ => rfl)) (lts_cons rfl lts_nil))) (i_ThirdsRing_ok r41 r42 r43 x52 x56 r44 r57 r58 hf53) (Bor.tup (Bors.cons (Bor.own (f := f32) (fun _ => rfl) rfl rfl) bN0)))<|ym rfl (tup [(sFc r58), b r57])<|yl rfl (sFc r58) y3<|yl rfl (b r57) y3<|ya rfl (sFc r58)<|ya rfl (b r57)<|zN ?_
        refine yS ?_
        obtain ⟨r59, hf54, h⟩ := oS h
        obtain ⟨x60, hx55, h⟩ := oL h
        obtain ⟨r61, r62, hf56, h⟩ := obind2_some h
        refine RunC.region_draw (Γ' := [⟨(u13 + 2), some [(sFc r41), (sFc r42), (sFc r43)]⟩, ⟨(u14 + 1), none⟩, ⟨1, none⟩, ⟨1, none⟩, ⟨1, none⟩, ⟨1, none⟩, ⟨1, none⟩]) 13 mixed 
         (TR.d (r := agg [(sFc r41), (sFc r42), (sFc r43)]) (fs := []) rfl rfl (TOp.loadAgg_o rfl agg47 siz47 rfl rfl rfl rfl) <|
         (TR.d (r := agg [(sFc r41), (sFc r42), (sFc r43)]) (fs := []) rfl rfl (TOp.loadAgg_o rfl agg47 siz47 rfl rfl rfl rfl) <|
         (TR.d (r := sl ([(r41, r42, r43), (r41, r42, r43)] : List (List F × List F × List F)).length (([(r41, r42, r43), (r41, r42, r43)] : List (List F × List F × List F)).flatMap (fun z : (List F × List F × List F) => [(sll f32) z.1, (sll f32) z.2.1, (sll f32) z.2.2]))) (fs := []) rfl rfl (TOp.buildSlice_23 (a0 := nilsl) (a1 := nilsl) (a2 := nilsl) (qs := [(0, [(sFc r41), (sFc r42), (sFc r43)]), (1, [(sFc r41), (sFc r42), (sFc r43)])]) und54 siz47 zer47 rfl (fun _ _ => ⟨(by simp [V, nilsl]), (by simp [V, nilsl]), (by simp [V, nilsl])⟩) rfl ⟨rfl, ⟨_, ALe.refl _, rfl⟩, ⟨rfl, ⟨_, ALe.refl _, rfl⟩, trivial⟩⟩ rfl) <|
         (tm rfl (sFc r44) <|
         (tm rfl (sl a1.length (a1.map (ik .u8))) <|
         (TR.d (r := i64 r59) (fs := []) rfl rfl (yc ent8 rfl rfl (bS (bP bN0)) (w_b10At_ok a1 4 8 r59 hf54)) <|
         (tl rfl (i64 x60) (LOp.eqr (LOp.add rfl rfl rfl) (congrArg (ik .i64) hx55)) <|
         (TR.d (r := tup [sl r62.length (r62.map (sll f32)), b r61]) (fs := []) rfl rfl (TOp.callS (CallAs.func ent27 rfl rfl) (ALes.cons aR (ALes.cons aR (ALes.cons aR ALes.nil))) (lts_cons (lt_slw (fun _ => (lts_cons (lt_slk (fun _ => rfl)) (lts_cons (lt_slk (fun _ => rfl)) (lts_cons (lt_slk (fun _ => rfl)) lts_nil))))) (lts_cons (lt_sl (fun _ => rfl)) (lts_cons rfl lts_nil))) (lt_tup (lts_cons (lt_sl (fun _ => lt_slk (fun _ => rfl))) (lts_cons rfl lts_nil))) (i_ThirdsShared_ok ([(r41, r42, r43), (r41, r42, r43)] : List (List F × List F × List F)) r44 x60 r61 r62 hf56) (Bor.tup (Bors.cons (Bor.own (f := (sll f32)) (fun _ => lt_slk (fun _ => rfl)) rfl rfl) bN0))) <|
         (tm rfl (tup [sl r62.length (r62.map (sll f32)), b r61]) <|
         (tl rfl (sl r62.length (r62.map (sll f32))) y3 <|
         (tl rfl (b r61) y3 <|
         (tl rfl (sl r62.length (r62.map (sll f32))) (LOp.assign rfl rfl) <|
         (tl rfl (b r61) (LOp.assign rfl rfl) <|
         TR.nil))))))))))))) rfl (by kernel_rfl) rfl fills_nil rfl ?_
        iterate 13 refine ROps.dropS ?_
        refine ROps.drop0<|zN ?_
        refine RunC.wl (τ' := [(22, i64 x40), (23, optr 0 (u13 + 2) 0), (24, (sFc r44)), (25, (sFc r46)), (26, b r45), (27, (sFc r48)), (28, b r47), (29, f32 x52), (30, f32 x56), (31, (sFc r58)), (32, b r57), (33, sl r62.length (r62.map (sll f32))), (34, b r61)]) (Γ' := [⟨(u13 + 2), some [(sFc r41), (sFc r42), (sFc r43)]⟩, ⟨(u14 + 1), none⟩, ⟨1, none⟩, ⟨1, none⟩, ⟨1, none⟩, ⟨1, none⟩, ⟨1, none⟩]) ⟨aR, aR, aR, aR, aR, aR, aR, aR, aR, aR, aR, aR, aR, trivial⟩ ⟨⟨rfl, .inr rfl⟩, ⟨rfl, .inl rfl⟩, ⟨rfl, .inl rfl⟩, ⟨rfl, .inl rfl⟩, ⟨rfl, .inl rfl⟩, ⟨rfl, .inl rfl⟩, ⟨rfl, .inl rfl⟩, trivial⟩<|yS<|yS<|RunC.cutN (fun τ Γ => ( Le 601 τ Γ [(22, i64 x40), (23, optr 0 (u13 + 2) 0), (24, (sFc r44)), (29, f32 x52), (30, f32 x56), (31, (sFc r58)), (257, b true)] [⟨(u13 + 2), some [(sFc r41), (sFc r42), (sFc r43)]⟩, ⟨(u14 + 1), none⟩, ⟨1, none⟩, ⟨1, none⟩, ⟨1, none⟩, ⟨1, none⟩, ⟨1, none⟩] ∧ w_FnShiftRows_k12 = some q0) ∨ ( Le 601 τ Γ [(22, i64 x40), (23, optr 0 (u13 + 2) 0), (24, (sFc r44)), (29, f32 x52), (30, f32 x56), (31, (sFc r58)), (257, b false)] [⟨(u13 + 2), some [(sFc r41), (sFc r42), (sFc r43)]⟩, ⟨(u14 + 1), none⟩, ⟨1, none⟩, ⟨1, none⟩, ⟨1, none⟩, ⟨1, none⟩, ⟨1, none⟩] ∧ w_FnShiftRows_k14 x40 r41 r42 r43 r44 x52 x56 r58 = some q0)) ?_ ?_
        ·rcases oB h with ⟨hc57, h⟩ | ⟨hc57, h⟩
         ·rcases oB h with ⟨hc58, h⟩ | ⟨hc58, h⟩
          ·rcases oB h with ⟨hc59, h⟩ | ⟨hc59, h⟩
           ·rcases oB h with ⟨hc60, h⟩ | ⟨hc60, h⟩
            ·obtain ⟨r63, hf61, h⟩ := oS h
             rcases oB h with ⟨hc62, h⟩ | ⟨hc62, h⟩
             ·obtain ⟨r64, hf63, h⟩ := oS h
              rcases oB h with ⟨hc64, h⟩ | ⟨hc64, h⟩
              ·refine yW<|yl rfl (b true) (yv hc57)<|yl rfl (b false) y1<|ym rfl (b false)<|yl rfl (b true) (yv hc58)<|yl rfl (b false) y1<|yl rfl (b false) yp<|ym rfl (b false)<|yl rfl (b true) (yv hc59)<|yl rfl (b false) y1<|yl rfl (b false) yp<|ym rfl (b false)<|yl rfl (b true) (yv hc60)<|yl rfl (b false) y1<|yl rfl (b false) yp<|ym rfl (b false)<|yd rfl (agg [(sFc r41), (sFc r42), (sFc r43)]) (TOp.loadAgg_o rfl agg47 siz47 rfl rfl rfl rfl)<|yd rfl (b true) (TOp.eqb (TOp.callB (CallAs.func ent28 rfl rfl) (Bors.cons (Bor.agg (bS (bS (bS bN)))) bN) rfl rfl (i_ValidThirds_ok r41 r42 r43 r63 hf61)) hc62)<|yl rfl (b false) y1<|yl rfl (b false) yp<|ym rfl (b false)<|ym rfl (sFc r48)<|ym rfl (sFc r44)<|yd rfl (b true) (TOp.eqb (yc ent16 rfl rfl (bS (bS (Bors.cons (Bor.le (ALe.fl (by kernel_rfl) (by kernel_rfl)) (Bor.pure rfl)) bN))) (w_b10Far_ok r48 r44 (some 4562254508917369340) r64 hf63)) hc64)<|yl rfl (b true) yp<|ym rfl (b true)<|ROps.s rfl rfl rfl<|ROps.s rfl rfl rfl<|ROps.s rfl rfl rfl<|yl rfl (b true) yq<|ym rfl (b true)<|ROps.s rfl rfl rfl<|ROps.s rfl rfl rfl<|ROps.s rfl rfl rfl<|ROps.s rfl rfl rfl<|ROps.s rfl rfl rfl<|ROps.s rfl rfl rfl<|yl rfl (b true) yq<|ym rfl (b true)<|ROps.s rfl rfl rfl<|ROps.s rfl rfl rfl<|ROps.s rfl rfl rfl<|ROps.s rfl rfl rfl<|ROps.s rfl rfl rfl<|ROps.s rfl rfl rfl<|yl rfl (b true) yq<|ym rfl (b true)<|ROps.s rfl rfl rfl<|ROps.s rfl rfl rfl<|ROps.s rfl rfl rfl<|ROps.s rfl rfl rfl<|yl rfl (b true) yq<|zN ?_
               exact .inl ⟨(Le.of ⟨aR, aR, aR, aR, aR, aR, aR, trivial⟩ ⟨⟨rfl, .inr rfl⟩, ⟨rfl, .inl rfl⟩, ⟨rfl, .inl rfl⟩, ⟨rfl, .inl rfl⟩, ⟨rfl, .inl rfl⟩, ⟨rfl, .inl rfl⟩, ⟨rfl, .inl rfl⟩, trivial⟩), h⟩
              ·rcases oB h with ⟨hc65, h⟩ | ⟨hc65, h⟩
               ·refine yW<|yl rfl (b true) (yv hc57)<|yl rfl (b false) y1<|ym rfl (b false)<|yl rfl (b true) (yv hc58)<|yl rfl (b false) y1<|yl rfl (b false) yp<|ym rfl (b false)<|yl rfl (b true) (yv hc59)<|yl rfl (b false) y1<|yl rfl (b false) yp<|ym rfl (b false)<|yl rfl (b true) (yv hc60)<|yl rfl (b false) y1<|yl rfl (b false) yp<|ym rfl (b false)<|yd rfl (agg [(sFc r41), (sFc r42), (sFc r43)]) (TOp.loadAgg_o rfl agg47 siz47 rfl rfl rfl rfl)<|yd rfl (b true) (TOp.eqb (TOp.callB (CallAs.func ent28 rfl rfl) (Bors.cons (Bor.agg (bS (bS (bS bN)))) bN) rfl rfl (i_ValidThirds_ok r41 r42 r43 r63 hf61)) hc62)<|yl rfl (b false) y1<|yl rfl (b false) yp<|ym rfl (b false)<|ym rfl (sFc r48)<|ym rfl (sFc r44)<|yd rfl (b false) (TOp.eqb (yc ent16 rfl rfl (bS (bS (Bors.cons (Bor.le (ALe.fl (by kernel_rfl) (by kernel_rfl)) (Bor.pure rfl)) bN))) (w_b10Far_ok r48 r44 (some 4562254508917369340) r64 hf63)) hc64)<|yl rfl (b false) yp<|ym rfl (b false)<|ym rfl (sl r62.length (r62.map (sll f32)))<|yl rfl (i64 (r62.length : Int)) (LOp.len_sl und51 rfl rfl)<|yl rfl (b true) (LOp.eqb (LOp.neq rfl rfl rfl) hc65)<|yl rfl (b true) yp<|ym rfl (b true)<|ROps.s rfl rfl rfl<|ROps.s rfl rfl rfl<|ROps.s rfl rfl rfl<|ROps.s rfl rfl rfl<|ROps.s rfl rfl rfl<|ROps.s rfl rfl rfl<|yl rfl (b true) yq<|ym rfl (b true)<|ROps.s rfl rfl rfl<|ROps.s rfl rfl rfl<|ROps.s rfl rfl rfl<|ROps.s rfl rfl rfl<|ROps.s rfl rfl rfl<|ROps.s rfl rfl rfl<|yl rfl (b true) yq<|ym rfl (b true)<|ROps.s rfl rfl rfl<|ROps.s rfl rfl rfl<|ROps.s rfl rfl rfl<|ROps.s rfl rfl rfl<|yl rfl (b true) yq<|zN ?_
                exact .inl ⟨(Le.of ⟨aR, aR, aR, aR, aR, aR, aR, trivial⟩ ⟨⟨rfl, .inr rfl⟩, ⟨rfl, .inl rfl⟩, ⟨rfl, .inl rfl⟩, ⟨rfl, .inl rfl⟩, ⟨rfl, .inl rfl⟩, ⟨rfl, .inl rfl⟩, ⟨rfl, .inl rfl⟩, trivial⟩), h⟩
               ·obtain ⟨e65, he66, h⟩ := oS h
                obtain ⟨r66, hf67, h⟩ := oS h
                rcases oB h with ⟨hc68, h⟩ | ⟨hc68, h⟩
                ·obtain ⟨e67, he69, h⟩ := oS h
                 obtain ⟨r68, hf70, h⟩ := oS h
                 rcases oB h with ⟨hc71, h⟩ | ⟨hc71, h⟩
                 ·rcases oB h with ⟨hc72, h⟩ | ⟨hc72, h⟩
                  ·refine yW<|yl rfl (b true) (yv hc57)<|yl rfl (b false) y1<|ym rfl (b false)<|yl rfl (b true) (yv hc58)<|yl rfl (b false) y1<|yl rfl (b false) yp<|ym rfl (b false)<|yl rfl (b true) (yv hc59)<|yl rfl (b false) y1<|yl rfl (b false) yp<|ym rfl (b false)<|yl rfl (b true) (yv hc60)<|yl rfl (b false) y1<|yl rfl (b false) yp<|ym rfl (b false)<|yd rfl (agg [(sFc r41), (sFc r42), (sFc r43)]) (TOp.loadAgg_o rfl agg47 siz47 rfl rfl rfl rfl)<|yd rfl (b true) (TOp.eqb (TOp.callB (CallAs.func ent28 rfl rfl) (Bors.cons (Bor.agg (bS (bS (bS bN)))) bN) rfl rfl (i_ValidThirds_ok r41 r42 r43 r63 hf61)) hc62)<|yl rfl (b false) y1<|yl rfl (b false) yp<|ym rfl (b false)<|ym rfl (sFc r48)<|ym rfl (sFc r44)<|yd rfl (b false) (TOp.eqb (yc ent16 rfl rfl (bS (bS (Bors.cons (Bor.le (ALe.fl (by kernel_rfl) (by kernel_rfl)) (Bor.pure rfl)) bN))) (w_b10Far_ok r48 r44 (some 4562254508917369340) r64 hf63)) hc64)<|yl rfl (b false) yp<|ym rfl (b false)<|ym rfl (sl r62.length (r62.map (sll f32)))<|yl rfl (i64 (r62.length : Int)) (LOp.len_sl und51 rfl rfl)<|yl rfl (b false) (LOp.eqb (LOp.neq rfl rfl rfl) hc65)<|yl rfl (b false) yp<|ym rfl (b false)<|ym rfl (sl r62.length (r62.map (sll f32)))<|yl rfl (ptr [(sFc e65)]) (LOp.le (LOp.ix (f := (sll f32)) und51 siz26 rfl rfl rfl rfl he66) ALe.ptr)<|yl rfl (sFc e65) (y2 agg26)<|ym rfl (sFc r46)<|yd rfl (b true) (TOp.eqb (yc ent29 rfl rfl (bS (bS bN)) (w_b10List_ok e65 r46 r66 hf67)) hc68)<|yl rfl (b false) y1<|yl rfl (b false) yp<|ym rfl (b false)<|ym rfl (sl r62.length (r62.map (sll f32)))<|yl rfl (ptr [(sFc e67)]) (LOp.le (LOp.ix (f := (sll f32)) und51 siz26 rfl rfl rfl rfl he69) ALe.ptr)<|yl rfl (sFc e67) (y2 agg26)<|ym rfl (sFc r46)<|yd rfl (b true) (TOp.eqb (yc ent29 rfl rfl (bS (bS bN)) (w_b10List_ok e67 r46 r68 hf70)) hc71)<|yl rfl (b false) y1<|yl rfl (b false) yp<|ym rfl (b false)<|ym rfl (sFc r58)<|yl rfl (i64 (r58.length : Int)) (LOp.len_sl und26 rfl rfl)<|ym rfl (i64 x40)<|yl rfl (b true) (LOp.eqb (LOp.neq rfl rfl rfl) hc72)<|yl rfl (b true) yp<|zN ?_
                   exact .inl ⟨(Le.of ⟨aR, aR, aR, aR, aR, aR, aR, trivial⟩ ⟨⟨rfl, .inr rfl⟩, ⟨rfl, .inl rfl⟩, ⟨rfl, .inl rfl⟩, ⟨rfl, .inl rfl⟩, ⟨rfl, .inl rfl⟩, ⟨rfl, .inl rfl⟩, ⟨rfl, .inl rfl⟩, trivial⟩), h⟩
                  ·refine yW<|yl rfl (b true) (yv hc57)<|yl rfl (b false) y1<|ym rfl (b false)<|yl rfl (b true) (yv hc58)<|yl rfl (b false) y1<|yl rfl (b false) yp<|ym rfl (b false)<|yl rfl (b true) (yv hc59)<|yl rfl (b false) y1<|yl rfl (b false) yp<|ym rfl (b false)<|yl rfl (b true) (yv hc60)<|yl rfl (b false) y1<|yl rfl (b false) yp<|ym rfl (b false)<|yd rfl (agg [(sFc r41), (sFc r42), (sFc r43)]) (TOp.loadAgg_o rfl agg47 siz47 rfl rfl rfl rfl)<|yd rfl (b true) (TOp.eqb (TOp.callB (CallAs.func ent28 rfl rfl) (Bors.cons (Bor.agg (bS (bS (bS bN)))) bN) rfl rfl (i_ValidThirds_ok r41 r42 r43 r63 hf61)) hc62)<|yl rfl (b false) y1<|yl rfl (b false) yp<|ym rfl (b false)<|ym rfl (sFc r48)<|ym rfl (sFc r44)<|yd rfl (b false) (TOp.eqb (yc ent16 rfl rfl (bS (bS (Bors.cons (Bor.le (ALe.fl (by kernel_rfl) (by kernel_rfl)) (Bor.pure rfl)) bN))) (w_b10Far_ok r48 r44 (some 4562254508917369340) r64 hf63)) hc64)<|yl rfl (b false) yp<|ym rfl (b false)<|ym rfl (sl r62.length (r62.map (sll f32)))<|yl rfl (i64 (r62.length : Int)) (LOp.len_sl und51 rfl rfl)<|yl rfl (b false) (LOp.eqb (LOp.neq rfl rfl rfl) hc65)<|yl rfl (b false) yp<|ym rfl (b false)<|ym rfl (sl r62.length (r62.map (sll f32)))<|yl rfl (ptr [(sFc e65)]) (LOp.le (LOp.ix (f := (sll f32)) und51 siz26 rfl rfl rfl rfl he66) ALe.ptr)<|yl rfl (sFc e65) (y2 agg26)<|ym rfl (sFc r46)<|yd rfl (b true) (TOp.eqb (yc ent29 rfl rfl (bS (bS bN)) (w_b10List_ok e65 r46 r66 hf67)) hc68)<|yl rfl (b false) y1<|yl rfl (b false) yp<|ym rfl (b false)<|ym rfl (sl r62.length (r62.map (sll f32)))<|yl rfl (ptr [(sFc e67)]) (LOp.le (LOp.ix (f := (sll f32)) und51 siz26 rfl rfl rfl rfl he69) ALe.ptr)<|yl rfl (sFc e67) (y2 agg26)<|ym rfl (sFc r46)<|yd rfl (b true) (TOp.eqb (yc ent29 rfl rfl (bS (bS bN)) (w_b10List_ok e67 r46 r68 hf70)) hc71)<|yl rfl (b false) y1<|yl rfl (b false) yp<|ym rfl (b false)<|ym rfl (sFc r58)<|yl rfl (i64 (r58.length : Int)) (LOp.len_sl und26 rfl rfl)<|ym rfl (i64 x40)<|yl rfl (b false) (LOp.eqb (LOp.neq rfl rfl rfl) hc72)<|yl rfl (b false) yp<|zN ?_
                   exact .inr (⟨(Le.of ⟨aR, aR, aR, aR, aR, aR, aR, trivial⟩ ⟨⟨rfl, .inr rfl⟩, ⟨rfl, .inl rfl⟩, ⟨rfl, .inl rfl⟩, ⟨rfl, .inl rfl⟩, ⟨rfl, .inl rfl⟩, ⟨rfl, .inl rfl⟩, ⟨rfl, .inl rfl⟩, trivial⟩), h⟩)
                 ·refine yW<|yl rfl (b true) (yv hc57)<|yl rfl (b false) y1<|ym rfl (b false)<|yl rfl (b true) (yv hc58)<|yl rfl (b false) y1<|yl rfl (b false) yp<|ym rfl (b false)<|yl rfl (b true) (yv hc59)<|yl rfl (b false) y1<|yl rfl (b false) yp<|ym rfl (b false)<|yl rfl (b true) (yv hc60)<|yl rfl (b false) y1<|yl rfl (b false) yp<|ym rfl (b false)<|yd rfl (agg [(sFc r41), (sFc r42), (sFc r43)]) (TOp.loadAgg_o rfl agg47 siz47 rfl rfl rfl rfl)<|yd rfl (b true) (TOp.eqb (TOp.callB (CallAs.func ent28 rfl rfl) (Bors.cons (Bor.agg (bS (bS (bS bN)))) bN) rfl rfl (i_ValidThirds_ok r41 r42 r43 r63 hf61)) hc62)<|yl rfl (b false) y1<|yl rfl (b false) yp<|ym rfl (b false)<|ym rfl (sFc r48)<|ym rfl (sFc r44)<|yd rfl (b false) (TOp.eqb (yc ent16 rfl rfl (bS (bS (Bors.cons (Bor.le (ALe.fl (by kernel_rfl) (by kernel_rfl)) (Bor.pure rfl)) bN))) (w_b10Far_ok r48 r44 (some 4562254508917369340) r64 hf63)) hc64)<|yl rfl (b false) yp<|ym rfl (b false)<|ym rfl (sl r62.length (r62.map (sll f32)))<|yl rfl (i64 (r62.length : Int)) (LOp.len_sl und51 rfl rfl)<|yl rfl (b false) (LOp.eqb (LOp.neq rfl rfl rfl) hc65)<|yl rfl (b false) yp<|ym rfl (b false)<|ym rfl (sl r62.length (r62.map (sll f32)))<|yl rfl (ptr [(sFc e65)]) (LOp.le (LOp.ix (f := (sll f32)) und51 siz26 rfl rfl rfl rfl he66) ALe.ptr)<|yl rfl (sFc e65) (y2 agg26)<|ym rfl (sFc r46)<|yd rfl (b true) (TOp.eqb (yc ent29 rfl rfl (bS (bS bN)) (w_b10List_ok e65 r46 r66 hf67)) hc68)<|yl rfl (b false) y1<|yl rfl (b false) yp<|ym rfl (b false)<|ym rfl (sl r62.length (r62.map (sll f32)))<|yl rfl (ptr [(sFc e67)]) (LOp.le (LOp.ix (f := (sll f32)) und51 siz26 rfl rfl rfl rfl he69) ALe.ptr)<|yl rfl (sFc e67) (y2 agg26)<|ym rfl (sFc r46)<|yd rfl (b false) (TOp.eqb (yc ent29 rfl rfl (bS (bS bN)) (w_b10List_ok e67 r46 r68 hf70)) hc71)<|yl rfl (b true) y0<|yl rfl (b true) yp<|ym rfl (b true)<|ROps.s rfl rfl rfl<|ROps.s rfl rfl rfl<|ROps.s rfl rfl rfl<|ROps.s rfl rfl rfl<|yl rfl (b true) yq<|zN ?_
                  exact .inl ⟨(Le.of ⟨aR, aR, aR, aR, aR, aR, aR, trivial⟩ ⟨⟨rfl, .inr rfl⟩, ⟨rfl, .inl rfl⟩, ⟨rfl, .inl rfl⟩, ⟨rfl, .inl rfl⟩, ⟨rfl, .inl rfl⟩, ⟨rfl, .inl rfl⟩, ⟨rfl, .inl rfl⟩, trivial⟩), h⟩
                ·refine yW<|yl rfl (b true) (yv hc57)<|yl rfl (b false) y1<|ym rfl (b false)<|yl rfl (b true) (yv hc58)<|yl rfl (b false) y1<|yl rfl (b false) yp<|ym rfl (b false)<|yl rfl (b true) (yv hc59)<|yl rfl (b false) y1<|yl rfl (b false) yp<|ym rfl (b false)<|yl rfl (b true) (yv hc60)<|yl rfl (b false) y1<|yl rfl (b false) yp<|ym rfl (b false)<|yd rfl (agg [(sFc r41), (sFc r42), (sFc r43)]) (TOp.loadAgg_o rfl agg47 siz47 rfl rfl rfl rfl)<|yd rfl (b true) (TOp.eqb (TOp.callB (CallAs.func ent28 rfl rfl) (Bors.cons (Bor.agg (bS (bS (bS bN)))) bN) rfl rfl (i_ValidThirds_ok r41 r42 r43 r63 hf61)) hc62)<|yl rfl (b false) y1<|yl rfl (b false) yp<|ym rfl (b false)<|ym rfl (sFc r48)<|ym rfl (sFc r44)<|yd rfl (b false) (TOp.eqb (yc ent16 rfl rfl (bS (bS (Bors.cons (Bor.le (ALe.fl (by kernel_rfl) (by kernel_rfl)) (Bor.pure rfl)) bN))) (w_b10Far_ok r48 r44 (some 4562254508917369340) r64 hf63)) hc64)<|yl rfl (b false) yp<|ym rfl (b false)<|ym rfl (sl r62.length (r62.map (sll f32)))<|yl rfl (i64 (r62.length : Int)) (LOp.len_sl und51 rfl rfl)<|yl rfl (b false) (LOp.eqb (LOp.neq rfl rfl rfl) hc65)<|yl rfl (b false) yp<|ym rfl (b false)<|ym rfl (sl r62.length (r62.map (sll f32)))<|yl rfl (ptr [(sFc e65)]) (LOp.le (LOp.ix (f := (sll f32)) und51 siz26 rfl rfl rfl rfl he66) ALe.ptr)<|yl rfl (sFc e65) (y2 agg26)<|ym rfl (sFc r46)<|yd rfl (b false) (TOp.eqb (yc ent29 rfl rfl (bS (bS bN)) (w_b10List_ok e65 r46 r66 hf67)) hc68)<|yl rfl (b true) y0<|yl rfl (b true) yp<|ym rfl (b true)<|ROps.s rfl rfl rfl<|ROps.s rfl rfl rfl<|ROps.s rfl rfl rfl<|ROps.s rfl rfl rfl<|ROps.s rfl rfl rfl<|ROps.s rfl rfl rfl<|yl rfl (b true) yq<|ym rfl (b true)<|ROps.s rfl rfl rfl<|ROps.s rfl rfl rfl<|ROps.s rfl rfl rfl<|ROps.s rfl rfl rfl<|yl rfl (b true) yq<|zN ?_
                 exact .inl ⟨(Le.of ⟨aR, aR, aR, aR, aR, aR, aR, trivial⟩ ⟨⟨rfl, .inr rfl⟩, ⟨rfl, .inl rfl⟩, ⟨rfl, .inl rfl⟩, ⟨rfl, .inl rfl⟩, ⟨rfl, .inl rfl⟩, ⟨rfl, .inl rfl⟩, ⟨rfl, .inl rfl⟩, trivial⟩), h⟩
             ·refine yW<|yl rfl (b true) (yv hc57)<|yl rfl (b false) y1<|ym rfl (b false)<|yl rfl (b true) (yv hc58)<|yl rfl (b false) y1<|yl rfl (b false) yp<|ym rfl (b false)<|yl rfl (b true) (yv hc59)<|yl rfl (b false) y1<|yl rfl (b false) yp<|ym rfl (b false)<|yl rfl (b true) (yv hc60)<|yl rfl (b false) y1<|yl rfl (b false) yp<|ym rfl (b false)<|yd rfl (agg [(sFc r41), (sFc r42), (sFc r43)]) (TOp.loadAgg_o rfl agg47 siz47 rfl rfl rfl rfl)<|yd rfl (b false) (TOp.eqb (TOp.callB (CallAs.func ent28 rfl rfl) (Bors.cons (Bor.agg (bS (bS (bS bN)))) bN) rfl rfl (i_ValidThirds_ok r41 r42 r43 r63 hf61)) hc62)<|yl rfl (b true) y0<|yl rfl (b true) yp<|ym rfl (b true)<|ROps.s rfl rfl rfl<|ROps.s rfl rfl rfl<|ROps.s rfl rfl rfl<|yl rfl (b true) yq<|ym rfl (b true)<|ROps.s rfl rfl rfl<|ROps.s rfl rfl rfl<|ROps.s rfl rfl rfl<|yl rfl (b true) yq<|ym rfl (b true)<|ROps.s rfl rfl rfl<|ROps.s rfl rfl rfl<|ROps.s rfl rfl rfl<|ROps.s rfl rfl rfl<|ROps.s rfl rfl rfl<|ROps.s rfl rfl rfl<|yl rfl (b true) yq<|ym rfl (b true)<|ROps.s rfl rfl rfl<|ROps.s rfl rfl rfl<|ROps.s rfl rfl rfl<|ROps.s rfl rfl rfl<|ROps.s rfl rfl rfl<|ROps.s rfl rfl rfl<|yl rfl (b true) yq<|ym rfl (b true)<|ROps.s rfl rfl rfl<|ROps.s rfl rfl rfl<|ROps.s rfl rfl rfl<|ROps.s rfl rfl rfl<|yl rfl (b true) yq<|zN ?_
              exact .inl ⟨(Le.of ⟨aR, aR, aR, aR, aR, aR, aR, trivial⟩ ⟨⟨rfl, .inr rfl⟩, ⟨rfl, .inl rfl⟩, ⟨rfl, .inl rfl⟩, ⟨rfl, .inl rfl⟩, ⟨rfl, .inl rfl⟩, ⟨rfl, .inl rfl⟩, ⟨rfl, .inl rfl⟩, trivial⟩), h⟩
            ·refine yW<|yl rfl (b true) (yv hc57)<|yl rfl (b false) y1<|ym rfl (b false)<|yl rfl (b true) (yv hc58)<|yl rfl (b false) y1<|yl rfl (b false) yp<|ym rfl (b false)<|yl rfl (b true) (yv hc59)<|yl rfl (b false) y1<|yl rfl (b false) yp<|ym rfl (b false)<|yl rfl (b false) (yv hc60)<|yl rfl (b true) y0<|yl rfl (b true) yp<|ym rfl (b true)<|ROps.s rfl rfl rfl<|ROps.s rfl rfl rfl<|ROps.s rfl rfl rfl<|yl rfl (b true) yq<|ym rfl (b true)<|ROps.s rfl rfl rfl<|ROps.s rfl rfl rfl<|ROps.s rfl rfl rfl<|yl rfl (b true) yq<|ym rfl (b true)<|ROps.s rfl rfl rfl<|ROps.s rfl rfl rfl<|ROps.s rfl rfl rfl<|yl rfl (b true) yq<|ym rfl (b true)<|ROps.s rfl rfl rfl<|ROps.s rfl rfl rfl<|ROps.s rfl rfl rfl<|ROps.s rfl rfl rfl<|ROps.s rfl rfl rfl<|ROps.s rfl rfl rfl<|yl rfl (b true) yq<|ym rfl (b true)<|ROps.s rfl rfl rfl<|ROps.s rfl rfl rfl<|ROps.s rfl rfl rfl<|ROps.s rfl rfl rfl<|ROps.s rfl rfl rfl<|ROps.s rfl rfl rfl<|yl rfl (b true) yq<|ym rfl (b true)<|ROps.s rfl rfl rfl<|ROps.s rfl rfl rfl<|ROps.s rfl rfl rfl<|ROps.s rfl rfl rfl<|yl rfl (b true) yq<|zN ?_
             exact .inl ⟨(Le.of ⟨aR, aR, aR, aR, aR, aR, aR, trivial⟩ ⟨⟨rfl, .inr rfl⟩, ⟨rfl, .inl rfl⟩, ⟨rfl, .inl rfl⟩, ⟨rfl, .inl rfl⟩, ⟨rfl, .inl rfl⟩, ⟨rfl, .inl rfl⟩, ⟨rfl, .inl rfl⟩, trivial⟩), h⟩
           ·refine yW<|yl rfl (b true) (yv hc57)<|yl rfl (b false) y1<|ym rfl (b false)<|yl rfl (b true) (yv hc58)<|yl rfl (b false) y1<|yl rfl (b false) yp<|ym rfl (b false)<|yl rfl (b false) (yv hc59)<|yl rfl (b true) y0<|yl rfl (b true) yp<|ym rfl (b true)<|ROps.s rfl rfl rfl<|ROps.s rfl rfl rfl<|yl rfl (b true) yq<|ym rfl (b true)<|ROps.s rfl rfl rfl<|ROps.s rfl rfl rfl<|ROps.s rfl rfl rfl<|yl rfl (b true) yq<|ym rfl (b true)<|ROps.s rfl rfl rfl<|ROps.s rfl rfl rfl<|ROps.s rfl rfl rfl<|yl rfl (b true) yq<|ym rfl (b true)<|ROps.s rfl rfl rfl<|ROps.s rfl rfl rfl<|ROps.s rfl rfl rfl<|yl rfl (b true) yq<|ym rfl (b true)<|ROps.s rfl rfl rfl<|ROps.s rfl rfl rfl<|ROps.s rfl rfl rfl<|ROps.s rfl rfl rfl<|ROps.s rfl rfl rfl<|ROps.s rfl rfl rfl<|yl rfl (b true) yq<|ym rfl (b true)<|ROps.s rfl rfl rfl<|ROps.s rfl rfl rfl<|ROps.s rfl rfl rfl<|ROps.s rfl rfl rfl<|ROps.s rfl rfl rfl<|ROps.s rfl rfl rfl<|yl rfl (b true) yq<|ym rfl (b true)<|ROps.s rfl rfl rfl<|ROps.s rfl rfl rfl<|ROps.s rfl rfl rfl<|ROps.s rfl rfl rfl<|yl rfl (b true) yq<|zN ?_
            exact .inl ⟨(Le.of ⟨aR, aR, aR, aR, aR, aR, aR, trivial⟩ ⟨⟨rfl, .inr rfl⟩, ⟨rfl, .inl rfl⟩, ⟨rfl, .inl rfl⟩, ⟨rfl, .inl rfl⟩, ⟨rfl, .inl rfl⟩, ⟨rfl, .inl rfl⟩, ⟨rfl, .inl rfl⟩, trivial⟩), h⟩
          ·refine yW<|yl rfl (b true) (yv hc57)<|yl rfl (b false) y1<|ym rfl (b false)<|yl rfl (b false) (yv hc58)<|yl rfl (b true) y0<|yl rfl (b true) yp<|ym rfl (b true)<|ROps.s rfl rfl rfl<|ROps.s rfl rfl rfl<|yl rfl (b true) yq<|ym rfl (b true)<|ROps.s rfl rfl rfl<|ROps.s rfl rfl rfl<|yl rfl (b true) yq<|ym rfl (b true)<|ROps.s rfl rfl rfl<|ROps.s rfl rfl rfl<|ROps.s rfl rfl rfl<|yl rfl (b true) yq<|ym rfl (b true)<|ROps.s rfl rfl rfl<|ROps.s rfl rfl rfl<|ROps.s rfl rfl rfl<|yl rfl (b true) yq<|ym rfl (b true)<|ROps.s rfl rfl rfl<|ROps.s rfl rfl rfl<|ROps.s rfl rfl rfl<|yl rfl (b true) yq<|ym rfl (b true)<|ROps.s rfl rfl rfl<|ROps.s rfl rfl rfl<|ROps.s rfl rfl rfl<|ROps.s rfl rfl rfl<|ROps.s rfl rfl rfl<|ROps.s rfl rfl rfl<|yl rfl (b true) yq<|ym rfl (b true)<|ROps.s rfl rfl rfl<|ROps.s rfl rfl rfl<|ROps.s rfl rfl rfl<|ROps.s rfl rfl rfl<|ROps.s rfl rfl rfl<|ROps.s rfl rfl rfl<|yl rfl (b true) yq<|ym rfl (b true)<|ROps.s rfl rfl rfl<|ROps.s rfl rfl rfl<|ROps.s rfl rfl rfl<|ROps.s rfl rfl rfl<|yl rfl (b true) yq<|zN ?_
           exact .inl ⟨(Le.of ⟨aR, aR, aR, aR, aR, aR, aR, trivial⟩ ⟨⟨rfl, .inr rfl⟩, ⟨rfl, .inl rfl⟩, ⟨rfl, .inl rfl⟩, ⟨rfl, .inl rfl⟩, ⟨rfl, .inl rfl⟩, ⟨rfl, .inl rfl⟩, ⟨rfl, .inl rfl⟩, trivial⟩), h⟩
         ·refine yW<|yl rfl (b false) (yv hc57)<|yl rfl (b true) y0<|ym rfl (b true)<|ROps.s rfl rfl rfl<|ROps.s rfl rfl rfl<|yl rfl (b true) yq<|ym rfl (b true)<|ROps.s rfl rfl rfl<|ROps.s rfl rfl rfl<|yl rfl (b true) yq<|ym rfl (b true)<|ROps.s rfl rfl rfl<|ROps.s rfl rfl rfl<|yl rfl (b true) yq<|ym rfl (b true)<|ROps.s rfl rfl rfl<|ROps.s rfl rfl rfl<|ROps.s rfl rfl rfl<|yl rfl (b true) yq<|ym rfl (b true)<|ROps.s rfl rfl rfl<|ROps.s rfl rfl rfl<|ROps.s rfl rfl rfl<|yl rfl (b true) yq<|ym rfl (b true)<|ROps.s rfl rfl rfl<|ROps.s rfl rfl rfl<|ROps.s rfl rfl rfl<|yl rfl (b true) yq<|ym rfl (b true)<|ROps.s rfl rfl rfl<|ROps.s rfl rfl rfl<|ROps.s rfl rfl rfl<|ROps.s rfl rfl rfl<|ROps.s rfl rfl rfl<|ROps.s rfl rfl rfl<|yl rfl (b true) yq<|ym rfl (b true)<|ROps.s rfl rfl rfl<|ROps.s rfl rfl rfl<|ROps.s rfl rfl rfl<|ROps.s rfl rfl rfl<|ROps.s rfl rfl rfl<|ROps.s rfl rfl rfl<|yl rfl (b true) yq<|ym rfl (b true)<|ROps.s rfl rfl rfl<|ROps.s rfl rfl rfl<|ROps.s rfl rfl rfl<|ROps.s rfl rfl rfl<|yl rfl (b true) yq<|zN ?_
          exact .inl ⟨(Le.of ⟨aR, aR, aR, aR, aR, aR, aR, trivial⟩ ⟨⟨rfl, .inr rfl⟩, ⟨rfl, .inl rfl⟩, ⟨rfl, .inl rfl⟩, ⟨rfl, .inl rfl⟩, ⟨rfl, .inl rfl⟩, ⟨rfl, .inl rfl⟩, ⟨rfl, .inl rfl⟩, trivial⟩), h⟩
        ·rintro τ27 Γ27 (⟨hw27, h⟩ | ⟨hw27, h⟩)
         ·refine RunC.le (τ' := [(22, i64 x40), (23, optr 0 (u13 + 2) 0), (24, (sFc r44)), (29, f32 x52), (30, f32 x56), (31, (sFc r58)), (257, b true)]) (Γ' := [⟨(u13 + 2), some [(sFc r41), (sFc r42), (sFc r43)]⟩, ⟨(u14 + 1), none⟩, ⟨1, none⟩, ⟨1, none⟩, ⟨1, none⟩, ⟨1, none⟩, ⟨1, none⟩]) hw27 ?_
          unfold w_FnShiftRows_k12 at h
          refine yT<|zQ<|ya rfl (b false)<|zN ?_
          refine RunC.ret ?_
          have hq := oI h
          subst q0
          exact bodyQ.pure (.inr rfl) rfl (Res.one rfl (RV.tmp rfl))
         ·refine RunC.le (τ' := [(22, i64 x40), (23, optr 0 (u13 + 2) 0), (24, (sFc r44)), (29, f32 x52), (30, f32 x56), (31, (sFc r58)), (257, b false)]) (Γ' := [⟨(u13 + 2), some [(sFc r41), (sFc r42), (sFc r43)]⟩, ⟨(u14 + 1), none⟩, ⟨1, none⟩, ⟨1, none⟩, ⟨1, none⟩, ⟨1, none⟩, ⟨1, none⟩]) hw27 ?_
          unfold w_FnShiftRows_k14 at h
          refine yF<|RunC.skip<|yS ?_
          obtain ⟨r69, r70, hf73, h⟩ := obind2_some h
          refine yW<|yd rfl (agg [(sFc r41), (sFc r42), (sFc r43)]) (TOp.loadAgg_o rfl agg47 siz47 rfl rfl rfl rfl)<|ym rfl (sFc r58)<|ye rfl (tup [oref 1 (u14 + 2) 0 r70.length, b r69]) ([⟨(u13 + 2), some [(sFc r41), (sFc r42), (sFc r43)]⟩, ⟨(u14 + 2), some (r70.map f32)⟩, ⟨1, none⟩, ⟨1, none⟩, ⟨1, none⟩, ⟨1, none⟩, ⟨1, none⟩]) (TOp.eqr (TOp.callBN (ls := [(r70.map f32)]) [1] (CallAs.func ent30 rfl rfl) (Bors.cons (Bor.agg (bS (bS (bS bN)))) (bS bN)) rfl (s_ThirdsTimes_ok r41 r42 r43 r58 r69 r70 hf73) (and_all (lts0_map (f := f32) (fun _ => rfl) _) rfl) (and_all (noss_map (f := f32) (fun _ => rfl) _) rfl) rfl (by decide) (ns_of ⟨⟨_, rfl⟩, trivial⟩)) (by simp [ren, rens, sigma, newNames]))<|ym rfl (tup [oref 1 (u14 + 2) 0 r70.length, b r69])<|yl rfl (oref 1 (u14 + 2) 0 r70.length) y3<|yl rfl (b r69) y3<|ya rfl (oref 1 (u14 + 2) 0 r70.length)<|ya rfl (b r69)<|zN ?_
          refine RunC.wl (τ' := [(22, i64 x40), (24, (sFc r44)), (29, f32 x52), (30, f32 x56), (31, (sFc r58)), (35, oref 1 (u14 + 2) 0 r70.length), (36, b r69)]) (Γ' := [⟨(u13 + 2), none⟩, ⟨(u14 + 2), some (r70.map f32)⟩, ⟨1, none⟩, ⟨1, none⟩, ⟨1, none⟩, ⟨1, none⟩, ⟨1, none⟩]) ⟨aR, aR, aR, aR, aR, aR, aR, trivial⟩ ⟨⟨rfl, .inl rfl⟩, ⟨rfl, .inr rfl⟩, ⟨rfl, .inl rfl⟩, ⟨rfl, .inl rfl⟩, ⟨rfl, .inl rfl⟩, ⟨rfl, .inl rfl⟩, ⟨rfl, .inl rfl⟩, trivial⟩<|yS<|yS<|RunC.cutN (fun τ Γ => ( Le 601 τ Γ [(22, i64 x40), (24, (sFc r44)), (29, f32 x52), (30, f32 x56), (31, (sFc r58)), (35, oref 1 (u14 + 2) 0 r70.length), (271, b true)] [⟨(u13 + 2), none⟩, ⟨(u14 + 2), some (r70.map f32)⟩, ⟨1, none⟩, ⟨1, none⟩, ⟨1, none⟩, ⟨1, none⟩, ⟨1, none⟩] ∧ w_FnShiftRows_k16 = some q0) ∨ ( Le 601 τ Γ [(22, i64 x40), (24, (sFc r44)), (29, f32 x52), (30, f32 x56), (31, (sFc r58)), (35, oref 1 (u14 + 2) 0 r70.length), (271, b false)] [⟨(u13 + 2), none⟩, ⟨(u14 + 2), some (r70.map f32)⟩, ⟨1, none⟩, ⟨1, none⟩, ⟨1, none⟩, ⟨1, none⟩, ⟨1, none⟩] ∧ w_FnShiftRows_k18 x40 r44 x52 x56 r58 r70 = some q0)) ?_ ?_
          ·rcases oB h with ⟨hc74, h⟩ | ⟨hc74, h⟩
           ·rcases oB h with ⟨hc75, h⟩ | ⟨hc75, h⟩
            ·refine yW<|yl rfl (b true) (yv hc74)<|yl rfl (b false) y1<|ym rfl (b false)<|ym rfl (oref 1 (u14 + 2) 0 r70.length)<|yl rfl (i64 ((r70.length : Nat) : Int)) (LOp.len_oref und26 rfl rfl)<|ym rfl (i64 x40)<|yl rfl (b true) (LOp.eqb (LOp.neq rfl rfl rfl) hc75)<|yl rfl (b true) yp<|zN ?_
             exact .inl ⟨(Le.of ⟨aR, aR, aR, aR, aR, aR, aR, trivial⟩ ⟨⟨rfl, .inl rfl⟩, ⟨rfl, .inr rfl⟩, ⟨rfl, .inl rfl⟩, ⟨rfl, .inl rfl⟩, ⟨rfl, .inl rfl⟩, ⟨rfl, .inl rfl⟩, ⟨rfl, .inl rfl⟩, trivial⟩), h⟩
            ·refine yW<|yl rfl (b true) (yv hc74)<|yl rfl (b false) y1<|ym rfl (b false)<|ym rfl (oref 1 (u14 + 2) 0 r70.length)<|yl rfl (i64 ((r70.length : Nat) : Int)) (LOp.len_oref und26 rfl rfl)<|ym rfl (i64 x40)<|yl rfl (b false) (LOp.eqb (LOp.neq rfl rfl rfl) hc75)<|yl rfl (b false) yp<|zN ?_
             exact .inr (⟨(Le.of ⟨aR, aR, aR, aR, aR, aR, aR, trivial⟩ ⟨⟨rfl, .inl rfl⟩, ⟨rfl, .inr rfl⟩, ⟨rfl, .inl rfl⟩, ⟨rfl, .inl rfl⟩, ⟨rfl, .inl rfl⟩, ⟨rfl, .inl rfl⟩, ⟨rfl, .inl rfl⟩, trivial⟩), h⟩)
           ·refine yW<|yl rfl (b false) (yv hc74)<|yl rfl (b true) y0<|ym rfl (b true)<|ROps.s rfl rfl rfl<|ROps.s rfl rfl rfl<|ROps.s rfl rfl rfl<|ROps.s rfl rfl rfl<|yl rfl (b true) yq<|zN ?_
            exact .inl ⟨(Le.of ⟨aR, aR, aR, aR, aR, aR, aR, trivial⟩ ⟨⟨rfl, .inl rfl⟩, ⟨rfl, .inr rfl⟩, ⟨rfl, .inl rfl⟩, ⟨rfl, .inl rfl⟩, ⟨rfl, .inl rfl⟩, ⟨rfl, .inl rfl⟩, ⟨rfl, .inl rfl⟩, trivial⟩), h⟩
          ·rintro τ28 Γ28 (⟨hw28, h⟩ | ⟨hw28, h⟩)
           ·refine RunC.le (τ' := [(22, i64 x40), (24, (sFc r44)), (29, f32 x52), (30, f32 x56), (31, (sFc r58)), (35, oref 1 (u14 + 2) 0 r70.length), (271, b true)]) (Γ' := [⟨(u13 + 2), none⟩, ⟨(u14 + 2), some (r70.map f32)⟩, ⟨1, none⟩, ⟨1, none⟩, ⟨1, none⟩, ⟨1, none⟩, ⟨1, none⟩]) hw28 ?_
            unfold w_FnShiftRows_k16 at h
            refine yT<|zQ<|ya rfl (b false)<|zN ?_
            refine RunC.ret ?_
            have hq := oI h
            subst q0
            exact bodyQ.pure (.inr rfl) rfl (Res.one rfl (RV.tmp rfl))
           ·refine RunC.le (τ' := [(22, i64 x40), (24, (sFc r44)), (29, f32 x52), (30, f32 x56), (31, (sFc r58)), (35, oref 1 (u14 + 2) 0 r70.length), (271, b false)]) (Γ' := [⟨(u13 + 2), none⟩, ⟨(u14 + 2), some (r70.map f32)⟩, ⟨1, none⟩, ⟨1, none⟩, ⟨1, none⟩, ⟨1, none⟩, ⟨1, none⟩]) hw28 ?_
            unfold w_FnShiftRows_k18 at h
            refine yF<|RunC.skip<|yS ?_
            obtain ⟨e71, he76, h⟩ := oS h
            obtain ⟨x72, hx77, h⟩ := oL h
            obtain ⟨e73, he78, h⟩ := oS h
            obtain ⟨x74, hx79, h⟩ := oL h
            obtain ⟨x75, hx80, h⟩ := oL h
            obtain ⟨L76, he81, h⟩ := oS h
            refine RunC.region_draw (Γ' := [⟨(u13 + 2), none⟩, ⟨(u14 + 2), some (r70.map f32)⟩, ⟨1, none⟩, ⟨1, none⟩, ⟨1, none⟩, ⟨1, none⟩, ⟨1, none⟩]) 12 mixed 
             (tm rfl (oref 1 (u14 + 2) 0 r70.length) <|
             (TR.d (r := optr 1 (u14 + 2) ((0 : Int).toNat)) (fs := []) rfl rfl (TOp.ixo und26 siz28 rfl rfl rfl (at_in he76 rfl) rfl) <|
             (TR.d (r := f32 e71) (fs := []) rfl rfl (TOp.load1_o rfl (at_cell he76) agg28 rfl rfl) <|
             (tm rfl (f32 x52) <|
             (tm rfl (sFc r58) <|
             (tm rfl (i64 x40) <|
             (tl rfl (i64 x72) (LOp.eqr (LOp.sub rfl rfl rfl) (congrArg (ik .i64) hx77)) <|
             (tl rfl (ptr [f32 e73]) (LOp.le (LOp.ix (f := f32) und26 siz28 rfl rfl rfl rfl he78) ALe.ptr) <|
             (tl rfl (f32 e73) (y2 agg28) <|
             (TR.d (r := f32 x74) (fs := []) rfl rfl (TOp.eqr (TOp.fop (.inr (.inr (.inl rfl))) rfl (OpF.tmp rfl) (OpF.tmp rfl)) (congrArg (f .f32) hx79)) <|
             (TR.d (r := f32 x75) (fs := []) rfl rfl (TOp.eqr (TOp.fop (.inl rfl) rfl (OpF.tmp rfl) (OpF.tmp rfl)) (congrArg (f .f32) hx80)) <|
             (TR.d (r := optr 1 (u14 + 2) ((0 : Int).toNat)) (fs := []) rfl rfl (TOp.ixo und26 siz28 rfl rfl rfl (set_in he81 rfl) rfl) <|
             TR.nil)))))))))))) rfl (by kernel_rfl) rfl fills_nil rfl ?_
            iterate 12 refine ROps.dropS ?_
            refine ROps.drop0<|ROps.st (f := f32) (i := 0) (Γ' := [⟨(u13 + 2), none⟩, ⟨(u14 + 2), some (L76.map f32)⟩, ⟨1, none⟩, ⟨1, none⟩, ⟨1, none⟩, ⟨1, none⟩, ⟨1, none⟩]) rfl siz28 rfl rfl rfl aR rfl rfl rfl he81 rfl<|zN ?_
            refine RunC.wl (τ' := [(22, i64 x40), (24, (sFc r44)), (30, f32 x56), (31, (sFc r58)), (35, oref 1 (u14 + 2) 0 r70.length)]) (Γ' := [⟨(u13 + 2), none⟩, ⟨(u14 + 2), some (L76.map f32)⟩, ⟨1, none⟩, ⟨1, none⟩, ⟨1, none⟩, ⟨1, none⟩, ⟨1, none⟩]) ⟨aR, aR, aR, aR, aR, trivial⟩ ⟨⟨rfl, .inl rfl⟩, ⟨rfl, .inr rfl⟩, ⟨rfl, .inl rfl⟩, ⟨rfl, .inl rfl⟩, ⟨rfl, .inl rfl⟩, ⟨rfl, .inl rfl⟩, ⟨rfl, .inl rfl⟩, trivial⟩<|yS ?_
            obtain ⟨x77, hx82, h⟩ := oL h
            obtain ⟨e78, he83, h⟩ := oS h
            obtain ⟨e79, he84, h⟩ := oS h
            obtain ⟨x80, hx85, h⟩ := oL h
            obtain ⟨x81, hx86, h⟩ := oL h
            obtain ⟨L82, he87, h⟩ := oS h
            refine RunC.region_draw (Γ' := [⟨(u13 + 2), none⟩, ⟨(u14 + 2), some (L76.map f32)⟩, ⟨1, none⟩, ⟨1, none⟩, ⟨1, none⟩, ⟨1, none⟩, ⟨1, none⟩]) 12 mixed 
             (tm rfl (oref 1 (u14 + 2) 0 r70.length) <|
             (tm rfl (i64 x40) <|
             (tl rfl (i64 x77) (LOp.eqr (LOp.sub rfl rfl rfl) (congrArg (ik .i64) hx82)) <|
             (TR.d (r := optr 1 (u14 + 2) x77.toNat) (fs := []) rfl rfl (TOp.ixo und26 siz28 rfl rfl rfl (at_in he83 (setAt?_len he81)) rfl) <|
             (TR.d (r := f32 e78) (fs := []) rfl rfl (TOp.load1_o rfl (at_cell he83) agg28 rfl rfl) <|
             (tm rfl (f32 x56) <|
             (tm rfl (sFc r58) <|
             (tl rfl (ptr [f32 e79]) (LOp.le (LOp.ix (f := f32) und26 siz28 rfl rfl rfl rfl he84) ALe.ptr) <|
             (tl rfl (f32 e79) (y2 agg28) <|
             (TR.d (r := f32 x80) (fs := []) rfl rfl (TOp.eqr (TOp.fop (.inr (.inr (.inl rfl))) rfl (OpF.tmp rfl) (OpF.tmp rfl)) (congrArg (f .f32) hx85)) <|
             (TR.d (r := f32 x81) (fs := []) rfl rfl (TOp.eqr (TOp.fop (.inl rfl) rfl (OpF.tmp rfl) (OpF.tmp rfl)) (congrArg (f .f32) hx86)) <|
             (TR.d (r := optr 1 (u14 + 2) x77.toNat) (fs := []) rfl rfl (TOp.ixo und26 siz28 rfl rfl rfl (set_in he87 (setAt?_len he81)) rfl) <|
             TR.nil)))))))))))) rfl (by kernel_rfl) rfl fills_nil rfl ?_
            iterate 12 refine ROps.dropS ?_
            refine ROps.drop0<|ROps.st (f := f32) (i := x77) (Γ' := [⟨(u13 + 2), none⟩, ⟨(u14 + 2), some (L82.map f32)⟩, ⟨1, none⟩, ⟨1, none⟩, ⟨1, none⟩, ⟨1, none⟩, ⟨1, none⟩]) rfl siz28 rfl rfl rfl aR rfl rfl rfl he87 rfl<|zN ?_
            refine RunC.wl (τ' := [(24, (sFc r44)), (35, oref 1 (u14 + 2) 0 r70.length)]) (Γ' := [⟨(u13 + 2), none⟩, ⟨(u14 + 2), some (L82.map f32)⟩, ⟨1, none⟩, ⟨1, none⟩, ⟨1, none⟩, ⟨1, none⟩, ⟨1, none⟩]) ⟨aR, aR, trivial⟩ ⟨⟨rfl, .inl rfl⟩, ⟨rfl, .inr rfl⟩, ⟨rfl, .inl rfl⟩, ⟨rfl, .inl rfl⟩, ⟨rfl, .inl rfl⟩, ⟨rfl, .inl rfl⟩, ⟨rfl, .inl rfl⟩, trivial⟩<|yS ?_
            obtain ⟨r83, hf88, h⟩ := oS h
            refine yW<|ym rfl (oref 1 (u14 + 2) 0 r70.length)<|ym rfl (sFc r44)<|yd rfl (b r83) (yc ent16 rfl rfl (Bors.cons (Bor.own (f := f32) (fun _ => rfl) rfl ((setAt?_len he87).trans (setAt?_len he81))) (bS (Bors.cons (Bor.le (ALe.fl (by kernel_rfl) (by kernel_rfl)) (Bor.pure rfl)) bN))) (w_b10Far_ok L82 r44 (some 4562254508917369340) r83 hf88))<|yl rfl (b (!r83)) (LOp.not rfl rfl)<|ya rfl (b (!r83))<|zN ?_
            refine RunC.ret ?_
            have hq := oI h
            subst q0
            exact bodyQ.pure (.inr rfl) rfl (Res.one rfl (RV.tmp rfl))
end
end Go.Proofs.Ytkdociaoknmgbaa
