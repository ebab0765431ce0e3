/- Generated. -/
import Derived.Test.YtcjbfpoaidjpaaaG1
namespace Go.Proofs.Ytcjbfpoaidjpaaa
open Go Go.AM Go.AM.AV
set_option maxRecDepth 20000
set_option maxHeartbeats 4000000
set_option linter.unusedVariables false
set_option linter.unusedSimpArgs false
noncomputable def i_OuterMatrix (a0 : List F) (a1 : List F) : Option (Int × Int × Bool × (List F)) :=
 obind (i_IsVector a0) fun (r1 : Bool) =>
 bsel r1 (
  obind (i_IsVector a1) fun (r2 : Bool) =>
  bsel r2 (
   obind (i_length_float32 a0) fun (r3 : Int) =>
   obind (i_isSide r3) fun (r4 : Bool) =>
   bsel r4 (
    obind (i_length_float32 a1) fun (r5 : Int) =>
    obind (i_isSide r5) fun (r6 : Bool) =>
    bsel r6 (
     obind (i_length_float32 a0) fun (r12 : Int) =>
     obind (i_length_float32 a1) fun (r13 : Int) =>
     obind3 (i_made_2Fi_OuterMatrix_1 r12 r13 a0 a1) fun (r14 : Int) (r15 : Int) (r16 : List F) =>
     obind (i_Matrix_valid_02o r14 r15 r16) (fun z => osum z (fun y => obind4 (some y) fun (r17 : Int) (r18 : Int) (r19 : Bool) (r20 : List F) =>
      need (decide (r20.length = r16.length)) <|
      some (r17, r18, r19, r20)) (fun y => obind5 (some y) fun (r21 : Int) (r22 : Int) (r23 : Bool) (r24 : List F) (r25 : List F) =>
      need (decide (r24.length = r16.length)) <|
      some (r21, r22, r23, r25)))) (
     some (0, 0, false, ([] : List F)))) (
    some (0, 0, false, ([] : List F)))) (
   some (0, 0, false, ([] : List F)))) (
  some (0, 0, false, ([] : List F)))
theorem i_OuterMatrix_ok (a0 : List F) (a1 : List F) (q0 : Int) (q1 : Int) (q2 : Bool) (q3 : List F) (h : i_OuterMatrix a0 a1 = some (q0, q1, q2, q3)) : Ev Try.prog 48 [(sFc a0), (sFc a1)] [] (tup [agg (oXc q0 q1 0 0 q3.length), b q2]) [⟨0, some (q3.map f32)⟩] := by
 refine Ev.start Try.func48 rfl rfl 3 (τ := [(0, (sFc a0)), (1, (sFc a1))]) rfl (Γ' := [⟨0, none⟩, ⟨0, none⟩, ⟨0, none⟩]) rfl (n := 73) rfl (g := 0) rfl (fun _ => rfl) ?_
 unfold i_OuterMatrix at h
 refine zQ ?_
 refine ROps.d (r := ptr [(sFc a0)]) (fs := []) (Γ' := [⟨0, none⟩, ⟨0, none⟩, ⟨0, none⟩]) rfl rfl rfl (TOp.box_s rfl rfl rfl) rfl ?_
 refine ROps.d (r := ptr [(sFc a1)]) (fs := []) (Γ' := [⟨0, none⟩, ⟨0, none⟩, ⟨0, none⟩]) rfl rfl rfl (TOp.box_s rfl rfl rfl) rfl ?_
 refine ROps.d (r := optr 0 1 0) (fs := [(0, zMx)]) (Γ' := [⟨1, some zMx⟩, ⟨0, none⟩, ⟨0, none⟩]) rfl rfl rfl (TOp.alloc_o (g := ⟨0, none⟩) 0 rfl zer26 zok26 rfl) rfl ?_
 refine za (r := b false) ?_
 refine zN ?_
 iterate 2 (refine RunC.seq ?_)
 obtain ⟨r1, hf1, h⟩ := obind_some h
 rcases bsel_some h with ⟨hc2, h⟩ | ⟨hc2, h⟩
 ·obtain ⟨r2, hf3, h⟩ := obind_some h
  rcases bsel_some h with ⟨hc4, h⟩ | ⟨hc4, h⟩
  ·obtain ⟨r3, hf5, h⟩ := obind_some h
   obtain ⟨r4, hf6, h⟩ := obind_some h
   rcases bsel_some h with ⟨hc7, h⟩ | ⟨hc7, h⟩
   ·obtain ⟨r5, hf8, h⟩ := obind_some h
    obtain ⟨r6, hf9, h⟩ := obind_some h
    rcases bsel_some h with ⟨hc10, h⟩ | ⟨hc10, h⟩
    ·refine RunC.regionW ?_
     refine zl (r := (sFc a0)) (LOp.load1 agg24 rfl rfl) ?_
     refine ROps.d (r := b true) (fs := []) (Γ' := [⟨1, some zMx⟩, ⟨0, none⟩, ⟨0, none⟩]) rfl rfl rfl (TOp.eqb (TOp.callB (CallAs.func ent70 rfl rfl) (Bors.cons (Bor.sl (fun _ => rfl)) Bors.nil) rfl rfl (i_IsVector_ok a0 r1 hf1)) hc2) rfl ?_
     refine zl (r := b false) (LOp.eqb (LOp.not rfl rfl) rfl) ?_
     refine zm (r := b false) ?_
     refine zl (r := (sFc a1)) (LOp.load1 agg24 rfl rfl) ?_
     refine ROps.d (r := b true) (fs := []) (Γ' := [⟨1, some zMx⟩, ⟨0, none⟩, ⟨0, none⟩]) rfl rfl rfl (TOp.eqb (TOp.callB (CallAs.func ent70 rfl rfl) (Bors.cons (Bor.sl (fun _ => rfl)) Bors.nil) rfl rfl (i_IsVector_ok a1 r2 hf3)) hc4) rfl ?_
     refine zl (r := b false) (LOp.eqb (LOp.not rfl rfl) rfl) ?_
     refine zl (r := b false) (LOp.pick_false rfl rfl rfl) ?_
     refine zm (r := b false) ?_
     refine zl (r := (sFc a0)) (LOp.load1 agg24 rfl rfl) ?_
     refine ROps.d (r := i64 r3) (fs := []) (Γ' := [⟨1, some zMx⟩, ⟨0, none⟩, ⟨0, none⟩]) rfl rfl rfl (TOp.callB (CallAs.func ent71 rfl rfl) (Bors.cons (Bor.sl (fun _ => rfl)) Bors.nil) rfl rfl (i_length_float32_ok a0 r3 hf5)) rfl ?_
     refine ROps.d (r := b true) (fs := []) (Γ' := [⟨1, some zMx⟩, ⟨0, none⟩, ⟨0, none⟩]) rfl rfl rfl (TOp.eqb (TOp.callB (CallAs.func ent59 rfl rfl) (Bors.cons (Bor.pure rfl) Bors.nil) rfl rfl (i_isSide_ok r3 r4 hf6)) hc7) rfl ?_
     refine zl (r := b false) (LOp.eqb (LOp.not rfl rfl) rfl) ?_
     refine zl (r := b false) (LOp.pick_false rfl rfl rfl) ?_
     refine zm (r := b false) ?_
     refine zl (r := (sFc a1)) (LOp.load1 agg24 rfl rfl) ?_
     refine ROps.d (r := i64 r5) (fs := []) (Γ' := [⟨1, some zMx⟩, ⟨0, none⟩, ⟨0, none⟩]) rfl rfl rfl (TOp.callB (CallAs.func ent71 rfl rfl) (Bors.cons (Bor.sl (fun _ => rfl)) Bors.nil) rfl rfl (i_length_float32_ok a1 r5 hf8)) rfl ?_
     refine ROps.d (r := b true) (fs := []) (Γ' := [⟨1, some zMx⟩, ⟨0, none⟩, ⟨0, none⟩]) rfl rfl rfl (TOp.eqb (TOp.callB (CallAs.func ent59 rfl rfl) (Bors.cons (Bor.pure rfl) Bors.nil) rfl rfl (i_isSide_ok r5 r6 hf9)) hc10) rfl ?_
     refine zl (r := b false) (LOp.eqb (LOp.not rfl rfl) rfl) ?_
     refine zl (r := b false) (LOp.pick_false rfl rfl rfl) ?_
     refine zN ?_
     refine RunC.wl (τ' := [(2, ptr [(sFc a0)]), (3, ptr [(sFc a1)]), (4, optr 0 1 0), (25, b false)]) (Γ' := [⟨1, some zMx⟩, ⟨0, none⟩, ⟨0, none⟩]) ⟨aR, aR, aR, aR, trivial⟩ ⟨⟨rfl, .inr rfl⟩, ⟨rfl, .inr rfl⟩, ⟨rfl, .inr rfl⟩, trivial⟩ ?_
     refine RunC.cond_false rfl rfl ?_
     refine RunC.skip ?_
     refine RunC.seq ?_
     obtain ⟨r12, hf14, h⟩ := obind_some h
     obtain ⟨r13, hf15, h⟩ := obind_some h
     obtain ⟨r14, r15, r16, hf16, h⟩ := obind3_some h
     obtain ⟨z1, hf17, h⟩ := obind_some h
     rcases z1 with z1 | z1
     ·replace h := (osum_inl _ _ _).symm.trans h
      obtain ⟨r17, r18, r19, r20, hz2, h⟩ := obind4_some h
      cases hz2
      obtain ⟨hn18, h⟩ := need_some h
      refine RunC.cutN (fun τ Γ => WeakLe τ [(2, ptr [(sFc a0)]), (3, ptr [(sFc a1)]), (4, optr 0 1 0), (5, b r19), (25, b false), (27, (sFc a0)), (28, i64 r12), (29, (sFc a1)), (30, i64 r13), (31, fn (.func 120) [] [ptr [(sFc a0)], ptr [(sFc a1)]]), (32, agg (oXc r14 r15 1 1 r16.length)), (33, tup [agg (oXc r17 r18 1 1 r16.length), b r19]), (34, agg (oXc r17 r18 1 1 r16.length)), (35, b r19)] ∧ DeadLe Γ [⟨1, some (oXc r17 r18 1 1 r16.length)⟩, ⟨1, some (r20.map f32)⟩, ⟨0, none⟩]) ?_ ?_
      ·refine RunC.any (n := 11) rfl mixed ?_
       refine RAny.more (i0 := 0) (l := [2, 4]) (by kernel_rfl) (RAnys.cons rfl ?_ (RAnys.cons rfl ?_ (RAnys.cons rfl ?_ RAnys.nil)))
       ·refine zl (r := (sFc a0)) (LOp.load1 agg24 rfl rfl) ?_
        refine zN ?_
        refine RAny.more (i0 := 1) (l := [2, 4]) (by kernel_rfl) (RAnys.cons rfl ?_ (RAnys.cons rfl ?_ (RAnys.cons rfl ?_ RAnys.nil)))
        ·refine ROps.d (r := i64 r12) (fs := []) (Γ' := [⟨1, some zMx⟩, ⟨0, none⟩, ⟨0, none⟩]) rfl rfl rfl (TOp.callB (CallAs.func ent71 rfl rfl) (Bors.cons (Bor.sl (fun _ => rfl)) Bors.nil) rfl rfl (i_length_float32_ok a0 r12 hf14)) rfl ?_
         refine zN ?_
         refine RAny.more (i0 := 2) (l := [4]) (by kernel_rfl) (RAnys.cons rfl ?_ (RAnys.cons rfl ?_ RAnys.nil))
         ·refine zl (r := (sFc a1)) (LOp.load1 agg24 rfl rfl) ?_
          refine zN ?_
          refine RAny.more (i0 := 3) (l := [4]) (by kernel_rfl) (RAnys.cons rfl ?_ (RAnys.cons rfl ?_ RAnys.nil))
          ·refine ROps.d (r := i64 r13) (fs := []) (Γ' := [⟨1, some zMx⟩, ⟨0, none⟩, ⟨0, none⟩]) rfl rfl rfl (TOp.callB (CallAs.func ent71 rfl rfl) (Bors.cons (Bor.sl (fun _ => rfl)) Bors.nil) rfl rfl (i_length_float32_ok a1 r13 hf15)) rfl ?_
           refine zN ?_
           refine RAny.more (i0 := 4) (l := []) (by kernel_rfl) (RAnys.cons rfl ?_ RAnys.nil)
           refine zl (r := fn (.func 120) [] [ptr [(sFc a0)], ptr [(sFc a1)]]) (LOp.makeFunc rfl rfl) ?_
           refine zN ?_
           refine RAny.more (i0 := 5) (l := []) (by kernel_rfl) (RAnys.cons rfl ?_ RAnys.nil)
           refine ROps.d (r := agg (oXc r14 r15 1 1 r16.length)) (fs := [(1, (r16.map f32))]) (Γ' := [⟨1, some zMx⟩, ⟨1, some (r16.map f32)⟩, ⟨0, none⟩]) rfl rfl rfl (TOp.callBN (ls := [(r16.map f32)]) [1] (CallAs.func ent60 rfl rfl) (Bors.cons (Bor.pure rfl) (Bors.cons (Bor.pure rfl) (Bors.cons (Bor.fn Bors.nil (Bors.cons (Bor.ptr (Bors.cons (Bor.sl (fun _ => rfl)) Bors.nil)) (Bors.cons (Bor.ptr (Bors.cons (Bor.sl (fun _ => rfl)) Bors.nil)) Bors.nil))) Bors.nil))) rfl (i_made_2Fi_OuterMatrix_1_ok r12 r13 a0 a1 r14 r15 r16 hf16) (and_all (lts0_map (f := f32) (fun _ => rfl) _) rfl) (and_all (noss_map (f := f32) (fun _ => rfl) _) rfl) rfl (by decide) (ns_of ⟨⟨_, rfl⟩, trivial⟩)) rfl ?_
           refine zN ?_
           refine RAny.more (i0 := 6) (l := []) (by kernel_rfl) (RAnys.cons rfl ?_ RAnys.nil)
           refine ROps.callO (A := [agg (oXc r14 r15 1 1 r16.length)]) (args := [agg (oXc r14 r15 0 0 r16.length)]) (Γc := [⟨0, some (r16.map f32)⟩]) (Γc' := [⟨0, some (r20.map f32)⟩]) (r' := tup [agg (oXc r17 r18 1 1 r16.length), b r19]) (Γ' := [⟨1, some zMx⟩, ⟨1, some (r20.map f32)⟩, ⟨0, none⟩]) [(1, 1)] [] rfl (CallAs.func ent58 rfl rfl) rfl rfl (SelOk.of (show List.Nodup [1] from by decide) (SelL.arr0 (f := f32) (fun _ => rfl) rfl trivial)) (live_of ⟨⟨_, _, rfl⟩, trivial⟩) (by simp [ren, rens, sigma, rens_f32, rens_f64, rens_i64, rens_ik, rens_str, rens_cp]) rfl (i_Matrix_valid_02o_ok0 r14 r15 r16 r17 r18 r19 r20 hf17) rfl (news_of trivial) (show List.Nodup [1] from by decide) (by simp [ren, rens, sigma, of_decide_eq_true hn18]) (by simp [backOb, sigma, ren, rens, rens_f32, rens_f64, rens_i64, rens_ik, rens_str, rens_cp]) ?_
           refine zN ?_
           refine RAny.more (i0 := 7) (l := [8]) (by kernel_rfl) (RAnys.cons rfl ?_ (RAnys.cons rfl ?_ RAnys.nil))
           ·refine zl (r := agg (oXc r17 r18 1 1 r16.length)) (LOp.extract rfl rfl rfl) ?_
            refine zN ?_
            refine RAny.more (i0 := 8) (l := []) (by kernel_rfl) (RAnys.cons rfl ?_ RAnys.nil)
            refine zl (r := b r19) (LOp.extract rfl rfl rfl) ?_
            refine zN ?_
            refine RAny.more (i0 := 9) (l := []) (by kernel_rfl) (RAnys.cons rfl ?_ RAnys.nil)
            refine ROps.store_le (r := agg (oXc r17 r18 1 1 r16.length)) (l' := (oXc r17 r18 1 1 r16.length)) (Γ' := [⟨1, some (oXc r17 r18 1 1 r16.length)⟩, ⟨1, some (r20.map f32)⟩, ⟨0, none⟩]) rfl siz26 rfl rfl rfl aR rfl rfl rfl rfl (Nat.le_of_ble_eq_true rfl) rfl rfl ?_
            refine zN ?_
            refine RAny.more (i0 := 10) (l := []) (by kernel_rfl) (RAnys.cons rfl ?_ RAnys.nil)
            refine za (r := b r19) ?_
            refine zN ?_
            refine RAny.done (by kernel_rfl) ?_
            exact ⟨⟨aR, aR, aR, aR, aR, aR, aR, aR, aR, aR, aR, aR, aR, aR, trivial⟩, ⟨⟨rfl, .inr rfl⟩, ⟨rfl, .inr rfl⟩, ⟨rfl, .inr rfl⟩, trivial⟩⟩
           ·refine zl (r := b r19) (LOp.extract rfl rfl rfl) ?_
            refine zN ?_
            refine RAny.more (i0 := 7) (l := []) (by kernel_rfl) (RAnys.cons rfl ?_ RAnys.nil)
            refine zl (r := agg (oXc r17 r18 1 1 r16.length)) (LOp.extract rfl rfl rfl) ?_
            refine zN ?_
            refine RAny.more (i0 := 9) (l := []) (by kernel_rfl) (RAnys.cons rfl ?_ RAnys.nil)
            refine ROps.store_le (r := agg (oXc r17 r18 1 1 r16.length)) (l' := (oXc r17 r18 1 1 r16.length)) (Γ' := [⟨1, some (oXc r17 r18 1 1 r16.length)⟩, ⟨1, some (r20.map f32)⟩, ⟨0, none⟩]) rfl siz26 rfl rfl rfl aR rfl rfl rfl rfl (Nat.le_of_ble_eq_true rfl) rfl rfl ?_
            refine zN ?_
            refine RAny.more (i0 := 10) (l := []) (by kernel_rfl) (RAnys.cons rfl ?_ RAnys.nil)
            refine za (r := b r19) ?_
            refine zN ?_
            refine RAny.done (by kernel_rfl) ?_
            exact ⟨⟨aR, aR, aR, aR, aR, aR, aR, aR, aR, aR, aR, aR, aR, aR, trivial⟩, ⟨⟨rfl, .inr rfl⟩, ⟨rfl, .inr rfl⟩, ⟨rfl, .inr rfl⟩, trivial⟩⟩
          ·refine zl (r := fn (.func 120) [] [ptr [(sFc a0)], ptr [(sFc a1)]]) (LOp.makeFunc rfl rfl) ?_
           refine zN ?_
           refine RAny.more (i0 := 3) (l := []) (by kernel_rfl) (RAnys.cons rfl ?_ RAnys.nil)
           refine ROps.d (r := i64 r13) (fs := []) (Γ' := [⟨1, some zMx⟩, ⟨0, none⟩, ⟨0, none⟩]) rfl rfl rfl (TOp.callB (CallAs.func ent71 rfl rfl) (Bors.cons (Bor.sl (fun _ => rfl)) Bors.nil) rfl rfl (i_length_float32_ok a1 r13 hf15)) rfl ?_
           refine zN ?_
           refine RAny.more (i0 := 5) (l := []) (by kernel_rfl) (RAnys.cons rfl ?_ RAnys.nil)
           refine ROps.d (r := agg (oXc r14 r15 1 1 r16.length)) (fs := [(1, (r16.map f32))]) (Γ' := [⟨1, some zMx⟩, ⟨1, some (r16.map f32)⟩, ⟨0, none⟩]) rfl rfl rfl (TOp.callBN (ls := [(r16.map f32)]) [1] (CallAs.func ent60 rfl rfl) (Bors.cons (Bor.pure rfl) (Bors.cons (Bor.pure rfl) (Bors.cons (Bor.fn Bors.nil (Bors.cons (Bor.ptr (Bors.cons (Bor.sl (fun _ => rfl)) Bors.nil)) (Bors.cons (Bor.ptr (Bors.cons (Bor.sl (fun _ => rfl)) Bors.nil)) Bors.nil))) Bors.nil))) rfl (i_made_2Fi_OuterMatrix_1_ok r12 r13 a0 a1 r14 r15 r16 hf16) (and_all (lts0_map (f := f32) (fun _ => rfl) _) rfl) (and_all (noss_map (f := f32) (fun _ => rfl) _) rfl) rfl (by decide) (ns_of ⟨⟨_, rfl⟩, trivial⟩)) rfl ?_
           refine zN ?_
           refine RAny.more (i0 := 6) (l := []) (by kernel_rfl) (RAnys.cons rfl ?_ RAnys.nil)
           refine ROps.callO (A := [agg (oXc r14 r15 1 1 r16.length)]) (args := [agg (oXc r14 r15 0 0 r16.length)]) (Γc := [⟨0, some (r16.map f32)⟩]) (Γc' := [⟨0, some (r20.map f32)⟩]) (r' := tup [agg (oXc r17 r18 1 1 r16.length), b r19]) (Γ' := [⟨1, some zMx⟩, ⟨1, some (r20.map f32)⟩, ⟨0, none⟩]) [(1, 1)] [] rfl (CallAs.func ent58 rfl rfl) rfl rfl (SelOk.of (show List.Nodup [1] from by decide) (SelL.arr0 (f := f32) (fun _ => rfl) rfl trivial)) (live_of ⟨⟨_, _, rfl⟩, trivial⟩) (by simp [ren, rens, sigma, rens_f32, rens_f64, rens_i64, rens_ik, rens_str, rens_cp]) rfl (i_Matrix_valid_02o_ok0 r14 r15 r16 r17 r18 r19 r20 hf17) rfl (news_of trivial) (show List.Nodup [1] from by decide) (by simp [ren, rens, sigma, of_decide_eq_true hn18]) (by simp [backOb, sigma, ren, rens, rens_f32, rens_f64, rens_i64, rens_ik, rens_str, rens_cp]) ?_
           refine zN ?_
           refine RAny.more (i0 := 7) (l := [8]) (by kernel_rfl) (RAnys.cons rfl ?_ (RAnys.cons rfl ?_ RAnys.nil))
           ·refine zl (r := agg (oXc r17 r18 1 1 r16.length)) (LOp.extract rfl rfl rfl) ?_
            refine zN ?_
            refine RAny.more (i0 := 8) (l := []) (by kernel_rfl) (RAnys.cons rfl ?_ RAnys.nil)
            refine zl (r := b r19) (LOp.extract rfl rfl rfl) ?_
            refine zN ?_
            refine RAny.more (i0 := 9) (l := []) (by kernel_rfl) (RAnys.cons rfl ?_ RAnys.nil)
            refine ROps.store_le (r := agg (oXc r17 r18 1 1 r16.length)) (l' := (oXc r17 r18 1 1 r16.length)) (Γ' := [⟨1, some (oXc r17 r18 1 1 r16.length)⟩, ⟨1, some (r20.map f32)⟩, ⟨0, none⟩]) rfl siz26 rfl rfl rfl aR rfl rfl rfl rfl (Nat.le_of_ble_eq_true rfl) rfl rfl ?_
            refine zN ?_
            refine RAny.more (i0 := 10) (l := []) (by kernel_rfl) (RAnys.cons rfl ?_ RAnys.nil)
            refine za (r := b r19) ?_
            refine zN ?_
            refine RAny.done (by kernel_rfl) ?_
            exact ⟨⟨aR, aR, aR, aR, aR, aR, aR, aR, aR, aR, aR, aR, aR, aR, trivial⟩, ⟨⟨rfl, .inr rfl⟩, ⟨rfl, .inr rfl⟩, ⟨rfl, .inr rfl⟩, trivial⟩⟩
           ·refine zl (r := b r19) (LOp.extract rfl rfl rfl) ?_
            refine zN ?_
            refine RAny.more (i0 := 7) (l := []) (by kernel_rfl) (RAnys.cons rfl ?_ RAnys.nil)
            refine zl (r := agg (oXc r17 r18 1 1 r16.length)) (LOp.extract rfl rfl rfl) ?_
            refine zN ?_
            refine RAny.more (i0 := 9) (l := []) (by kernel_rfl) (RAnys.cons rfl ?_ RAnys.nil)
            refine ROps.store_le (r := agg (oXc r17 r18 1 1 r16.length)) (l' := (oXc r17 r18 1 1 r16.length)) (Γ' := [⟨1, some (oXc r17 r18 1 1 r16.length)⟩, ⟨1, some (r20.map f32)⟩, ⟨0, none⟩]) rfl siz26 rfl rfl rfl aR rfl rfl rfl rfl (Nat.le_of_ble_eq_true rfl) rfl rfl ?_
            refine zN ?_
            refine RAny.more (i0 := 10) (l := []) (by kernel_rfl) (RAnys.cons rfl ?_ RAnys.nil)
            refine za (r := b r19) ?_
            refine zN ?_
            refine RAny.done (by kernel_rfl) ?_
            exact ⟨⟨aR, aR, aR, aR, aR, aR, aR, aR, aR, aR, aR, aR, aR, aR, trivial⟩, ⟨⟨rfl, .inr rfl⟩, ⟨rfl, .inr rfl⟩, ⟨rfl, .inr rfl⟩, trivial⟩⟩
         ·refine zl (r := fn (.func 120) [] [ptr [(sFc a0)], ptr [(sFc a1)]]) (LOp.makeFunc rfl rfl) ?_
          refine zN ?_
          refine RAny.more (i0 := 2) (l := []) (by kernel_rfl) (RAnys.cons rfl ?_ RAnys.nil)
          refine zl (r := (sFc a1)) (LOp.load1 agg24 rfl rfl) ?_
          refine zN ?_
          refine RAny.more (i0 := 3) (l := []) (by kernel_rfl) (RAnys.cons rfl ?_ RAnys.nil)
          refine ROps.d (r := i64 r13) (fs := []) (Γ' := [⟨1, some zMx⟩, ⟨0, none⟩, ⟨0, none⟩]) rfl rfl rfl (TOp.callB (CallAs.func ent71 rfl rfl) (Bors.cons (Bor.sl (fun _ => rfl)) Bors.nil) rfl rfl (i_length_float32_ok a1 r13 hf15)) rfl ?_
          refine zN ?_
          refine RAny.more (i0 := 5) (l := []) (by kernel_rfl) (RAnys.cons rfl ?_ RAnys.nil)
          refine ROps.d (r := agg (oXc r14 r15 1 1 r16.length)) (fs := [(1, (r16.map f32))]) (Γ' := [⟨1, some zMx⟩, ⟨1, some (r16.map f32)⟩, ⟨0, none⟩]) rfl rfl rfl (TOp.callBN (ls := [(r16.map f32)]) [1] (CallAs.func ent60 rfl rfl) (Bors.cons (Bor.pure rfl) (Bors.cons (Bor.pure rfl) (Bors.cons (Bor.fn Bors.nil (Bors.cons (Bor.ptr (Bors.cons (Bor.sl (fun _ => rfl)) Bors.nil)) (Bors.cons (Bor.ptr (Bors.cons (Bor.sl (fun _ => rfl)) Bors.nil)) Bors.nil))) Bors.nil))) rfl (i_made_2Fi_OuterMatrix_1_ok r12 r13 a0 a1 r14 r15 r16 hf16) (and_all (lts0_map (f := f32) (fun _ => rfl) _) rfl) (and_all (noss_map (f := f32) (fun _ => rfl) _) rfl) rfl (by decide) (ns_of ⟨⟨_, rfl⟩, trivial⟩)) rfl ?_
          refine zN ?_
          refine RAny.more (i0 := 6) (l := []) (by kernel_rfl) (RAnys.cons rfl ?_ RAnys.nil)
          refine ROps.callO (A := [agg (oXc r14 r15 1 1 r16.length)]) (args := [agg (oXc r14 r15 0 0 r16.length)]) (Γc := [⟨0, some (r16.map f32)⟩]) (Γc' := [⟨0, some (r20.map f32)⟩]) (r' := tup [agg (oXc r17 r18 1 1 r16.length), b r19]) (Γ' := [⟨1, some zMx⟩, ⟨1, some (r20.map f32)⟩, ⟨0, none⟩]) [(1, 1)] [] rfl (CallAs.func ent58 rfl rfl) rfl rfl (SelOk.of (show List.Nodup [1] from by decide) (SelL.arr0 (f := f32) (fun _ => rfl) rfl trivial)) (live_of ⟨⟨_, _, rfl⟩, trivial⟩) (by simp [ren, rens, sigma, rens_f32, rens_f64, rens_i64, rens_ik, rens_str, rens_cp]) rfl (i_Matrix_valid_02o_ok0 r14 r15 r16 r17 r18 r19 r20 hf17) rfl (news_of trivial) (show List.Nodup [1] from by decide) (by simp [ren, rens, sigma, of_decide_eq_true hn18]) (by simp [backOb, sigma, ren, rens, rens_f32, rens_f64, rens_i64, rens_ik, rens_str, rens_cp]) ?_
          refine zN ?_
          refine RAny.more (i0 := 7) (l := [8]) (by kernel_rfl) (RAnys.cons rfl ?_ (RAnys.cons rfl ?_ RAnys.nil))
          ·refine zl (r := agg (oXc r17 r18 1 1 r16.length)) (LOp.extract rfl rfl rfl) ?_
           refine zN ?_
           refine RAny.more (i0 := 8) (l := []) (by kernel_rfl) (RAnys.cons rfl ?_ RAnys.nil)
           refine zl (r := b r19) (LOp.extract rfl rfl rfl) ?_
           refine zN ?_
           refine RAny.more (i0 := 9) (l := []) (by kernel_rfl) (RAnys.cons rfl ?_ RAnys.nil)
           refine ROps.store_le (r := agg (oXc r17 r18 1 1 r16.length)) (l' := (oXc r17 r18 1 1 r16.length)) (Γ' := [⟨1, some (oXc r17 r18 1 1 r16.length)⟩, ⟨1, some (r20.map f32)⟩, ⟨0, none⟩]) rfl siz26 rfl rfl rfl aR rfl rfl rfl rfl (Nat.le_of_ble_eq_true rfl) rfl rfl ?_
           refine zN ?_
           refine RAny.more (i0 := 10) (l := []) (by kernel_rfl) (RAnys.cons rfl ?_ RAnys.nil)
           refine za (r := b r19) ?_
           refine zN ?_
           refine RAny.done (by kernel_rfl) ?_
           exact ⟨⟨aR, aR, aR, aR, aR, aR, aR, aR, aR, aR, aR, aR, aR, aR, trivial⟩, ⟨⟨rfl, .inr rfl⟩, ⟨rfl, .inr rfl⟩, ⟨rfl, .inr rfl⟩, trivial⟩⟩
          ·refine zl (r := b r19) (LOp.extract rfl rfl rfl) ?_
           refine zN ?_
           refine RAny.more (i0 := 7) (l := []) (by kernel_rfl) (RAnys.cons rfl ?_ RAnys.nil)
           refine zl (r := agg (oXc r17 r18 1 1 r16.length)) (LOp.extract rfl rfl rfl) ?_
           refine zN ?_
           refine RAny.more (i0 := 9) (l := []) (by kernel_rfl) (RAnys.cons rfl ?_ RAnys.nil)
           refine ROps.store_le (r := agg (oXc r17 r18 1 1 r16.length)) (l' := (oXc r17 r18 1 1 r16.length)) (Γ' := [⟨1, some (oXc r17 r18 1 1 r16.length)⟩, ⟨1, some (r20.map f32)⟩, ⟨0, none⟩]) rfl siz26 rfl rfl rfl aR rfl rfl rfl rfl (Nat.le_of_ble_eq_true rfl) rfl rfl ?_
           refine zN ?_
           refine RAny.more (i0 := 10) (l := []) (by kernel_rfl) (RAnys.cons rfl ?_ RAnys.nil)
           refine za (r := b r19) ?_
           refine zN ?_
           refine RAny.done (by kernel_rfl) ?_
           exact ⟨⟨aR, aR, aR, aR, aR, aR, aR, aR, aR, aR, aR, aR, aR, aR, trivial⟩, ⟨⟨rfl, .inr rfl⟩, ⟨rfl, .inr rfl⟩, ⟨rfl, .inr rfl⟩, trivial⟩⟩
        ·refine zl (r := (sFc a1)) (LOp.load1 agg24 rfl rfl) ?_
         refine zN ?_
         refine RAny.more (i0 := 1) (l := [4]) (by kernel_rfl) (RAnys.cons rfl ?_ (RAnys.cons rfl ?_ RAnys.nil))
         ·refine ROps.d (r := i64 r12) (fs := []) (Γ' := [⟨1, some zMx⟩, ⟨0, none⟩, ⟨0, none⟩]) rfl rfl rfl (TOp.callB (CallAs.func ent71 rfl rfl) (Bors.cons (Bor.sl (fun _ => rfl)) Bors.nil) rfl rfl (i_length_float32_ok a0 r12 hf14)) rfl ?_
          refine zN ?_
          refine RAny.more (i0 := 3) (l := [4]) (by kernel_rfl) (RAnys.cons rfl ?_ (RAnys.cons rfl ?_ RAnys.nil))
          ·refine ROps.d (r := i64 r13) (fs := []) (Γ' := [⟨1, some zMx⟩, ⟨0, none⟩, ⟨0, none⟩]) rfl rfl rfl (TOp.callB (CallAs.func ent71 rfl rfl) (Bors.cons (Bor.sl (fun _ => rfl)) Bors.nil) rfl rfl (i_length_float32_ok a1 r13 hf15)) rfl ?_
           refine zN ?_
           refine RAny.more (i0 := 4) (l := []) (by kernel_rfl) (RAnys.cons rfl ?_ RAnys.nil)
           refine zl (r := fn (.func 120) [] [ptr [(sFc a0)], ptr [(sFc a1)]]) (LOp.makeFunc rfl rfl) ?_
           refine zN ?_
           refine RAny.more (i0 := 5) (l := []) (by kernel_rfl) (RAnys.cons rfl ?_ RAnys.nil)
           refine ROps.d (r := agg (oXc r14 r15 1 1 r16.length)) (fs := [(1, (r16.map f32))]) (Γ' := [⟨1, some zMx⟩, ⟨1, some (r16.map f32)⟩, ⟨0, none⟩]) rfl rfl rfl (TOp.callBN (ls := [(r16.map f32)]) [1] (CallAs.func ent60 rfl rfl) (Bors.cons (Bor.pure rfl) (Bors.cons (Bor.pure rfl) (Bors.cons (Bor.fn Bors.nil (Bors.cons (Bor.ptr (Bors.cons (Bor.sl (fun _ => rfl)) Bors.nil)) (Bors.cons (Bor.ptr (Bors.cons (Bor.sl (fun _ => rfl)) Bors.nil)) Bors.nil))) Bors.nil))) rfl (i_made_2Fi_OuterMatrix_1_ok r12 r13 a0 a1 r14 r15 r16 hf16) (and_all (lts0_map (f := f32) (fun _ => rfl) _) rfl) (and_all (noss_map (f := f32) (fun _ => rfl) _) rfl) rfl (by decide) (ns_of ⟨⟨_, rfl⟩, trivial⟩)) rfl ?_
           refine zN ?_
           refine RAny.more (i0 := 6) (l := []) (by kernel_rfl) (RAnys.cons rfl ?_ RAnys.nil)
           refine ROps.callO (A := [agg (oXc r14 r15 1 1 r16.length)]) (args := [agg (oXc r14 r15 0 0 r16.length)]) (Γc := [⟨0, some (r16.map f32)⟩]) (Γc' := [⟨0, some (r20.map f32)⟩]) (r' := tup [agg (oXc r17 r18 1 1 r16.length), b r19]) (Γ' := [⟨1, some zMx⟩, ⟨1, some (r20.map f32)⟩, ⟨0, none⟩]) [(1, 1)] [] rfl (CallAs.func ent58 rfl rfl) rfl rfl (SelOk.of (show List.Nodup [1] from by decide) (SelL.arr0 (f := f32) (fun _ => rfl) rfl trivial)) (live_of ⟨⟨_, _, rfl⟩, trivial⟩) (by simp [ren, rens, sigma, rens_f32, rens_f64, rens_i64, rens_ik, rens_str, rens_cp]) rfl (i_Matrix_valid_02o_ok0 r14 r15 r16 r17 r18 r19 r20 hf17) rfl (news_of trivial) (show List.Nodup [1] from by decide) (by simp [ren, rens, sigma, of_decide_eq_true hn18]) (by simp [backOb, sigma, ren, rens, rens_f32, rens_f64, rens_i64, rens_ik, rens_str, rens_cp]) ?_
           refine zN ?_
           refine RAny.more (i0 := 7) (l := [8]) (by kernel_rfl) (RAnys.cons rfl ?_ (RAnys.cons rfl ?_ RAnys.nil))
           ·refine zl (r := agg (oXc r17 r18 1 1 r16.length)) (LOp.extract rfl rfl rfl) ?_
            refine zN ?_
            refine RAny.more (i0 := 8) (l := []) (by kernel_rfl) (RAnys.cons rfl ?_ RAnys.nil)
            refine zl (r := b r19) (LOp.extract rfl rfl rfl) ?_
            refine zN ?_
            refine RAny.more (i0 := 9) (l := []) (by kernel_rfl) (RAnys.cons rfl ?_ RAnys.nil)
            refine ROps.store_le (r := agg (oXc r17 r18 1 1 r16.length)) (l' := (oXc r17 r18 1 1 r16.length)) (Γ' := [⟨1, some (oXc r17 r18 1 1 r16.length)⟩, ⟨1, some (r20.map f32)⟩, ⟨0, none⟩]) rfl siz26 rfl rfl rfl aR rfl rfl rfl rfl (Nat.le_of_ble_eq_true rfl) rfl rfl ?_
            refine zN ?_
            refine RAny.more (i0 := 10) (l := []) (by kernel_rfl) (RAnys.cons rfl ?_ RAnys.nil)
            refine za (r := b r19) ?_
            refine zN ?_
            refine RAny.done (by kernel_rfl) ?_
            exact ⟨⟨aR, aR, aR, aR, aR, aR, aR, aR, aR, aR, aR, aR, aR, aR, trivial⟩, ⟨⟨rfl, .inr rfl⟩, ⟨rfl, .inr rfl⟩, ⟨rfl, .inr rfl⟩, trivial⟩⟩
           ·refine zl (r := b r19) (LOp.extract rfl rfl rfl) ?_
            refine zN ?_
            refine RAny.more (i0 := 7) (l := []) (by kernel_rfl) (RAnys.cons rfl ?_ RAnys.nil)
            refine zl (r := agg (oXc r17 r18 1 1 r16.length)) (LOp.extract rfl rfl rfl) ?_
            refine zN ?_
            refine RAny.more (i0 := 9) (l := []) (by kernel_rfl) (RAnys.cons rfl ?_ RAnys.nil)
            refine ROps.store_le (r := agg (oXc r17 r18 1 1 r16.length)) (l' := (oXc r17 r18 1 1 r16.length)) (Γ' := [⟨1, some (oXc r17 r18 1 1 r16.length)⟩, ⟨1, some (r20.map f32)⟩, ⟨0, none⟩]) rfl siz26 rfl rfl rfl aR rfl rfl rfl rfl (Nat.le_of_ble_eq_true rfl) rfl rfl ?_
            refine zN ?_
            refine RAny.more (i0 := 10) (l := []) (by kernel_rfl) (RAnys.cons rfl ?_ RAnys.nil)
            refine za (r := b r19) ?_
            refine zN ?_
            refine RAny.done (by kernel_rfl) ?_
            exact ⟨⟨aR, aR, aR, aR, aR, aR, aR, aR, aR, aR, aR, aR, aR, aR, trivial⟩, ⟨⟨rfl, .inr rfl⟩, ⟨rfl, .inr rfl⟩, ⟨rfl, .inr rfl⟩, trivial⟩⟩
          ·refine zl (r := fn (.func 120) [] [ptr [(sFc a0)], ptr [(sFc a1)]]) (LOp.makeFunc rfl rfl) ?_
           refine zN ?_
           refine RAny.more (i0 := 3) (l := []) (by kernel_rfl) (RAnys.cons rfl ?_ RAnys.nil)
           refine ROps.d (r := i64 r13) (fs := []) (Γ' := [⟨1, some zMx⟩, ⟨0, none⟩, ⟨0, none⟩]) rfl rfl rfl (TOp.callB (CallAs.func ent71 rfl rfl) (Bors.cons (Bor.sl (fun _ => rfl)) Bors.nil) rfl rfl (i_length_float32_ok a1 r13 hf15)) rfl ?_
           refine zN ?_
           refine RAny.more (i0 := 5) (l := []) (by kernel_rfl) (RAnys.cons rfl ?_ RAnys.nil)
           refine ROps.d (r := agg (oXc r14 r15 1 1 r16.length)) (fs := [(1, (r16.map f32))]) (Γ' := [⟨1, some zMx⟩, ⟨1, some (r16.map f32)⟩, ⟨0, none⟩]) rfl rfl rfl (TOp.callBN (ls := [(r16.map f32)]) [1] (CallAs.func ent60 rfl rfl) (Bors.cons (Bor.pure rfl) (Bors.cons (Bor.pure rfl) (Bors.cons (Bor.fn Bors.nil (Bors.cons (Bor.ptr (Bors.cons (Bor.sl (fun _ => rfl)) Bors.nil)) (Bors.cons (Bor.ptr (Bors.cons (Bor.sl (fun _ => rfl)) Bors.nil)) Bors.nil))) Bors.nil))) rfl (i_made_2Fi_OuterMatrix_1_ok r12 r13 a0 a1 r14 r15 r16 hf16) (and_all (lts0_map (f := f32) (fun _ => rfl) _) rfl) (and_all (noss_map (f := f32) (fun _ => rfl) _) rfl) rfl (by decide) (ns_of ⟨⟨_, rfl⟩, trivial⟩)) rfl ?_
           refine zN ?_
           refine RAny.more (i0 := 6) (l := []) (by kernel_rfl) (RAnys.cons rfl ?_ RAnys.nil)
           refine ROps.callO (A := [agg (oXc r14 r15 1 1 r16.length)]) (args := [agg (oXc r14 r15 0 0 r16.length)]) (Γc := [⟨0, some (r16.map f32)⟩]) (Γc' := [⟨0, some (r20.map f32)⟩]) (r' := tup [agg (oXc r17 r18 1 1 r16.length), b r19]) (Γ' := [⟨1, some zMx⟩, ⟨1, some (r20.map f32)⟩, ⟨0, none⟩]) [(1, 1)] [] rfl (CallAs.func ent58 rfl rfl) rfl rfl (SelOk.of (show List.Nodup [1] from by decide) (SelL.arr0 (f := f32) (fun _ => rfl) rfl trivial)) (live_of ⟨⟨_, _, rfl⟩, trivial⟩) (by simp [ren, rens, sigma, rens_f32, rens_f64, rens_i64, rens_ik, rens_str, rens_cp]) rfl (i_Matrix_valid_02o_ok0 r14 r15 r16 r17 r18 r19 r20 hf17) rfl (news_of trivial) (show List.Nodup [1] from by decide) (by simp [ren, rens, sigma, of_decide_eq_true hn18]) (by simp [backOb, sigma, ren, rens, rens_f32, rens_f64, rens_i64, rens_ik, rens_str, rens_cp]) ?_
           refine zN ?_
           refine RAny.more (i0 := 7) (l := [8]) (by kernel_rfl) (RAnys.cons rfl ?_ (RAnys.cons rfl ?_ RAnys.nil))
           ·refine zl (r := agg (oXc r17 r18 1 1 r16.length)) (LOp.extract rfl rfl rfl) ?_
            refine zN ?_
            refine RAny.more (i0 := 8) (l := []) (by kernel_rfl) (RAnys.cons rfl ?_ RAnys.nil)
            refine zl (r := b r19) (LOp.extract rfl rfl rfl) ?_
            refine zN ?_
            refine RAny.more (i0 := 9) (l := []) (by kernel_rfl) (RAnys.cons rfl ?_ RAnys.nil)
            refine ROps.store_le (r := agg (oXc r17 r18 1 1 r16.length)) (l' := (oXc r17 r18 1 1 r16.length)) (Γ' := [⟨1, some (oXc r17 r18 1 1 r16.length)⟩, ⟨1, some (r20.map f32)⟩, ⟨0, none⟩]) rfl siz26 rfl rfl rfl aR rfl rfl rfl rfl (Nat.le_of_ble_eq_true rfl) rfl rfl ?_
            refine zN ?_
            refine RAny.more (i0 := 10) (l := []) (by kernel_rfl) (RAnys.cons rfl ?_ RAnys.nil)
            refine za (r := b r19) ?_
            refine zN ?_
            refine RAny.done (by kernel_rfl) ?_
            exact ⟨⟨aR, aR, aR, aR, aR, aR, aR, aR, aR, aR, aR, aR, aR, aR, trivial⟩, ⟨⟨rfl, .inr rfl⟩, ⟨rfl, .inr rfl⟩, ⟨rfl, .inr rfl⟩, trivial⟩⟩
           ·refine zl (r := b r19) (LOp.extract rfl rfl rfl) ?_
            refine zN ?_
            refine RAny.more (i0 := 7) (l := []) (by kernel_rfl) (RAnys.cons rfl ?_ RAnys.nil)
            refine zl (r := agg (oXc r17 r18 1 1 r16.length)) (LOp.extract rfl rfl rfl) ?_
            refine zN ?_
            refine RAny.more (i0 := 9) (l := []) (by kernel_rfl) (RAnys.cons rfl ?_ RAnys.nil)
            refine ROps.store_le (r := agg (oXc r17 r18 1 1 r16.length)) (l' := (oXc r17 r18 1 1 r16.length)) (Γ' := [⟨1, some (oXc r17 r18 1 1 r16.length)⟩, ⟨1, some (r20.map f32)⟩, ⟨0, none⟩]) rfl siz26 rfl rfl rfl aR rfl rfl rfl rfl (Nat.le_of_ble_eq_true rfl) rfl rfl ?_
            refine zN ?_
            refine RAny.more (i0 := 10) (l := []) (by kernel_rfl) (RAnys.cons rfl ?_ RAnys.nil)
            refine za (r := b r19) ?_
            refine zN ?_
            refine RAny.done (by kernel_rfl) ?_
            exact ⟨⟨aR, aR, aR, aR, aR, aR, aR, aR, aR, aR, aR, aR, aR, aR, trivial⟩, ⟨⟨rfl, .inr rfl⟩, ⟨rfl, .inr rfl⟩, ⟨rfl, .inr rfl⟩, trivial⟩⟩
         ·refine zl (r := fn (.func 120) [] [ptr [(sFc a0)], ptr [(sFc a1)]]) (LOp.makeFunc rfl rfl) ?_
          refine zN ?_
          refine RAny.more (i0 := 1) (l := []) (by kernel_rfl) (RAnys.cons rfl ?_ RAnys.nil)
          refine ROps.d (r := i64 r12) (fs := []) (Γ' := [⟨1, some zMx⟩, ⟨0, none⟩, ⟨0, none⟩]) rfl rfl rfl (TOp.callB (CallAs.func ent71 rfl rfl) (Bors.cons (Bor.sl (fun _ => rfl)) Bors.nil) rfl rfl (i_length_float32_ok a0 r12 hf14)) rfl ?_
          refine zN ?_
          refine RAny.more (i0 := 3) (l := []) (by kernel_rfl) (RAnys.cons rfl ?_ RAnys.nil)
          refine ROps.d (r := i64 r13) (fs := []) (Γ' := [⟨1, some zMx⟩, ⟨0, none⟩, ⟨0, none⟩]) rfl rfl rfl (TOp.callB (CallAs.func ent71 rfl rfl) (Bors.cons (Bor.sl (fun _ => rfl)) Bors.nil) rfl rfl (i_length_float32_ok a1 r13 hf15)) rfl ?_
          refine zN ?_
          refine RAny.more (i0 := 5) (l := []) (by kernel_rfl) (RAnys.cons rfl ?_ RAnys.nil)
          refine ROps.d (r := agg (oXc r14 r15 1 1 r16.length)) (fs := [(1, (r16.map f32))]) (Γ' := [⟨1, some zMx⟩, ⟨1, some (r16.map f32)⟩, ⟨0, none⟩]) rfl rfl rfl (TOp.callBN (ls := [(r16.map f32)]) [1] (CallAs.func ent60 rfl rfl) (Bors.cons (Bor.pure rfl) (Bors.cons (Bor.pure rfl) (Bors.cons (Bor.fn Bors.nil (Bors.cons (Bor.ptr (Bors.cons (Bor.sl (fun _ => rfl)) Bors.nil)) (Bors.cons (Bor.ptr (Bors.cons (Bor.sl (fun _ => rfl)) Bors.nil)) Bors.nil))) Bors.nil))) rfl (i_made_2Fi_OuterMatrix_1_ok r12 r13 a0 a1 r14 r15 r16 hf16) (and_all (lts0_map (f := f32) (fun _ => rfl) _) rfl) (and_all (noss_map (f := f32) (fun _ => rfl) _) rfl) rfl (by decide) (ns_of ⟨⟨_, rfl⟩, trivial⟩)) rfl ?_
          refine zN ?_
          refine RAny.more (i0 := 6) (l := []) (by kernel_rfl) (RAnys.cons rfl ?_ RAnys.nil)
          refine ROps.callO (A := [agg (oXc r14 r15 1 1 r16.length)]) (args := [agg (oXc r14 r15 0 0 r16.length)]) (Γc := [⟨0, some (r16.map f32)⟩]) (Γc' := [⟨0, some (r20.map f32)⟩]) (r' := tup [agg (oXc r17 r18 1 1 r16.length), b r19]) (Γ' := [⟨1, some zMx⟩, ⟨1, some (r20.map f32)⟩, ⟨0, none⟩]) [(1, 1)] [] rfl (CallAs.func ent58 rfl rfl) rfl rfl (SelOk.of (show List.Nodup [1] from by decide) (SelL.arr0 (f := f32) (fun _ => rfl) rfl trivial)) (live_of ⟨⟨_, _, rfl⟩, trivial⟩) (by simp [ren, rens, sigma, rens_f32, rens_f64, rens_i64, rens_ik, rens_str, rens_cp]) rfl (i_Matrix_valid_02o_ok0 r14 r15 r16 r17 r18 r19 r20 hf17) rfl (news_of trivial) (show List.Nodup [1] from by decide) (by simp [ren, rens, sigma, of_decide_eq_true hn18]) (by simp [backOb, sigma, ren, rens, rens_f32, rens_f64, rens_i64, rens_ik, rens_str, rens_cp]) ?_
          refine zN ?_
          refine RAny.more (i0 := 7) (l := [8]) (by kernel_rfl) (RAnys.cons rfl ?_ (RAnys.cons rfl ?_ RAnys.nil))
          ·refine zl (r := agg (oXc r17 r18 1 1 r16.length)) (LOp.extract rfl rfl rfl) ?_
           refine zN ?_
           refine RAny.more (i0 := 8) (l := []) (by kernel_rfl) (RAnys.cons rfl ?_ RAnys.nil)
           refine zl (r := b r19) (LOp.extract rfl rfl rfl) ?_
           refine zN ?_
           refine RAny.more (i0 := 9) (l := []) (by kernel_rfl) (RAnys.cons rfl ?_ RAnys.nil)
           refine ROps.store_le (r := agg (oXc r17 r18 1 1 r16.length)) (l' := (oXc r17 r18 1 1 r16.length)) (Γ' := [⟨1, some (oXc r17 r18 1 1 r16.length)⟩, ⟨1, some (r20.map f32)⟩, ⟨0, none⟩]) rfl siz26 rfl rfl rfl aR rfl rfl rfl rfl (Nat.le_of_ble_eq_true rfl) rfl rfl ?_
           refine zN ?_
           refine RAny.more (i0 := 10) (l := []) (by kernel_rfl) (RAnys.cons rfl ?_ RAnys.nil)
           refine za (r := b r19) ?_
           refine zN ?_
           refine RAny.done (by kernel_rfl) ?_
           exact ⟨⟨aR, aR, aR, aR, aR, aR, aR, aR, aR, aR, aR, aR, aR, aR, trivial⟩, ⟨⟨rfl, .inr rfl⟩, ⟨rfl, .inr rfl⟩, ⟨rfl, .inr rfl⟩, trivial⟩⟩
          ·refine zl (r := b r19) (LOp.extract rfl rfl rfl) ?_
           refine zN ?_
           refine RAny.more (i0 := 7) (l := []) (by kernel_rfl) (RAnys.cons rfl ?_ RAnys.nil)
           refine zl (r := agg (oXc r17 r18 1 1 r16.length)) (LOp.extract rfl rfl rfl) ?_
           refine zN ?_
           refine RAny.more (i0 := 9) (l := []) (by kernel_rfl) (RAnys.cons rfl ?_ RAnys.nil)
           refine ROps.store_le (r := agg (oXc r17 r18 1 1 r16.length)) (l' := (oXc r17 r18 1 1 r16.length)) (Γ' := [⟨1, some (oXc r17 r18 1 1 r16.length)⟩, ⟨1, some (r20.map f32)⟩, ⟨0, none⟩]) rfl siz26 rfl rfl rfl aR rfl rfl rfl rfl (Nat.le_of_ble_eq_true rfl) rfl rfl ?_
           refine zN ?_
           refine RAny.more (i0 := 10) (l := []) (by kernel_rfl) (RAnys.cons rfl ?_ RAnys.nil)
           refine za (r := b r19) ?_
           refine zN ?_
           refine RAny.done (by kernel_rfl) ?_
           exact ⟨⟨aR, aR, aR, aR, aR, aR, aR, aR, aR, aR, aR, aR, aR, aR, trivial⟩, ⟨⟨rfl, .inr rfl⟩, ⟨rfl, .inr rfl⟩, ⟨rfl, .inr rfl⟩, trivial⟩⟩
        ·refine zl (r := fn (.func 120) [] [ptr [(sFc a0)], ptr [(sFc a1)]]) (LOp.makeFunc rfl rfl) ?_
         refine zN ?_
         refine RAny.more (i0 := 1) (l := [2]) (by kernel_rfl) (RAnys.cons rfl ?_ (RAnys.cons rfl ?_ RAnys.nil))
         ·refine ROps.d (r := i64 r12) (fs := []) (Γ' := [⟨1, some zMx⟩, ⟨0, none⟩, ⟨0, none⟩]) rfl rfl rfl (TOp.callB (CallAs.func ent71 rfl rfl) (Bors.cons (Bor.sl (fun _ => rfl)) Bors.nil) rfl rfl (i_length_float32_ok a0 r12 hf14)) rfl ?_
          refine zN ?_
          refine RAny.more (i0 := 2) (l := []) (by kernel_rfl) (RAnys.cons rfl ?_ RAnys.nil)
          refine zl (r := (sFc a1)) (LOp.load1 agg24 rfl rfl) ?_
          refine zN ?_
          refine RAny.more (i0 := 3) (l := []) (by kernel_rfl) (RAnys.cons rfl ?_ RAnys.nil)
          refine ROps.d (r := i64 r13) (fs := []) (Γ' := [⟨1, some zMx⟩, ⟨0, none⟩, ⟨0, none⟩]) rfl rfl rfl (TOp.callB (CallAs.func ent71 rfl rfl) (Bors.cons (Bor.sl (fun _ => rfl)) Bors.nil) rfl rfl (i_length_float32_ok a1 r13 hf15)) rfl ?_
          refine zN ?_
          refine RAny.more (i0 := 5) (l := []) (by kernel_rfl) (RAnys.cons rfl ?_ RAnys.nil)
          refine ROps.d (r := agg (oXc r14 r15 1 1 r16.length)) (fs := [(1, (r16.map f32))]) (Γ' := [⟨1, some zMx⟩, ⟨1, some (r16.map f32)⟩, ⟨0, none⟩]) rfl rfl rfl (TOp.callBN (ls := [(r16.map f32)]) [1] (CallAs.func ent60 rfl rfl) (Bors.cons (Bor.pure rfl) (Bors.cons (Bor.pure rfl) (Bors.cons (Bor.fn Bors.nil (Bors.cons (Bor.ptr (Bors.cons (Bor.sl (fun _ => rfl)) Bors.nil)) (Bors.cons (Bor.ptr (Bors.cons (Bor.sl (fun _ => rfl)) Bors.nil)) Bors.nil))) Bors.nil))) rfl (i_made_2Fi_OuterMatrix_1_ok r12 r13 a0 a1 r14 r15 r16 hf16) (and_all (lts0_map (f := f32) (fun _ => rfl) _) rfl) (and_all (noss_map (f := f32) (fun _ => rfl) _) rfl) rfl (by decide) (ns_of ⟨⟨_, rfl⟩, trivial⟩)) rfl ?_
          refine zN ?_
          refine RAny.more (i0 := 6) (l := []) (by kernel_rfl) (RAnys.cons rfl ?_ RAnys.nil)
          refine ROps.callO (A := [agg (oXc r14 r15 1 1 r16.length)]) (args := [agg (oXc r14 r15 0 0 r16.length)]) (Γc := [⟨0, some (r16.map f32)⟩]) (Γc' := [⟨0, some (r20.map f32)⟩]) (r' := tup [agg (oXc r17 r18 1 1 r16.length), b r19]) (Γ' := [⟨1, some zMx⟩, ⟨1, some (r20.map f32)⟩, ⟨0, none⟩]) [(1, 1)] [] rfl (CallAs.func ent58 rfl rfl) rfl rfl (SelOk.of (show List.Nodup [1] from by decide) (SelL.arr0 (f := f32) (fun _ => rfl) rfl trivial)) (live_of ⟨⟨_, _, rfl⟩, trivial⟩) (by simp [ren, rens, sigma, rens_f32, rens_f64, rens_i64, rens_ik, rens_str, rens_cp]) rfl (i_Matrix_valid_02o_ok0 r14 r15 r16 r17 r18 r19 r20 hf17) rfl (news_of trivial) (show List.Nodup [1] from by decide) (by simp [ren, rens, sigma, of_decide_eq_true hn18]) (by simp [backOb, sigma, ren, rens, rens_f32, rens_f64, rens_i64, rens_ik, rens_str, rens_cp]) ?_
          refine zN ?_
          refine RAny.more (i0 := 7) (l := [8]) (by kernel_rfl) (RAnys.cons rfl ?_ (RAnys.cons rfl ?_ RAnys.nil))
          ·refine zl (r := agg (oXc r17 r18 1 1 r16.length)) (LOp.extract rfl rfl rfl) ?_
           refine zN ?_
           refine RAny.more (i0 := 8) (l := []) (by kernel_rfl) (RAnys.cons rfl ?_ RAnys.nil)
           refine zl (r := b r19) (LOp.extract rfl rfl rfl) ?_
           refine zN ?_
           refine RAny.more (i0 := 9) (l := []) (by kernel_rfl) (RAnys.cons rfl ?_ RAnys.nil)
           refine ROps.store_le (r := agg (oXc r17 r18 1 1 r16.length)) (l' := (oXc r17 r18 1 1 r16.length)) (Γ' := [⟨1, some (oXc r17 r18 1 1 r16.length)⟩, ⟨1, some (r20.map f32)⟩, ⟨0, none⟩]) rfl siz26 rfl rfl rfl aR rfl rfl rfl rfl (Nat.le_of_ble_eq_true rfl) rfl rfl ?_
           refine zN ?_
           refine RAny.more (i0 := 10) (l := []) (by kernel_rfl) (RAnys.cons rfl ?_ RAnys.nil)
           refine za (r := b r19) ?_
           refine zN ?_
           refine RAny.done (by kernel_rfl) ?_
           exact ⟨⟨aR, aR, aR, aR, aR, aR, aR, aR, aR, aR, aR, aR, aR, aR, trivial⟩, ⟨⟨rfl, .inr rfl⟩, ⟨rfl, .inr rfl⟩, ⟨rfl, .inr rfl⟩, trivial⟩⟩
          ·refine zl (r := b r19) (LOp.extract rfl rfl rfl) ?_
           refine zN ?_
           refine RAny.more (i0 := 7) (l := []) (by kernel_rfl) (RAnys.cons rfl ?_ RAnys.nil)
           refine zl (r := agg (oXc r17 r18 1 1 r16.length)) (LOp.extract rfl rfl rfl) ?_
           refine zN ?_
           refine RAny.more (i0 := 9) (l := []) (by kernel_rfl) (RAnys.cons rfl ?_ RAnys.nil)
           refine ROps.store_le (r := agg (oXc r17 r18 1 1 r16.length)) (l' := (oXc r17 r18 1 1 r16.length)) (Γ' := [⟨1, some (oXc r17 r18 1 1 r16.length)⟩, ⟨1, some (r20.map f32)⟩, ⟨0, none⟩]) rfl siz26 rfl rfl rfl aR rfl rfl rfl rfl (Nat.le_of_ble_eq_true rfl) rfl rfl ?_
           refine zN ?_
           refine RAny.more (i0 := 10) (l := []) (by kernel_rfl) (RAnys.cons rfl ?_ RAnys.nil)
           refine za (r := b r19) ?_
           refine zN ?_
           refine RAny.done (by kernel_rfl) ?_
           exact ⟨⟨aR, aR, aR, aR, aR, aR, aR, aR, aR, aR, aR, aR, aR, aR, trivial⟩, ⟨⟨rfl, .inr rfl⟩, ⟨rfl, .inr rfl⟩, ⟨rfl, .inr rfl⟩, trivial⟩⟩
         ·refine zl (r := (sFc a1)) (LOp.load1 agg24 rfl rfl) ?_
          refine zN ?_
          refine RAny.more (i0 := 1) (l := []) (by kernel_rfl) (RAnys.cons rfl ?_ RAnys.nil)
          refine ROps.d (r := i64 r12) (fs := []) (Γ' := [⟨1, some zMx⟩, ⟨0, none⟩, ⟨0, none⟩]) rfl rfl rfl (TOp.callB (CallAs.func ent71 rfl rfl) (Bors.cons (Bor.sl (fun _ => rfl)) Bors.nil) rfl rfl (i_length_float32_ok a0 r12 hf14)) rfl ?_
          refine zN ?_
          refine RAny.more (i0 := 3) (l := []) (by kernel_rfl) (RAnys.cons rfl ?_ RAnys.nil)
          refine ROps.d (r := i64 r13) (fs := []) (Γ' := [⟨1, some zMx⟩, ⟨0, none⟩, ⟨0, none⟩]) rfl rfl rfl (TOp.callB (CallAs.func ent71 rfl rfl) (Bors.cons (Bor.sl (fun _ => rfl)) Bors.nil) rfl rfl (i_length_float32_ok a1 r13 hf15)) rfl ?_
          refine zN ?_
          refine RAny.more (i0 := 5) (l := []) (by kernel_rfl) (RAnys.cons rfl ?_ RAnys.nil)
          refine ROps.d (r := agg (oXc r14 r15 1 1 r16.length)) (fs := [(1, (r16.map f32))]) (Γ' := [⟨1, some zMx⟩, ⟨1, some (r16.map f32)⟩, ⟨0, none⟩]) rfl rfl rfl (TOp.callBN (ls := [(r16.map f32)]) [1] (CallAs.func ent60 rfl rfl) (Bors.cons (Bor.pure rfl) (Bors.cons (Bor.pure rfl) (Bors.cons (Bor.fn Bors.nil (Bors.cons (Bor.ptr (Bors.cons (Bor.sl (fun _ => rfl)) Bors.nil)) (Bors.cons (Bor.ptr (Bors.cons (Bor.sl (fun _ => rfl)) Bors.nil)) Bors.nil))) Bors.nil))) rfl (i_made_2Fi_OuterMatrix_1_ok r12 r13 a0 a1 r14 r15 r16 hf16) (and_all (lts0_map (f := f32) (fun _ => rfl) _) rfl) (and_all (noss_map (f := f32) (fun _ => rfl) _) rfl) rfl (by decide) (ns_of ⟨⟨_, rfl⟩, trivial⟩)) rfl ?_
          refine zN ?_
          refine RAny.more (i0 := 6) (l := []) (by kernel_rfl) (RAnys.cons rfl ?_ RAnys.nil)
          refine ROps.callO (A := [agg (oXc r14 r15 1 1 r16.length)]) (args := [agg (oXc r14 r15 0 0 r16.length)]) (Γc := [⟨0, some (r16.map f32)⟩]) (Γc' := [⟨0, some (r20.map f32)⟩]) (r' := tup [agg (oXc r17 r18 1 1 r16.length), b r19]) (Γ' := [⟨1, some zMx⟩, ⟨1, some (r20.map f32)⟩, ⟨0, none⟩]) [(1, 1)] [] rfl (CallAs.func ent58 rfl rfl) rfl rfl (SelOk.of (show List.Nodup [1] from by decide) (SelL.arr0 (f := f32) (fun _ => rfl) rfl trivial)) (live_of ⟨⟨_, _, rfl⟩, trivial⟩) (by simp [ren, rens, sigma, rens_f32, rens_f64, rens_i64, rens_ik, rens_str, rens_cp]) rfl (i_Matrix_valid_02o_ok0 r14 r15 r16 r17 r18 r19 r20 hf17) rfl (news_of trivial) (show List.Nodup [1] from by decide) (by simp [ren, rens, sigma, of_decide_eq_true hn18]) (by simp [backOb, sigma, ren, rens, rens_f32, rens_f64, rens_i64, rens_ik, rens_str, rens_cp]) ?_
          refine zN ?_
          refine RAny.more (i0 := 7) (l := [8]) (by kernel_rfl) (RAnys.cons rfl ?_ (RAnys.cons rfl ?_ RAnys.nil))
          ·refine zl (r := agg (oXc r17 r18 1 1 r16.length)) (LOp.extract rfl rfl rfl) ?_
           refine zN ?_
           refine RAny.more (i0 := 8) (l := []) (by kernel_rfl) (RAnys.cons rfl ?_ RAnys.nil)
           refine zl (r := b r19) (LOp.extract rfl rfl rfl) ?_
           refine zN ?_
           refine RAny.more (i0 := 9) (l := []) (by kernel_rfl) (RAnys.cons rfl ?_ RAnys.nil)
           refine ROps.store_le (r := agg (oXc r17 r18 1 1 r16.length)) (l' := (oXc r17 r18 1 1 r16.length)) (Γ' := [⟨1, some (oXc r17 r18 1 1 r16.length)⟩, ⟨1, some (r20.map f32)⟩, ⟨0, none⟩]) rfl siz26 rfl rfl rfl aR rfl rfl rfl rfl (Nat.le_of_ble_eq_true rfl) rfl rfl ?_
           refine zN ?_
           refine RAny.more (i0 := 10) (l := []) (by kernel_rfl) (RAnys.cons rfl ?_ RAnys.nil)
           refine za (r := b r19) ?_
           refine zN ?_
           refine RAny.done (by kernel_rfl) ?_
           exact ⟨⟨aR, aR, aR, aR, aR, aR, aR, aR, aR, aR, aR, aR, aR, aR, trivial⟩, ⟨⟨rfl, .inr rfl⟩, ⟨rfl, .inr rfl⟩, ⟨rfl, .inr rfl⟩, trivial⟩⟩
          ·refine zl (r := b r19) (LOp.extract rfl rfl rfl) ?_
           refine zN ?_
           refine RAny.more (i0 := 7) (l := []) (by kernel_rfl) (RAnys.cons rfl ?_ RAnys.nil)
           refine zl (r := agg (oXc r17 r18 1 1 r16.length)) (LOp.extract rfl rfl rfl) ?_
           refine zN ?_
           refine RAny.more (i0 := 9) (l := []) (by kernel_rfl) (RAnys.cons rfl ?_ RAnys.nil)
           refine ROps.store_le (r := agg (oXc r17 r18 1 1 r16.length)) (l' := (oXc r17 r18 1 1 r16.length)) (Γ' := [⟨1, some (oXc r17 r18 1 1 r16.length)⟩, ⟨1, some (r20.map f32)⟩, ⟨0, none⟩]) rfl siz26 rfl rfl rfl aR rfl rfl rfl rfl (Nat.le_of_ble_eq_true rfl) rfl rfl ?_
           refine zN ?_
           refine RAny.more (i0 := 10) (l := []) (by kernel_rfl) (RAnys.cons rfl ?_ RAnys.nil)
           refine za (r := b r19) ?_
           refine zN ?_
           refine RAny.done (by kernel_rfl) ?_
           exact ⟨⟨aR, aR, aR, aR, aR, aR, aR, aR, aR, aR, aR, aR, aR, aR, trivial⟩, ⟨⟨rfl, .inr rfl⟩, ⟨rfl, .inr rfl⟩, ⟨rfl, .inr rfl⟩, trivial⟩⟩
       ·refine zl (r := (sFc a1)) (LOp.load1 agg24 rfl rfl) ?_
        refine zN ?_
        refine RAny.more (i0 := 0) (l := [4]) (by kernel_rfl) (RAnys.cons rfl ?_ (RAnys.cons rfl ?_ RAnys.nil))
        ·refine zl (r := (sFc a0)) (LOp.load1 agg24 rfl rfl) ?_
         refine zN ?_
         refine RAny.more (i0 := 1) (l := [4]) (by kernel_rfl) (RAnys.cons rfl ?_ (RAnys.cons rfl ?_ RAnys.nil))
         ·refine ROps.d (r := i64 r12) (fs := []) (Γ' := [⟨1, some zMx⟩, ⟨0, none⟩, ⟨0, none⟩]) rfl rfl rfl (TOp.callB (CallAs.func ent71 rfl rfl) (Bors.cons (Bor.sl (fun _ => rfl)) Bors.nil) rfl rfl (i_length_float32_ok a0 r12 hf14)) rfl ?_
          refine zN ?_
          refine RAny.more (i0 := 3) (l := [4]) (by kernel_rfl) (RAnys.cons rfl ?_ (RAnys.cons rfl ?_ RAnys.nil))
          ·refine ROps.d (r := i64 r13) (fs := []) (Γ' := [⟨1, some zMx⟩, ⟨0, none⟩, ⟨0, none⟩]) rfl rfl rfl (TOp.callB (CallAs.func ent71 rfl rfl) (Bors.cons (Bor.sl (fun _ => rfl)) Bors.nil) rfl rfl (i_length_float32_ok a1 r13 hf15)) rfl ?_
           refine zN ?_
           refine RAny.more (i0 := 4) (l := []) (by kernel_rfl) (RAnys.cons rfl ?_ RAnys.nil)
           refine zl (r := fn (.func 120) [] [ptr [(sFc a0)], ptr [(sFc a1)]]) (LOp.makeFunc rfl rfl) ?_
           refine zN ?_
           refine RAny.more (i0 := 5) (l := []) (by kernel_rfl) (RAnys.cons rfl ?_ RAnys.nil)
           refine ROps.d (r := agg (oXc r14 r15 1 1 r16.length)) (fs := [(1, (r16.map f32))]) (Γ' := [⟨1, some zMx⟩, ⟨1, some (r16.map f32)⟩, ⟨0, none⟩]) rfl rfl rfl (TOp.callBN (ls := [(r16.map f32)]) [1] (CallAs.func ent60 rfl rfl) (Bors.cons (Bor.pure rfl) (Bors.cons (Bor.pure rfl) (Bors.cons (Bor.fn Bors.nil (Bors.cons (Bor.ptr (Bors.cons (Bor.sl (fun _ => rfl)) Bors.nil)) (Bors.cons (Bor.ptr (Bors.cons (Bor.sl (fun _ => rfl)) Bors.nil)) Bors.nil))) Bors.nil))) rfl (i_made_2Fi_OuterMatrix_1_ok r12 r13 a0 a1 r14 r15 r16 hf16) (and_all (lts0_map (f := f32) (fun _ => rfl) _) rfl) (and_all (noss_map (f := f32) (fun _ => rfl) _) rfl) rfl (by decide) (ns_of ⟨⟨_, rfl⟩, trivial⟩)) rfl ?_
           refine zN ?_
           refine RAny.more (i0 := 6) (l := []) (by kernel_rfl) (RAnys.cons rfl ?_ RAnys.nil)
           refine ROps.callO (A := [agg (oXc r14 r15 1 1 r16.length)]) (args := [agg (oXc r14 r15 0 0 r16.length)]) (Γc := [⟨0, some (r16.map f32)⟩]) (Γc' := [⟨0, some (r20.map f32)⟩]) (r' := tup [agg (oXc r17 r18 1 1 r16.length), b r19]) (Γ' := [⟨1, some zMx⟩, ⟨1, some (r20.map f32)⟩, ⟨0, none⟩]) [(1, 1)] [] rfl (CallAs.func ent58 rfl rfl) rfl rfl (SelOk.of (show List.Nodup [1] from by decide) (SelL.arr0 (f := f32) (fun _ => rfl) rfl trivial)) (live_of ⟨⟨_, _, rfl⟩, trivial⟩) (by simp [ren, rens, sigma, rens_f32, rens_f64, rens_i64, rens_ik, rens_str, rens_cp]) rfl (i_Matrix_valid_02o_ok0 r14 r15 r16 r17 r18 r19 r20 hf17) rfl (news_of trivial) (show List.Nodup [1] from by decide) (by simp [ren, rens, sigma, of_decide_eq_true hn18]) (by simp [backOb, sigma, ren, rens, rens_f32, rens_f64, rens_i64, rens_ik, rens_str, rens_cp]) ?_
           refine zN ?_
           refine RAny.more (i0 := 7) (l := [8]) (by kernel_rfl) (RAnys.cons rfl ?_ (RAnys.cons rfl ?_ RAnys.nil))
           ·refine zl (r := agg (oXc r17 r18 1 1 r16.length)) (LOp.extract rfl rfl rfl) ?_
            refine zN ?_
            refine RAny.more (i0 := 8) (l := []) (by kernel_rfl) (RAnys.cons rfl ?_ RAnys.nil)
            refine zl (r := b r19) (LOp.extract rfl rfl rfl) ?_
            refine zN ?_
            refine RAny.more (i0 := 9) (l := []) (by kernel_rfl) (RAnys.cons rfl ?_ RAnys.nil)
            refine ROps.store_le (r := agg (oXc r17 r18 1 1 r16.length)) (l' := (oXc r17 r18 1 1 r16.length)) (Γ' := [⟨1, some (oXc r17 r18 1 1 r16.length)⟩, ⟨1, some (r20.map f32)⟩, ⟨0, none⟩]) rfl siz26 rfl rfl rfl aR rfl rfl rfl rfl (Nat.le_of_ble_eq_true rfl) rfl rfl ?_
            refine zN ?_
            refine RAny.more (i0 := 10) (l := []) (by kernel_rfl) (RAnys.cons rfl ?_ RAnys.nil)
            refine za (r := b r19) ?_
            refine zN ?_
            refine RAny.done (by kernel_rfl) ?_
            exact ⟨⟨aR, aR, aR, aR, aR, aR, aR, aR, aR, aR, aR, aR, aR, aR, trivial⟩, ⟨⟨rfl, .inr rfl⟩, ⟨rfl, .inr rfl⟩, ⟨rfl, .inr rfl⟩, trivial⟩⟩
           ·refine zl (r := b r19) (LOp.extract rfl rfl rfl) ?_
            refine zN ?_
            refine RAny.more (i0 := 7) (l := []) (by kernel_rfl) (RAnys.cons rfl ?_ RAnys.nil)
            refine zl (r := agg (oXc r17 r18 1 1 r16.length)) (LOp.extract rfl rfl rfl) ?_
            refine zN ?_
            refine RAny.more (i0 := 9) (l := []) (by kernel_rfl) (RAnys.cons rfl ?_ RAnys.nil)
            refine ROps.store_le (r := agg (oXc r17 r18 1 1 r16.length)) (l' := (oXc r17 r18 1 1 r16.length)) (Γ' := [⟨1, some (oXc r17 r18 1 1 r16.length)⟩, ⟨1, some (r20.map f32)⟩, ⟨0, none⟩]) rfl siz26 rfl rfl rfl aR rfl rfl rfl rfl (Nat.le_of_ble_eq_true rfl) rfl rfl ?_
            refine zN ?_
            refine RAny.more (i0 := 10) (l := []) (by kernel_rfl) (RAnys.cons rfl ?_ RAnys.nil)
            refine za (r := b r19) ?_
            refine zN ?_
            refine RAny.done (by kernel_rfl) ?_
            exact ⟨⟨aR, aR, aR, aR, aR, aR, aR, aR, aR, aR, aR, aR, aR, aR, trivial⟩, ⟨⟨rfl, .inr rfl⟩, ⟨rfl, .inr rfl⟩, ⟨rfl, .inr rfl⟩, trivial⟩⟩
          ·refine zl (r := fn (.func 120) [] [ptr [(sFc a0)], ptr [(sFc a1)]]) (LOp.makeFunc rfl rfl) ?_
           refine zN ?_
           refine RAny.more (i0 := 3) (l := []) (by kernel_rfl) (RAnys.cons rfl ?_ RAnys.nil)
           refine ROps.d (r := i64 r13) (fs := []) (Γ' := [⟨1, some zMx⟩, ⟨0, none⟩, ⟨0, none⟩]) rfl rfl rfl (TOp.callB (CallAs.func ent71 rfl rfl) (Bors.cons (Bor.sl (fun _ => rfl)) Bors.nil) rfl rfl (i_length_float32_ok a1 r13 hf15)) rfl ?_
           refine zN ?_
           refine RAny.more (i0 := 5) (l := []) (by kernel_rfl) (RAnys.cons rfl ?_ RAnys.nil)
           refine ROps.d (r := agg (oXc r14 r15 1 1 r16.length)) (fs := [(1, (r16.map f32))]) (Γ' := [⟨1, some zMx⟩, ⟨1, some (r16.map f32)⟩, ⟨0, none⟩]) rfl rfl rfl (TOp.callBN (ls := [(r16.map f32)]) [1] (CallAs.func ent60 rfl rfl) (Bors.cons (Bor.pure rfl) (Bors.cons (Bor.pure rfl) (Bors.cons (Bor.fn Bors.nil (Bors.cons (Bor.ptr (Bors.cons (Bor.sl (fun _ => rfl)) Bors.nil)) (Bors.cons (Bor.ptr (Bors.cons (Bor.sl (fun _ => rfl)) Bors.nil)) Bors.nil))) Bors.nil))) rfl (i_made_2Fi_OuterMatrix_1_ok r12 r13 a0 a1 r14 r15 r16 hf16) (and_all (lts0_map (f := f32) (fun _ => rfl) _) rfl) (and_all (noss_map (f := f32) (fun _ => rfl) _) rfl) rfl (by decide) (ns_of ⟨⟨_, rfl⟩, trivial⟩)) rfl ?_
           refine zN ?_
           refine RAny.more (i0 := 6) (l := []) (by kernel_rfl) (RAnys.cons rfl ?_ RAnys.nil)
           refine ROps.callO (A := [agg (oXc r14 r15 1 1 r16.length)]) (args := [agg (oXc r14 r15 0 0 r16.length)]) (Γc := [⟨0, some (r16.map f32)⟩]) (Γc' := [⟨0, some (r20.map f32)⟩]) (r' := tup [agg (oXc r17 r18 1 1 r16.length), b r19]) (Γ' := [⟨1, some zMx⟩, ⟨1, some (r20.map f32)⟩, ⟨0, none⟩]) [(1, 1)] [] rfl (CallAs.func ent58 rfl rfl) rfl rfl (SelOk.of (show List.Nodup [1] from by decide) (SelL.arr0 (f := f32) (fun _ => rfl) rfl trivial)) (live_of ⟨⟨_, _, rfl⟩, trivial⟩) (by simp [ren, rens, sigma, rens_f32, rens_f64, rens_i64, rens_ik, rens_str, rens_cp]) rfl (i_Matrix_valid_02o_ok0 r14 r15 r16 r17 r18 r19 r20 hf17) rfl (news_of trivial) (show List.Nodup [1] from by decide) (by simp [ren, rens, sigma, of_decide_eq_true hn18]) (by simp [backOb, sigma, ren, rens, rens_f32, rens_f64, rens_i64, rens_ik, rens_str, rens_cp]) ?_
           refine zN ?_
           refine RAny.more (i0 := 7) (l := [8]) (by kernel_rfl) (RAnys.cons rfl ?_ (RAnys.cons rfl ?_ RAnys.nil))
           ·refine zl (r := agg (oXc r17 r18 1 1 r16.length)) (LOp.extract rfl rfl rfl) ?_
            refine zN ?_
            refine RAny.more (i0 := 8) (l := []) (by kernel_rfl) (RAnys.cons rfl ?_ RAnys.nil)
            refine zl (r := b r19) (LOp.extract rfl rfl rfl) ?_
            refine zN ?_
            refine RAny.more (i0 := 9) (l := []) (by kernel_rfl) (RAnys.cons rfl ?_ RAnys.nil)
            refine ROps.store_le (r := agg (oXc r17 r18 1 1 r16.length)) (l' := (oXc r17 r18 1 1 r16.length)) (Γ' := [⟨1, some (oXc r17 r18 1 1 r16.length)⟩, ⟨1, some (r20.map f32)⟩, ⟨0, none⟩]) rfl siz26 rfl rfl rfl aR rfl rfl rfl rfl (Nat.le_of_ble_eq_true rfl) rfl rfl ?_
            refine zN ?_
            refine RAny.more (i0 := 10) (l := []) (by kernel_rfl) (RAnys.cons rfl ?_ RAnys.nil)
            refine za (r := b r19) ?_
            refine zN ?_
            refine RAny.done (by kernel_rfl) ?_
            exact ⟨⟨aR, aR, aR, aR, aR, aR, aR, aR, aR, aR, aR, aR, aR, aR, trivial⟩, ⟨⟨rfl, .inr rfl⟩, ⟨rfl, .inr rfl⟩, ⟨rfl, .inr rfl⟩, trivial⟩⟩
           ·refine zl (r := b r19) (LOp.extract rfl rfl rfl) ?_
            refine zN ?_
            refine RAny.more (i0 := 7) (l := []) (by kernel_rfl) (RAnys.cons rfl ?_ RAnys.nil)
            refine zl (r := agg (oXc r17 r18 1 1 r16.length)) (LOp.extract rfl rfl rfl) ?_
            refine zN ?_
            refine RAny.more (i0 := 9) (l := []) (by kernel_rfl) (RAnys.cons rfl ?_ RAnys.nil)
            refine ROps.store_le (r := agg (oXc r17 r18 1 1 r16.length)) (l' := (oXc r17 r18 1 1 r16.length)) (Γ' := [⟨1, some (oXc r17 r18 1 1 r16.length)⟩, ⟨1, some (r20.map f32)⟩, ⟨0, none⟩]) rfl siz26 rfl rfl rfl aR rfl rfl rfl rfl (Nat.le_of_ble_eq_true rfl) rfl rfl ?_
            refine zN ?_
            refine RAny.more (i0 := 10) (l := []) (by kernel_rfl) (RAnys.cons rfl ?_ RAnys.nil)
            refine za (r := b r19) ?_
            refine zN ?_
            refine RAny.done (by kernel_rfl) ?_
            exact ⟨⟨aR, aR, aR, aR, aR, aR, aR, aR, aR, aR, aR, aR, aR, aR, trivial⟩, ⟨⟨rfl, .inr rfl⟩, ⟨rfl, .inr rfl⟩, ⟨rfl, .inr rfl⟩, trivial⟩⟩
         ·refine zl (r := fn (.func 120) [] [ptr [(sFc a0)], ptr [(sFc a1)]]) (LOp.makeFunc rfl rfl) ?_
          refine zN ?_
          refine RAny.more (i0 := 1) (l := []) (by kernel_rfl) (RAnys.cons rfl ?_ RAnys.nil)
          refine ROps.d (r := i64 r12) (fs := []) (Γ' := [⟨1, some zMx⟩, ⟨0, none⟩, ⟨0, none⟩]) rfl rfl rfl (TOp.callB (CallAs.func ent71 rfl rfl) (Bors.cons (Bor.sl (fun _ => rfl)) Bors.nil) rfl rfl (i_length_float32_ok a0 r12 hf14)) rfl ?_
          refine zN ?_
          refine RAny.more (i0 := 3) (l := []) (by kernel_rfl) (RAnys.cons rfl ?_ RAnys.nil)
          refine ROps.d (r := i64 r13) (fs := []) (Γ' := [⟨1, some zMx⟩, ⟨0, none⟩, ⟨0, none⟩]) rfl rfl rfl (TOp.callB (CallAs.func ent71 rfl rfl) (Bors.cons (Bor.sl (fun _ => rfl)) Bors.nil) rfl rfl (i_length_float32_ok a1 r13 hf15)) rfl ?_
          refine zN ?_
          refine RAny.more (i0 := 5) (l := []) (by kernel_rfl) (RAnys.cons rfl ?_ RAnys.nil)
          refine ROps.d (r := agg (oXc r14 r15 1 1 r16.length)) (fs := [(1, (r16.map f32))]) (Γ' := [⟨1, some zMx⟩, ⟨1, some (r16.map f32)⟩, ⟨0, none⟩]) rfl rfl rfl (TOp.callBN (ls := [(r16.map f32)]) [1] (CallAs.func ent60 rfl rfl) (Bors.cons (Bor.pure rfl) (Bors.cons (Bor.pure rfl) (Bors.cons (Bor.fn Bors.nil (Bors.cons (Bor.ptr (Bors.cons (Bor.sl (fun _ => rfl)) Bors.nil)) (Bors.cons (Bor.ptr (Bors.cons (Bor.sl (fun _ => rfl)) Bors.nil)) Bors.nil))) Bors.nil))) rfl (i_made_2Fi_OuterMatrix_1_ok r12 r13 a0 a1 r14 r15 r16 hf16) (and_all (lts0_map (f := f32) (fun _ => rfl) _) rfl) (and_all (noss_map (f := f32) (fun _ => rfl) _) rfl) rfl (by decide) (ns_of ⟨⟨_, rfl⟩, trivial⟩)) rfl ?_
          refine zN ?_
          refine RAny.more (i0 := 6) (l := []) (by kernel_rfl) (RAnys.cons rfl ?_ RAnys.nil)
          refine ROps.callO (A := [agg (oXc r14 r15 1 1 r16.length)]) (args := [agg (oXc r14 r15 0 0 r16.length)]) (Γc := [⟨0, some (r16.map f32)⟩]) (Γc' := [⟨0, some (r20.map f32)⟩]) (r' := tup [agg (oXc r17 r18 1 1 r16.length), b r19]) (Γ' := [⟨1, some zMx⟩, ⟨1, some (r20.map f32)⟩, ⟨0, none⟩]) [(1, 1)] [] rfl (CallAs.func ent58 rfl rfl) rfl rfl (SelOk.of (show List.Nodup [1] from by decide) (SelL.arr0 (f := f32) (fun _ => rfl) rfl trivial)) (live_of ⟨⟨_, _, rfl⟩, trivial⟩) (by simp [ren, rens, sigma, rens_f32, rens_f64, rens_i64, rens_ik, rens_str, rens_cp]) rfl (i_Matrix_valid_02o_ok0 r14 r15 r16 r17 r18 r19 r20 hf17) rfl (news_of trivial) (show List.Nodup [1] from by decide) (by simp [ren, rens, sigma, of_decide_eq_true hn18]) (by simp [backOb, sigma, ren, rens, rens_f32, rens_f64, rens_i64, rens_ik, rens_str, rens_cp]) ?_
          refine zN ?_
          refine RAny.more (i0 := 7) (l := [8]) (by kernel_rfl) (RAnys.cons rfl ?_ (RAnys.cons rfl ?_ RAnys.nil))
          ·refine zl (r := agg (oXc r17 r18 1 1 r16.length)) (LOp.extract rfl rfl rfl) ?_
           refine zN ?_
           refine RAny.more (i0 := 8) (l := []) (by kernel_rfl) (RAnys.cons rfl ?_ RAnys.nil)
           refine zl (r := b r19) (LOp.extract rfl rfl rfl) ?_
           refine zN ?_
           refine RAny.more (i0 := 9) (l := []) (by kernel_rfl) (RAnys.cons rfl ?_ RAnys.nil)
           refine ROps.store_le (r := agg (oXc r17 r18 1 1 r16.length)) (l' := (oXc r17 r18 1 1 r16.length)) (Γ' := [⟨1, some (oXc r17 r18 1 1 r16.length)⟩, ⟨1, some (r20.map f32)⟩, ⟨0, none⟩]) rfl siz26 rfl rfl rfl aR rfl rfl rfl rfl (Nat.le_of_ble_eq_true rfl) rfl rfl ?_
           refine zN ?_
           refine RAny.more (i0 := 10) (l := []) (by kernel_rfl) (RAnys.cons rfl ?_ RAnys.nil)
           refine za (r := b r19) ?_
           refine zN ?_
           refine RAny.done (by kernel_rfl) ?_
           exact ⟨⟨aR, aR, aR, aR, aR, aR, aR, aR, aR, aR, aR, aR, aR, aR, trivial⟩, ⟨⟨rfl, .inr rfl⟩, ⟨rfl, .inr rfl⟩, ⟨rfl, .inr rfl⟩, trivial⟩⟩
          ·refine zl (r := b r19) (LOp.extract rfl rfl rfl) ?_
           refine zN ?_
           refine RAny.more (i0 := 7) (l := []) (by kernel_rfl) (RAnys.cons rfl ?_ RAnys.nil)
           refine zl (r := agg (oXc r17 r18 1 1 r16.length)) (LOp.extract rfl rfl rfl) ?_
           refine zN ?_
           refine RAny.more (i0 := 9) (l := []) (by kernel_rfl) (RAnys.cons rfl ?_ RAnys.nil)
           refine ROps.store_le (r := agg (oXc r17 r18 1 1 r16.length)) (l' := (oXc r17 r18 1 1 r16.length)) (Γ' := [⟨1, some (oXc r17 r18 1 1 r16.length)⟩, ⟨1, some (r20.map f32)⟩, ⟨0, none⟩]) rfl siz26 rfl rfl rfl aR rfl rfl rfl rfl (Nat.le_of_ble_eq_true rfl) rfl rfl ?_
           refine zN ?_
           refine RAny.more (i0 := 10) (l := []) (by kernel_rfl) (RAnys.cons rfl ?_ RAnys.nil)
           refine za (r := b r19) ?_
           refine zN ?_
           refine RAny.done (by kernel_rfl) ?_
           exact ⟨⟨aR, aR, aR, aR, aR, aR, aR, aR, aR, aR, aR, aR, aR, aR, trivial⟩, ⟨⟨rfl, .inr rfl⟩, ⟨rfl, .inr rfl⟩, ⟨rfl, .inr rfl⟩, trivial⟩⟩
        ·refine zl (r := fn (.func 120) [] [ptr [(sFc a0)], ptr [(sFc a1)]]) (LOp.makeFunc rfl rfl) ?_
         refine zN ?_
         refine RAny.more (i0 := 0) (l := []) (by kernel_rfl) (RAnys.cons rfl ?_ RAnys.nil)
         refine zl (r := (sFc a0)) (LOp.load1 agg24 rfl rfl) ?_
         refine zN ?_
         refine RAny.more (i0 := 1) (l := []) (by kernel_rfl) (RAnys.cons rfl ?_ RAnys.nil)
         refine ROps.d (r := i64 r12) (fs := []) (Γ' := [⟨1, some zMx⟩, ⟨0, none⟩, ⟨0, none⟩]) rfl rfl rfl (TOp.callB (CallAs.func ent71 rfl rfl) (Bors.cons (Bor.sl (fun _ => rfl)) Bors.nil) rfl rfl (i_length_float32_ok a0 r12 hf14)) rfl ?_
         refine zN ?_
         refine RAny.more (i0 := 3) (l := []) (by kernel_rfl) (RAnys.cons rfl ?_ RAnys.nil)
         refine ROps.d (r := i64 r13) (fs := []) (Γ' := [⟨1, some zMx⟩, ⟨0, none⟩, ⟨0, none⟩]) rfl rfl rfl (TOp.callB (CallAs.func ent71 rfl rfl) (Bors.cons (Bor.sl (fun _ => rfl)) Bors.nil) rfl rfl (i_length_float32_ok a1 r13 hf15)) rfl ?_
         refine zN ?_
         refine RAny.more (i0 := 5) (l := []) (by kernel_rfl) (RAnys.cons rfl ?_ RAnys.nil)
         refine ROps.d (r := agg (oXc r14 r15 1 1 r16.length)) (fs := [(1, (r16.map f32))]) (Γ' := [⟨1, some zMx⟩, ⟨1, some (r16.map f32)⟩, ⟨0, none⟩]) rfl rfl rfl (TOp.callBN (ls := [(r16.map f32)]) [1] (CallAs.func ent60 rfl rfl) (Bors.cons (Bor.pure rfl) (Bors.cons (Bor.pure rfl) (Bors.cons (Bor.fn Bors.nil (Bors.cons (Bor.ptr (Bors.cons (Bor.sl (fun _ => rfl)) Bors.nil)) (Bors.cons (Bor.ptr (Bors.cons (Bor.sl (fun _ => rfl)) Bors.nil)) Bors.nil))) Bors.nil))) rfl (i_made_2Fi_OuterMatrix_1_ok r12 r13 a0 a1 r14 r15 r16 hf16) (and_all (lts0_map (f := f32) (fun _ => rfl) _) rfl) (and_all (noss_map (f := f32) (fun _ => rfl) _) rfl) rfl (by decide) (ns_of ⟨⟨_, rfl⟩, trivial⟩)) rfl ?_
         refine zN ?_
         refine RAny.more (i0 := 6) (l := []) (by kernel_rfl) (RAnys.cons rfl ?_ RAnys.nil)
         refine ROps.callO (A := [agg (oXc r14 r15 1 1 r16.length)]) (args := [agg (oXc r14 r15 0 0 r16.length)]) (Γc := [⟨0, some (r16.map f32)⟩]) (Γc' := [⟨0, some (r20.map f32)⟩]) (r' := tup [agg (oXc r17 r18 1 1 r16.length), b r19]) (Γ' := [⟨1, some zMx⟩, ⟨1, some (r20.map f32)⟩, ⟨0, none⟩]) [(1, 1)] [] rfl (CallAs.func ent58 rfl rfl) rfl rfl (SelOk.of (show List.Nodup [1] from by decide) (SelL.arr0 (f := f32) (fun _ => rfl) rfl trivial)) (live_of ⟨⟨_, _, rfl⟩, trivial⟩) (by simp [ren, rens, sigma, rens_f32, rens_f64, rens_i64, rens_ik, rens_str, rens_cp]) rfl (i_Matrix_valid_02o_ok0 r14 r15 r16 r17 r18 r19 r20 hf17) rfl (news_of trivial) (show List.Nodup [1] from by decide) (by simp [ren, rens, sigma, of_decide_eq_true hn18]) (by simp [backOb, sigma, ren, rens, rens_f32, rens_f64, rens_i64, rens_ik, rens_str, rens_cp]) ?_
         refine zN ?_
         refine RAny.more (i0 := 7) (l := [8]) (by kernel_rfl) (RAnys.cons rfl ?_ (RAnys.cons rfl ?_ RAnys.nil))
         ·refine zl (r := agg (oXc r17 r18 1 1 r16.length)) (LOp.extract rfl rfl rfl) ?_
          refine zN ?_
          refine RAny.more (i0 := 8) (l := []) (by kernel_rfl) (RAnys.cons rfl ?_ RAnys.nil)
          refine zl (r := b r19) (LOp.extract rfl rfl rfl) ?_
          refine zN ?_
          refine RAny.more (i0 := 9) (l := []) (by kernel_rfl) (RAnys.cons rfl ?_ RAnys.nil)
          refine ROps.store_le (r := agg (oXc r17 r18 1 1 r16.length)) (l' := (oXc r17 r18 1 1 r16.length)) (Γ' := [⟨1, some (oXc r17 r18 1 1 r16.length)⟩, ⟨1, some (r20.map f32)⟩, ⟨0, none⟩]) rfl siz26 rfl rfl rfl aR rfl rfl rfl rfl (Nat.le_of_ble_eq_true rfl) rfl rfl ?_
          refine zN ?_
          refine RAny.more (i0 := 10) (l := []) (by kernel_rfl) (RAnys.cons rfl ?_ RAnys.nil)
          refine za (r := b r19) ?_
          refine zN ?_
          refine RAny.done (by kernel_rfl) ?_
          exact ⟨⟨aR, aR, aR, aR, aR, aR, aR, aR, aR, aR, aR, aR, aR, aR, trivial⟩, ⟨⟨rfl, .inr rfl⟩, ⟨rfl, .inr rfl⟩, ⟨rfl, .inr rfl⟩, trivial⟩⟩
         ·refine zl (r := b r19) (LOp.extract rfl rfl rfl) ?_
          refine zN ?_
          refine RAny.more (i0 := 7) (l := []) (by kernel_rfl) (RAnys.cons rfl ?_ RAnys.nil)
          refine zl (r := agg (oXc r17 r18 1 1 r16.length)) (LOp.extract rfl rfl rfl) ?_
          refine zN ?_
          refine RAny.more (i0 := 9) (l := []) (by kernel_rfl) (RAnys.cons rfl ?_ RAnys.nil)
          refine ROps.store_le (r := agg (oXc r17 r18 1 1 r16.length)) (l' := (oXc r17 r18 1 1 r16.length)) (Γ' := [⟨1, some (oXc r17 r18 1 1 r16.length)⟩, ⟨1, some (r20.map f32)⟩, ⟨0, none⟩]) rfl siz26 rfl rfl rfl aR rfl rfl rfl rfl (Nat.le_of_ble_eq_true rfl) rfl rfl ?_
          refine zN ?_
          refine RAny.more (i0 := 10) (l := []) (by kernel_rfl) (RAnys.cons rfl ?_ RAnys.nil)
          refine za (r := b r19) ?_
          refine zN ?_
          refine RAny.done (by kernel_rfl) ?_
          exact ⟨⟨aR, aR, aR, aR, aR, aR, aR, aR, aR, aR, aR, aR, aR, aR, trivial⟩, ⟨⟨rfl, .inr rfl⟩, ⟨rfl, .inr rfl⟩, ⟨rfl, .inr rfl⟩, trivial⟩⟩
       ·refine zl (r := fn (.func 120) [] [ptr [(sFc a0)], ptr [(sFc a1)]]) (LOp.makeFunc rfl rfl) ?_
        refine zN ?_
        refine RAny.more (i0 := 0) (l := [2]) (by kernel_rfl) (RAnys.cons rfl ?_ (RAnys.cons rfl ?_ RAnys.nil))
        ·refine zl (r := (sFc a0)) (LOp.load1 agg24 rfl rfl) ?_
         refine zN ?_
         refine RAny.more (i0 := 1) (l := [2]) (by kernel_rfl) (RAnys.cons rfl ?_ (RAnys.cons rfl ?_ RAnys.nil))
         ·refine ROps.d (r := i64 r12) (fs := []) (Γ' := [⟨1, some zMx⟩, ⟨0, none⟩, ⟨0, none⟩]) rfl rfl rfl (TOp.callB (CallAs.func ent71 rfl rfl) (Bors.cons (Bor.sl (fun _ => rfl)) Bors.nil) rfl rfl (i_length_float32_ok a0 r12 hf14)) rfl ?_
          refine zN ?_
          refine RAny.more (i0 := 2) (l := []) (by kernel_rfl) (RAnys.cons rfl ?_ RAnys.nil)
          refine zl (r := (sFc a1)) (LOp.load1 agg24 rfl rfl) ?_
          refine zN ?_
          refine RAny.more (i0 := 3) (l := []) (by kernel_rfl) (RAnys.cons rfl ?_ RAnys.nil)
          refine ROps.d (r := i64 r13) (fs := []) (Γ' := [⟨1, some zMx⟩, ⟨0, none⟩, ⟨0, none⟩]) rfl rfl rfl (TOp.callB (CallAs.func ent71 rfl rfl) (Bors.cons (Bor.sl (fun _ => rfl)) Bors.nil) rfl rfl (i_length_float32_ok a1 r13 hf15)) rfl ?_
          refine zN ?_
          refine RAny.more (i0 := 5) (l := []) (by kernel_rfl) (RAnys.cons rfl ?_ RAnys.nil)
          refine ROps.d (r := agg (oXc r14 r15 1 1 r16.length)) (fs := [(1, (r16.map f32))]) (Γ' := [⟨1, some zMx⟩, ⟨1, some (r16.map f32)⟩, ⟨0, none⟩]) rfl rfl rfl (TOp.callBN (ls := [(r16.map f32)]) [1] (CallAs.func ent60 rfl rfl) (Bors.cons (Bor.pure rfl) (Bors.cons (Bor.pure rfl) (Bors.cons (Bor.fn Bors.nil (Bors.cons (Bor.ptr (Bors.cons (Bor.sl (fun _ => rfl)) Bors.nil)) (Bors.cons (Bor.ptr (Bors.cons (Bor.sl (fun _ => rfl)) Bors.nil)) Bors.nil))) Bors.nil))) rfl (i_made_2Fi_OuterMatrix_1_ok r12 r13 a0 a1 r14 r15 r16 hf16) (and_all (lts0_map (f := f32) (fun _ => rfl) _) rfl) (and_all (noss_map (f := f32) (fun _ => rfl) _) rfl) rfl (by decide) (ns_of ⟨⟨_, rfl⟩, trivial⟩)) rfl ?_
          refine zN ?_
          refine RAny.more (i0 := 6) (l := []) (by kernel_rfl) (RAnys.cons rfl ?_ RAnys.nil)
          refine ROps.callO (A := [agg (oXc r14 r15 1 1 r16.length)]) (args := [agg (oXc r14 r15 0 0 r16.length)]) (Γc := [⟨0, some (r16.map f32)⟩]) (Γc' := [⟨0, some (r20.map f32)⟩]) (r' := tup [agg (oXc r17 r18 1 1 r16.length), b r19]) (Γ' := [⟨1, some zMx⟩, ⟨1, some (r20.map f32)⟩, ⟨0, none⟩]) [(1, 1)] [] rfl (CallAs.func ent58 rfl rfl) rfl rfl (SelOk.of (show List.Nodup [1] from by decide) (SelL.arr0 (f := f32) (fun _ => rfl) rfl trivial)) (live_of ⟨⟨_, _, rfl⟩, trivial⟩) (by simp [ren, rens, sigma, rens_f32, rens_f64, rens_i64, rens_ik, rens_str, rens_cp]) rfl (i_Matrix_valid_02o_ok0 r14 r15 r16 r17 r18 r19 r20 hf17) rfl (news_of trivial) (show List.Nodup [1] from by decide) (by simp [ren, rens, sigma, of_decide_eq_true hn18]) (by simp [backOb, sigma, ren, rens, rens_f32, rens_f64, rens_i64, rens_ik, rens_str, rens_cp]) ?_
          refine zN ?_
          refine RAny.more (i0 := 7) (l := [8]) (by kernel_rfl) (RAnys.cons rfl ?_ (RAnys.cons rfl ?_ RAnys.nil))
          ·refine zl (r := agg (oXc r17 r18 1 1 r16.length)) (LOp.extract rfl rfl rfl) ?_
           refine zN ?_
           refine RAny.more (i0 := 8) (l := []) (by kernel_rfl) (RAnys.cons rfl ?_ RAnys.nil)
           refine zl (r := b r19) (LOp.extract rfl rfl rfl) ?_
           refine zN ?_
           refine RAny.more (i0 := 9) (l := []) (by kernel_rfl) (RAnys.cons rfl ?_ RAnys.nil)
           refine ROps.store_le (r := agg (oXc r17 r18 1 1 r16.length)) (l' := (oXc r17 r18 1 1 r16.length)) (Γ' := [⟨1, some (oXc r17 r18 1 1 r16.length)⟩, ⟨1, some (r20.map f32)⟩, ⟨0, none⟩]) rfl siz26 rfl rfl rfl aR rfl rfl rfl rfl (Nat.le_of_ble_eq_true rfl) rfl rfl ?_
           refine zN ?_
           refine RAny.more (i0 := 10) (l := []) (by kernel_rfl) (RAnys.cons rfl ?_ RAnys.nil)
           refine za (r := b r19) ?_
           refine zN ?_
           refine RAny.done (by kernel_rfl) ?_
           exact ⟨⟨aR, aR, aR, aR, aR, aR, aR, aR, aR, aR, aR, aR, aR, aR, trivial⟩, ⟨⟨rfl, .inr rfl⟩, ⟨rfl, .inr rfl⟩, ⟨rfl, .inr rfl⟩, trivial⟩⟩
          ·refine zl (r := b r19) (LOp.extract rfl rfl rfl) ?_
           refine zN ?_
           refine RAny.more (i0 := 7) (l := []) (by kernel_rfl) (RAnys.cons rfl ?_ RAnys.nil)
           refine zl (r := agg (oXc r17 r18 1 1 r16.length)) (LOp.extract rfl rfl rfl) ?_
           refine zN ?_
           refine RAny.more (i0 := 9) (l := []) (by kernel_rfl) (RAnys.cons rfl ?_ RAnys.nil)
           refine ROps.store_le (r := agg (oXc r17 r18 1 1 r16.length)) (l' := (oXc r17 r18 1 1 r16.length)) (Γ' := [⟨1, some (oXc r17 r18 1 1 r16.length)⟩, ⟨1, some (r20.map f32)⟩, ⟨0, none⟩]) rfl siz26 rfl rfl rfl aR rfl rfl rfl rfl (Nat.le_of_ble_eq_true rfl) rfl rfl ?_
           refine zN ?_
           refine RAny.more (i0 := 10) (l := []) (by kernel_rfl) (RAnys.cons rfl ?_ RAnys.nil)
           refine za (r := b r19) ?_
           refine zN ?_
           refine RAny.done (by kernel_rfl) ?_
           exact ⟨⟨aR, aR, aR, aR, aR, aR, aR, aR, aR, aR, aR, aR, aR, aR, trivial⟩, ⟨⟨rfl, .inr rfl⟩, ⟨rfl, .inr rfl⟩, ⟨rfl, .inr rfl⟩, trivial⟩⟩
         ·refine zl (r := (sFc a1)) (LOp.load1 agg24 rfl rfl) ?_
          refine zN ?_
          refine RAny.more (i0 := 1) (l := []) (by kernel_rfl) (RAnys.cons rfl ?_ RAnys.nil)
          refine ROps.d (r := i64 r12) (fs := []) (Γ' := [⟨1, some zMx⟩, ⟨0, none⟩, ⟨0, none⟩]) rfl rfl rfl (TOp.callB (CallAs.func ent71 rfl rfl) (Bors.cons (Bor.sl (fun _ => rfl)) Bors.nil) rfl rfl (i_length_float32_ok a0 r12 hf14)) rfl ?_
          refine zN ?_
          refine RAny.more (i0 := 3) (l := []) (by kernel_rfl) (RAnys.cons rfl ?_ RAnys.nil)
          refine ROps.d (r := i64 r13) (fs := []) (Γ' := [⟨1, some zMx⟩, ⟨0, none⟩, ⟨0, none⟩]) rfl rfl rfl (TOp.callB (CallAs.func ent71 rfl rfl) (Bors.cons (Bor.sl (fun _ => rfl)) Bors.nil) rfl rfl (i_length_float32_ok a1 r13 hf15)) rfl ?_
          refine zN ?_
          refine RAny.more (i0 := 5) (l := []) (by kernel_rfl) (RAnys.cons rfl ?_ RAnys.nil)
          refine ROps.d (r := agg (oXc r14 r15 1 1 r16.length)) (fs := [(1, (r16.map f32))]) (Γ' := [⟨1, some zMx⟩, ⟨1, some (r16.map f32)⟩, ⟨0, none⟩]) rfl rfl rfl (TOp.callBN (ls := [(r16.map f32)]) [1] (CallAs.func ent60 rfl rfl) (Bors.cons (Bor.pure rfl) (Bors.cons (Bor.pure rfl) (Bors.cons (Bor.fn Bors.nil (Bors.cons (Bor.ptr (Bors.cons (Bor.sl (fun _ => rfl)) Bors.nil)) (Bors.cons (Bor.ptr (Bors.cons (Bor.sl (fun _ => rfl)) Bors.nil)) Bors.nil))) Bors.nil))) rfl (i_made_2Fi_OuterMatrix_1_ok r12 r13 a0 a1 r14 r15 r16 hf16) (and_all (lts0_map (f := f32) (fun _ => rfl) _) rfl) (and_all (noss_map (f := f32) (fun _ => rfl) _) rfl) rfl (by decide) (ns_of ⟨⟨_, rfl⟩, trivial⟩)) rfl ?_
          refine zN ?_
          refine RAny.more (i0 := 6) (l := []) (by kernel_rfl) (RAnys.cons rfl ?_ RAnys.nil)
          refine ROps.callO (A := [agg (oXc r14 r15 1 1 r16.length)]) (args := [agg (oXc r14 r15 0 0 r16.length)]) (Γc := [⟨0, some (r16.map f32)⟩]) (Γc' := [⟨0, some (r20.map f32)⟩]) (r' := tup [agg (oXc r17 r18 1 1 r16.length), b r19]) (Γ' := [⟨1, some zMx⟩, ⟨1, some (r20.map f32)⟩, ⟨0, none⟩]) [(1, 1)] [] rfl (CallAs.func ent58 rfl rfl) rfl rfl (SelOk.of (show List.Nodup [1] from by decide) (SelL.arr0 (f := f32) (fun _ => rfl) rfl trivial)) (live_of ⟨⟨_, _, rfl⟩, trivial⟩) (by simp [ren, rens, sigma, rens_f32, rens_f64, rens_i64, rens_ik, rens_str, rens_cp]) rfl (i_Matrix_valid_02o_ok0 r14 r15 r16 r17 r18 r19 r20 hf17) rfl (news_of trivial) (show List.Nodup [1] from by decide) (by simp [ren, rens, sigma, of_decide_eq_true hn18]) (by simp [backOb, sigma, ren, rens, rens_f32, rens_f64, rens_i64, rens_ik, rens_str, rens_cp]) ?_
          refine zN ?_
          refine RAny.more (i0 := 7) (l := [8]) (by kernel_rfl) (RAnys.cons rfl ?_ (RAnys.cons rfl ?_ RAnys.nil))
          ·refine zl (r := agg (oXc r17 r18 1 1 r16.length)) (LOp.extract rfl rfl rfl) ?_
           refine zN ?_
           refine RAny.more (i0 := 8) (l := []) (by kernel_rfl) (RAnys.cons rfl ?_ RAnys.nil)
           refine zl (r := b r19) (LOp.extract rfl rfl rfl) ?_
           refine zN ?_
           refine RAny.more (i0 := 9) (l := []) (by kernel_rfl) (RAnys.cons rfl ?_ RAnys.nil)
           refine ROps.store_le (r := agg (oXc r17 r18 1 1 r16.length)) (l' := (oXc r17 r18 1 1 r16.length)) (Γ' := [⟨1, some (oXc r17 r18 1 1 r16.length)⟩, ⟨1, some (r20.map f32)⟩, ⟨0, none⟩]) rfl siz26 rfl rfl rfl aR rfl rfl rfl rfl (Nat.le_of_ble_eq_true rfl) rfl rfl ?_
           refine zN ?_
           refine RAny.more (i0 := 10) (l := []) (by kernel_rfl) (RAnys.cons rfl ?_ RAnys.nil)
           refine za (r := b r19) ?_
           refine zN ?_
           refine RAny.done (by kernel_rfl) ?_
           exact ⟨⟨aR, aR, aR, aR, aR, aR, aR, aR, aR, aR, aR, aR, aR, aR, trivial⟩, ⟨⟨rfl, .inr rfl⟩, ⟨rfl, .inr rfl⟩, ⟨rfl, .inr rfl⟩, trivial⟩⟩
          ·refine zl (r := b r19) (LOp.extract rfl rfl rfl) ?_
           refine zN ?_
           refine RAny.more (i0 := 7) (l := []) (by kernel_rfl) (RAnys.cons rfl ?_ RAnys.nil)
           refine zl (r := agg (oXc r17 r18 1 1 r16.length)) (LOp.extract rfl rfl rfl) ?_
           refine zN ?_
           refine RAny.more (i0 := 9) (l := []) (by kernel_rfl) (RAnys.cons rfl ?_ RAnys.nil)
           refine ROps.store_le (r := agg (oXc r17 r18 1 1 r16.length)) (l' := (oXc r17 r18 1 1 r16.length)) (Γ' := [⟨1, some (oXc r17 r18 1 1 r16.length)⟩, ⟨1, some (r20.map f32)⟩, ⟨0, none⟩]) rfl siz26 rfl rfl rfl aR rfl rfl rfl rfl (Nat.le_of_ble_eq_true rfl) rfl rfl ?_
           refine zN ?_
           refine RAny.more (i0 := 10) (l := []) (by kernel_rfl) (RAnys.cons rfl ?_ RAnys.nil)
           refine za (r := b r19) ?_
           refine zN ?_
           refine RAny.done (by kernel_rfl) ?_
           exact ⟨⟨aR, aR, aR, aR, aR, aR, aR, aR, aR, aR, aR, aR, aR, aR, trivial⟩, ⟨⟨rfl, .inr rfl⟩, ⟨rfl, .inr rfl⟩, ⟨rfl, .inr rfl⟩, trivial⟩⟩
        ·refine zl (r := (sFc a1)) (LOp.load1 agg24 rfl rfl) ?_
         refine zN ?_
         refine RAny.more (i0 := 0) (l := []) (by kernel_rfl) (RAnys.cons rfl ?_ RAnys.nil)
         refine zl (r := (sFc a0)) (LOp.load1 agg24 rfl rfl) ?_
         refine zN ?_
         refine RAny.more (i0 := 1) (l := []) (by kernel_rfl) (RAnys.cons rfl ?_ RAnys.nil)
         refine ROps.d (r := i64 r12) (fs := []) (Γ' := [⟨1, some zMx⟩, ⟨0, none⟩, ⟨0, none⟩]) rfl rfl rfl (TOp.callB (CallAs.func ent71 rfl rfl) (Bors.cons (Bor.sl (fun _ => rfl)) Bors.nil) rfl rfl (i_length_float32_ok a0 r12 hf14)) rfl ?_
         refine zN ?_
         refine RAny.more (i0 := 3) (l := []) (by kernel_rfl) (RAnys.cons rfl ?_ RAnys.nil)
         refine ROps.d (r := i64 r13) (fs := []) (Γ' := [⟨1, some zMx⟩, ⟨0, none⟩, ⟨0, none⟩]) rfl rfl rfl (TOp.callB (CallAs.func ent71 rfl rfl) (Bors.cons (Bor.sl (fun _ => rfl)) Bors.nil) rfl rfl (i_length_float32_ok a1 r13 hf15)) rfl ?_
         refine zN ?_
         refine RAny.more (i0 := 5) (l := []) (by kernel_rfl) (RAnys.cons rfl ?_ RAnys.nil)
         refine ROps.d (r := agg (oXc r14 r15 1 1 r16.length)) (fs := [(1, (r16.map f32))]) (Γ' := [⟨1, some zMx⟩, ⟨1, some (r16.map f32)⟩, ⟨0, none⟩]) rfl rfl rfl (TOp.callBN (ls := [(r16.map f32)]) [1] (CallAs.func ent60 rfl rfl) (Bors.cons (Bor.pure rfl) (Bors.cons (Bor.pure rfl) (Bors.cons (Bor.fn Bors.nil (Bors.cons (Bor.ptr (Bors.cons (Bor.sl (fun _ => rfl)) Bors.nil)) (Bors.cons (Bor.ptr (Bors.cons (Bor.sl (fun _ => rfl)) Bors.nil)) Bors.nil))) Bors.nil))) rfl (i_made_2Fi_OuterMatrix_1_ok r12 r13 a0 a1 r14 r15 r16 hf16) (and_all (lts0_map (f := f32) (fun _ => rfl) _) rfl) (and_all (noss_map (f := f32) (fun _ => rfl) _) rfl) rfl (by decide) (ns_of ⟨⟨_, rfl⟩, trivial⟩)) rfl ?_
         refine zN ?_
         refine RAny.more (i0 := 6) (l := []) (by kernel_rfl) (RAnys.cons rfl ?_ RAnys.nil)
         refine ROps.callO (A := [agg (oXc r14 r15 1 1 r16.length)]) (args := [agg (oXc r14 r15 0 0 r16.length)]) (Γc := [⟨0, some (r16.map f32)⟩]) (Γc' := [⟨0, some (r20.map f32)⟩]) (r' := tup [agg (oXc r17 r18 1 1 r16.length), b r19]) (Γ' := [⟨1, some zMx⟩, ⟨1, some (r20.map f32)⟩, ⟨0, none⟩]) [(1, 1)] [] rfl (CallAs.func ent58 rfl rfl) rfl rfl (SelOk.of (show List.Nodup [1] from by decide) (SelL.arr0 (f := f32) (fun _ => rfl) rfl trivial)) (live_of ⟨⟨_, _, rfl⟩, trivial⟩) (by simp [ren, rens, sigma, rens_f32, rens_f64, rens_i64, rens_ik, rens_str, rens_cp]) rfl (i_Matrix_valid_02o_ok0 r14 r15 r16 r17 r18 r19 r20 hf17) rfl (news_of trivial) (show List.Nodup [1] from by decide) (by simp [ren, rens, sigma, of_decide_eq_true hn18]) (by simp [backOb, sigma, ren, rens, rens_f32, rens_f64, rens_i64, rens_ik, rens_str, rens_cp]) ?_
         refine zN ?_
         refine RAny.more (i0 := 7) (l := [8]) (by kernel_rfl) (RAnys.cons rfl ?_ (RAnys.cons rfl ?_ RAnys.nil))
         ·refine zl (r := agg (oXc r17 r18 1 1 r16.length)) (LOp.extract rfl rfl rfl) ?_
          refine zN ?_
          refine RAny.more (i0 := 8) (l := []) (by kernel_rfl) (RAnys.cons rfl ?_ RAnys.nil)
          refine zl (r := b r19) (LOp.extract rfl rfl rfl) ?_
          refine zN ?_
          refine RAny.more (i0 := 9) (l := []) (by kernel_rfl) (RAnys.cons rfl ?_ RAnys.nil)
          refine ROps.store_le (r := agg (oXc r17 r18 1 1 r16.length)) (l' := (oXc r17 r18 1 1 r16.length)) (Γ' := [⟨1, some (oXc r17 r18 1 1 r16.length)⟩, ⟨1, some (r20.map f32)⟩, ⟨0, none⟩]) rfl siz26 rfl rfl rfl aR rfl rfl rfl rfl (Nat.le_of_ble_eq_true rfl) rfl rfl ?_
          refine zN ?_
          refine RAny.more (i0 := 10) (l := []) (by kernel_rfl) (RAnys.cons rfl ?_ RAnys.nil)
          refine za (r := b r19) ?_
          refine zN ?_
          refine RAny.done (by kernel_rfl) ?_
          exact ⟨⟨aR, aR, aR, aR, aR, aR, aR, aR, aR, aR, aR, aR, aR, aR, trivial⟩, ⟨⟨rfl, .inr rfl⟩, ⟨rfl, .inr rfl⟩, ⟨rfl, .inr rfl⟩, trivial⟩⟩
         ·refine zl (r := b r19) (LOp.extract rfl rfl rfl) ?_
          refine zN ?_
          refine RAny.more (i0 := 7) (l := []) (by kernel_rfl) (RAnys.cons rfl ?_ RAnys.nil)
          refine zl (r := agg (oXc r17 r18 1 1 r16.length)) (LOp.extract rfl rfl rfl) ?_
          refine zN ?_
          refine RAny.more (i0 := 9) (l := []) (by kernel_rfl) (RAnys.cons rfl ?_ RAnys.nil)
          refine ROps.store_le (r := agg (oXc r17 r18 1 1 r16.length)) (l' := (oXc r17 r18 1 1 r16.length)) (Γ' := [⟨1, some (oXc r17 r18 1 1 r16.length)⟩, ⟨1, some (r20.map f32)⟩, ⟨0, none⟩]) rfl siz26 rfl rfl rfl aR rfl rfl rfl rfl (Nat.le_of_ble_eq_true rfl) rfl rfl ?_
          refine zN ?_
          refine RAny.more (i0 := 10) (l := []) (by kernel_rfl) (RAnys.cons rfl ?_ RAnys.nil)
          refine za (r := b r19) ?_
          refine zN ?_
          refine RAny.done (by kernel_rfl) ?_
          exact ⟨⟨aR, aR, aR, aR, aR, aR, aR, aR, aR, aR, aR, aR, aR, aR, trivial⟩, ⟨⟨rfl, .inr rfl⟩, ⟨rfl, .inr rfl⟩, ⟨rfl, .inr rfl⟩, trivial⟩⟩
      ·rintro τ3 Γ3 ⟨hw3, hd3⟩
       refine RunC.wl hw3 hd3 ?_
       refine RunC.ret ?_
       have hq := Option.some.inj h
       obtain ⟨hq0, hq⟩ := Prod.mk.inj hq
       obtain ⟨hq1, hq⟩ := Prod.mk.inj hq
       obtain ⟨hq2, hq⟩ := Prod.mk.inj hq
       subst q0
       subst q1
       subst q2
       subst q3
       exact bodyQ.mk (r' := tup [agg (oXc r17 r18 1 1 r20.length), b r19]) [(1, 1)] (.inr rfl) rfl (show List.Nodup [1] from by decide) rfl rfl (Res.eq (Res.two rfl (RV.cell agg26 siz26 rfl rfl rfl rfl) (RV.tmp rfl)) (by rw [(show r20.length = r16.length from (of_decide_eq_true hn18))] <;> rfl)) (SelL.arr0 (f := f32) (fun _ => rfl) rfl trivial)
     ·replace h := (osum_inr _ _ _).symm.trans h
      obtain ⟨r21, r22, r23, r24, r25, hz4, h⟩ := obind5_some h
      cases hz4
      obtain ⟨hn19, h⟩ := need_some h
      refine RunC.cutN (fun τ Γ => WeakLe τ [(2, ptr [(sFc a0)]), (3, ptr [(sFc a1)]), (4, optr 0 1 0), (5, b r23), (25, b false), (27, (sFc a0)), (28, i64 r12), (29, (sFc a1)), (30, i64 r13), (31, fn (.func 120) [] [ptr [(sFc a0)], ptr [(sFc a1)]]), (32, agg (oXc r14 r15 1 1 r16.length)), (33, tup [agg (oXc r21 r22 2 1 r25.length), b r23]), (34, agg (oXc r21 r22 2 1 r25.length)), (35, b r23)] ∧ DeadLe Γ [⟨1, some (oXc r21 r22 2 1 r25.length)⟩, ⟨1, some (r24.map f32)⟩, ⟨1, some (r25.map f32)⟩]) ?_ ?_
      ·refine RunC.any (n := 11) rfl mixed ?_
       refine RAny.more (i0 := 0) (l := [2, 4]) (by kernel_rfl) (RAnys.cons rfl ?_ (RAnys.cons rfl ?_ (RAnys.cons rfl ?_ RAnys.nil)))
       ·refine zl (r := (sFc a0)) (LOp.load1 agg24 rfl rfl) ?_
        refine zN ?_
        refine RAny.more (i0 := 1) (l := [2, 4]) (by kernel_rfl) (RAnys.cons rfl ?_ (RAnys.cons rfl ?_ (RAnys.cons rfl ?_ RAnys.nil)))
        ·refine ROps.d (r := i64 r12) (fs := []) (Γ' := [⟨1, some zMx⟩, ⟨0, none⟩, ⟨0, none⟩]) rfl rfl rfl (TOp.callB (CallAs.func ent71 rfl rfl) (Bors.cons (Bor.sl (fun _ => rfl)) Bors.nil) rfl rfl (i_length_float32_ok a0 r12 hf14)) rfl ?_
         refine zN ?_
         refine RAny.more (i0 := 2) (l := [4]) (by kernel_rfl) (RAnys.cons rfl ?_ (RAnys.cons rfl ?_ RAnys.nil))
         ·refine zl (r := (sFc a1)) (LOp.load1 agg24 rfl rfl) ?_
          refine zN ?_
          refine RAny.more (i0 := 3) (l := [4]) (by kernel_rfl) (RAnys.cons rfl ?_ (RAnys.cons rfl ?_ RAnys.nil))
          ·refine ROps.d (r := i64 r13) (fs := []) (Γ' := [⟨1, some zMx⟩, ⟨0, none⟩, ⟨0, none⟩]) rfl rfl rfl (TOp.callB (CallAs.func ent71 rfl rfl) (Bors.cons (Bor.sl (fun _ => rfl)) Bors.nil) rfl rfl (i_length_float32_ok a1 r13 hf15)) rfl ?_
           refine zN ?_
           refine RAny.more (i0 := 4) (l := []) (by kernel_rfl) (RAnys.cons rfl ?_ RAnys.nil)
           refine zl (r := fn (.func 120) [] [ptr [(sFc a0)], ptr [(sFc a1)]]) (LOp.makeFunc rfl rfl) ?_
           refine zN ?_
           refine RAny.more (i0 := 5) (l := []) (by kernel_rfl) (RAnys.cons rfl ?_ RAnys.nil)
           refine ROps.d (r := agg (oXc r14 r15 1 1 r16.length)) (fs := [(1, (r16.map f32))]) (Γ' := [⟨1, some zMx⟩, ⟨1, some (r16.map f32)⟩, ⟨0, none⟩]) rfl rfl rfl (TOp.callBN (ls := [(r16.map f32)]) [1] (CallAs.func ent60 rfl rfl) (Bors.cons (Bor.pure rfl) (Bors.cons (Bor.pure rfl) (Bors.cons (Bor.fn Bors.nil (Bors.cons (Bor.ptr (Bors.cons (Bor.sl (fun _ => rfl)) Bors.nil)) (Bors.cons (Bor.ptr (Bors.cons (Bor.sl (fun _ => rfl)) Bors.nil)) Bors.nil))) Bors.nil))) rfl (i_made_2Fi_OuterMatrix_1_ok r12 r13 a0 a1 r14 r15 r16 hf16) (and_all (lts0_map (f := f32) (fun _ => rfl) _) rfl) (and_all (noss_map (f := f32) (fun _ => rfl) _) rfl) rfl (by decide) (ns_of ⟨⟨_, rfl⟩, trivial⟩)) rfl ?_
           refine zN ?_
           refine RAny.more (i0 := 6) (l := []) (by kernel_rfl) (RAnys.cons rfl ?_ RAnys.nil)
           refine ROps.callO (A := [agg (oXc r14 r15 1 1 r16.length)]) (args := [agg (oXc r14 r15 0 0 r16.length)]) (Γc := [⟨0, some (r16.map f32)⟩]) (Γc' := [⟨0, some (r24.map f32)⟩, ⟨0, some (r25.map f32)⟩]) (r' := tup [agg (oXc r21 r22 2 1 r25.length), b r23]) (Γ' := [⟨1, some zMx⟩, ⟨1, some (r24.map f32)⟩, ⟨1, some (r25.map f32)⟩]) [(1, 1)] [(2, 1)] rfl (CallAs.func ent58 rfl rfl) rfl rfl (SelOk.of (show List.Nodup [1] from by decide) (SelL.arr0 (f := f32) (fun _ => rfl) rfl trivial)) (live_of ⟨⟨_, _, rfl⟩, trivial⟩) (by simp [ren, rens, sigma, rens_f32, rens_f64, rens_i64, rens_ik, rens_str, rens_cp]) rfl (i_Matrix_valid_02o_ok1 r14 r15 r16 r21 r22 r23 r24 r25 hf17) rfl (news_of ⟨⟨_, rfl, rfl⟩, trivial⟩) (show List.Nodup [1, 2] from by decide) (by simp [ren, rens, sigma, of_decide_eq_true hn19]) (by simp [backOb, sigma, ren, rens, rens_f32, rens_f64, rens_i64, rens_ik, rens_str, rens_cp]) ?_
           refine zN ?_
           refine RAny.more (i0 := 7) (l := [8]) (by kernel_rfl) (RAnys.cons rfl ?_ (RAnys.cons rfl ?_ RAnys.nil))
           ·refine zl (r := agg (oXc r21 r22 2 1 r25.length)) (LOp.extract rfl rfl rfl) ?_
            refine zN ?_
            refine RAny.more (i0 := 8) (l := []) (by kernel_rfl) (RAnys.cons rfl ?_ RAnys.nil)
            refine zl (r := b r23) (LOp.extract rfl rfl rfl) ?_
            refine zN ?_
            refine RAny.more (i0 := 9) (l := []) (by kernel_rfl) (RAnys.cons rfl ?_ RAnys.nil)
            refine ROps.store_le (r := agg (oXc r21 r22 2 1 r25.length)) (l' := (oXc r21 r22 2 1 r25.length)) (Γ' := [⟨1, some (oXc r21 r22 2 1 r25.length)⟩, ⟨1, some (r24.map f32)⟩, ⟨1, some (r25.map f32)⟩]) rfl siz26 rfl rfl rfl aR rfl rfl rfl rfl (Nat.le_of_ble_eq_true rfl) rfl rfl ?_
            refine zN ?_
            refine RAny.more (i0 := 10) (l := []) (by kernel_rfl) (RAnys.cons rfl ?_ RAnys.nil)
            refine za (r := b r23) ?_
            refine zN ?_
            refine RAny.done (by kernel_rfl) ?_
            exact ⟨⟨aR, aR, aR, aR, aR, aR, aR, aR, aR, aR, aR, aR, aR, aR, trivial⟩, ⟨⟨rfl, .inr rfl⟩, ⟨rfl, .inr rfl⟩, ⟨rfl, .inr rfl⟩, trivial⟩⟩
           ·refine zl (r := b r23) (LOp.extract rfl rfl rfl) ?_
            refine zN ?_
            refine RAny.more (i0 := 7) (l := []) (by kernel_rfl) (RAnys.cons rfl ?_ RAnys.nil)
            refine zl (r := agg (oXc r21 r22 2 1 r25.length)) (LOp.extract rfl rfl rfl) ?_
            refine zN ?_
            refine RAny.more (i0 := 9) (l := []) (by kernel_rfl) (RAnys.cons rfl ?_ RAnys.nil)
            refine ROps.store_le (r := agg (oXc r21 r22 2 1 r25.length)) (l' := (oXc r21 r22 2 1 r25.length)) (Γ' := [⟨1, some (oXc r21 r22 2 1 r25.length)⟩, ⟨1, some (r24.map f32)⟩, ⟨1, some (r25.map f32)⟩]) rfl siz26 rfl rfl rfl aR rfl rfl rfl rfl (Nat.le_of_ble_eq_true rfl) rfl rfl ?_
            refine zN ?_
            refine RAny.more (i0 := 10) (l := []) (by kernel_rfl) (RAnys.cons rfl ?_ RAnys.nil)
            refine za (r := b r23) ?_
            refine zN ?_
            refine RAny.done (by kernel_rfl) ?_
            exact ⟨⟨aR, aR, aR, aR, aR, aR, aR, aR, aR, aR, aR, aR, aR, aR, trivial⟩, ⟨⟨rfl, .inr rfl⟩, ⟨rfl, .inr rfl⟩, ⟨rfl, .inr rfl⟩, trivial⟩⟩
          ·refine zl (r := fn (.func 120) [] [ptr [(sFc a0)], ptr [(sFc a1)]]) (LOp.makeFunc rfl rfl) ?_
           refine zN ?_
           refine RAny.more (i0 := 3) (l := []) (by kernel_rfl) (RAnys.cons rfl ?_ RAnys.nil)
           refine ROps.d (r := i64 r13) (fs := []) (Γ' := [⟨1, some zMx⟩, ⟨0, none⟩, ⟨0, none⟩]) rfl rfl rfl (TOp.callB (CallAs.func ent71 rfl rfl) (Bors.cons (Bor.sl (fun _ => rfl)) Bors.nil) rfl rfl (i_length_float32_ok a1 r13 hf15)) rfl ?_
           refine zN ?_
           refine RAny.more (i0 := 5) (l := []) (by kernel_rfl) (RAnys.cons rfl ?_ RAnys.nil)
           refine ROps.d (r := agg (oXc r14 r15 1 1 r16.length)) (fs := [(1, (r16.map f32))]) (Γ' := [⟨1, some zMx⟩, ⟨1, some (r16.map f32)⟩, ⟨0, none⟩]) rfl rfl rfl (TOp.callBN (ls := [(r16.map f32)]) [1] (CallAs.func ent60 rfl rfl) (Bors.cons (Bor.pure rfl) (Bors.cons (Bor.pure rfl) (Bors.cons (Bor.fn Bors.nil (Bors.cons (Bor.ptr (Bors.cons (Bor.sl (fun _ => rfl)) Bors.nil)) (Bors.cons (Bor.ptr (Bors.cons (Bor.sl (fun _ => rfl)) Bors.nil)) Bors.nil))) Bors.nil))) rfl (i_made_2Fi_OuterMatrix_1_ok r12 r13 a0 a1 r14 r15 r16 hf16) (and_all (lts0_map (f := f32) (fun _ => rfl) _) rfl) (and_all (noss_map (f := f32) (fun _ => rfl) _) rfl) rfl (by decide) (ns_of ⟨⟨_, rfl⟩, trivial⟩)) rfl ?_
           refine zN ?_
           refine RAny.more (i0 := 6) (l := []) (by kernel_rfl) (RAnys.cons rfl ?_ RAnys.nil)
           refine ROps.callO (A := [agg (oXc r14 r15 1 1 r16.length)]) (args := [agg (oXc r14 r15 0 0 r16.length)]) (Γc := [⟨0, some (r16.map f32)⟩]) (Γc' := [⟨0, some (r24.map f32)⟩, ⟨0, some (r25.map f32)⟩]) (r' := tup [agg (oXc r21 r22 2 1 r25.length), b r23]) (Γ' := [⟨1, some zMx⟩, ⟨1, some (r24.map f32)⟩, ⟨1, some (r25.map f32)⟩]) [(1, 1)] [(2, 1)] rfl (CallAs.func ent58 rfl rfl) rfl rfl (SelOk.of (show List.Nodup [1] from by decide) (SelL.arr0 (f := f32) (fun _ => rfl) rfl trivial)) (live_of ⟨⟨_, _, rfl⟩, trivial⟩) (by simp [ren, rens, sigma, rens_f32, rens_f64, rens_i64, rens_ik, rens_str, rens_cp]) rfl (i_Matrix_valid_02o_ok1 r14 r15 r16 r21 r22 r23 r24 r25 hf17) rfl (news_of ⟨⟨_, rfl, rfl⟩, trivial⟩) (show List.Nodup [1, 2] from by decide) (by simp [ren, rens, sigma, of_decide_eq_true hn19]) (by simp [backOb, sigma, ren, rens, rens_f32, rens_f64, rens_i64, rens_ik, rens_str, rens_cp]) ?_
           refine zN ?_
           refine RAny.more (i0 := 7) (l := [8]) (by kernel_rfl) (RAnys.cons rfl ?_ (RAnys.cons rfl ?_ RAnys.nil))
           ·refine zl (r := agg (oXc r21 r22 2 1 r25.length)) (LOp.extract rfl rfl rfl) ?_
            refine zN ?_
            refine RAny.more (i0 := 8) (l := []) (by kernel_rfl) (RAnys.cons rfl ?_ RAnys.nil)
            refine zl (r := b r23) (LOp.extract rfl rfl rfl) ?_
            refine zN ?_
            refine RAny.more (i0 := 9) (l := []) (by kernel_rfl) (RAnys.cons rfl ?_ RAnys.nil)
            refine ROps.store_le (r := agg (oXc r21 r22 2 1 r25.length)) (l' := (oXc r21 r22 2 1 r25.length)) (Γ' := [⟨1, some (oXc r21 r22 2 1 r25.length)⟩, ⟨1, some (r24.map f32)⟩, ⟨1, some (r25.map f32)⟩]) rfl siz26 rfl rfl rfl aR rfl rfl rfl rfl (Nat.le_of_ble_eq_true rfl) rfl rfl ?_
            refine zN ?_
            refine RAny.more (i0 := 10) (l := []) (by kernel_rfl) (RAnys.cons rfl ?_ RAnys.nil)
            refine za (r := b r23) ?_
            refine zN ?_
            refine RAny.done (by kernel_rfl) ?_
            exact ⟨⟨aR, aR, aR, aR, aR, aR, aR, aR, aR, aR, aR, aR, aR, aR, trivial⟩, ⟨⟨rfl, .inr rfl⟩, ⟨rfl, .inr rfl⟩, ⟨rfl, .inr rfl⟩, trivial⟩⟩
           ·refine zl (r := b r23) (LOp.extract rfl rfl rfl) ?_
            refine zN ?_
            refine RAny.more (i0 := 7) (l := []) (by kernel_rfl) (RAnys.cons rfl ?_ RAnys.nil)
            refine zl (r := agg (oXc r21 r22 2 1 r25.length)) (LOp.extract rfl rfl rfl) ?_
            refine zN ?_
            refine RAny.more (i0 := 9) (l := []) (by kernel_rfl) (RAnys.cons rfl ?_ RAnys.nil)
            refine ROps.store_le (r := agg (oXc r21 r22 2 1 r25.length)) (l' := (oXc r21 r22 2 1 r25.length)) (Γ' := [⟨1, some (oXc r21 r22 2 1 r25.length)⟩, ⟨1, some (r24.map f32)⟩, ⟨1, some (r25.map f32)⟩]) rfl siz26 rfl rfl rfl aR rfl rfl rfl rfl (Nat.le_of_ble_eq_true rfl) rfl rfl ?_
            refine zN ?_
            refine RAny.more (i0 := 10) (l := []) (by kernel_rfl) (RAnys.cons rfl ?_ RAnys.nil)
            refine za (r := b r23) ?_
            refine zN ?_
            refine RAny.done (by kernel_rfl) ?_
            exact ⟨⟨aR, aR, aR, aR, aR, aR, aR, aR, aR, aR, aR, aR, aR, aR, trivial⟩, ⟨⟨rfl, .inr rfl⟩, ⟨rfl, .inr rfl⟩, ⟨rfl, .inr rfl⟩, trivial⟩⟩
         ·refine zl (r := fn (.func 120) [] [ptr [(sFc a0)], ptr [(sFc a1)]]) (LOp.makeFunc rfl rfl) ?_
          refine zN ?_
          refine RAny.more (i0 := 2) (l := []) (by kernel_rfl) (RAnys.cons rfl ?_ RAnys.nil)
          refine zl (r := (sFc a1)) (LOp.load1 agg24 rfl rfl) ?_
          refine zN ?_
          refine RAny.more (i0 := 3) (l := []) (by kernel_rfl) (RAnys.cons rfl ?_ RAnys.nil)
          refine ROps.d (r := i64 r13) (fs := []) (Γ' := [⟨1, some zMx⟩, ⟨0, none⟩, ⟨0, none⟩]) rfl rfl rfl (TOp.callB (CallAs.func ent71 rfl rfl) (Bors.cons (Bor.sl (fun _ => rfl)) Bors.nil) rfl rfl (i_length_float32_ok a1 r13 hf15)) rfl ?_
          refine zN ?_
          refine RAny.more (i0 := 5) (l := []) (by kernel_rfl) (RAnys.cons rfl ?_ RAnys.nil)
          refine ROps.d (r := agg (oXc r14 r15 1 1 r16.length)) (fs := [(1, (r16.map f32))]) (Γ' := [⟨1, some zMx⟩, ⟨1, some (r16.map f32)⟩, ⟨0, none⟩]) rfl rfl rfl (TOp.callBN (ls := [(r16.map f32)]) [1] (CallAs.func ent60 rfl rfl) (Bors.cons (Bor.pure rfl) (Bors.cons (Bor.pure rfl) (Bors.cons (Bor.fn Bors.nil (Bors.cons (Bor.ptr (Bors.cons (Bor.sl (fun _ => rfl)) Bors.nil)) (Bors.cons (Bor.ptr (Bors.cons (Bor.sl (fun _ => rfl)) Bors.nil)) Bors.nil))) Bors.nil))) rfl (i_made_2Fi_OuterMatrix_1_ok r12 r13 a0 a1 r14 r15 r16 hf16) (and_all (lts0_map (f := f32) (fun _ => rfl) _) rfl) (and_all (noss_map (f := f32) (fun _ => rfl) _) rfl) rfl (by decide) (ns_of ⟨⟨_, rfl⟩, trivial⟩)) rfl ?_
          refine zN ?_
          refine RAny.more (i0 := 6) (l := []) (by kernel_rfl) (RAnys.cons rfl ?_ RAnys.nil)
          refine ROps.callO (A := [agg (oXc r14 r15 1 1 r16.length)]) (args := [agg (oXc r14 r15 0 0 r16.length)]) (Γc := [⟨0, some (r16.map f32)⟩]) (Γc' := [⟨0, some (r24.map f32)⟩, ⟨0, some (r25.map f32)⟩]) (r' := tup [agg (oXc r21 r22 2 1 r25.length), b r23]) (Γ' := [⟨1, some zMx⟩, ⟨1, some (r24.map f32)⟩, ⟨1, some (r25.map f32)⟩]) [(1, 1)] [(2, 1)] rfl (CallAs.func ent58 rfl rfl) rfl rfl (SelOk.of (show List.Nodup [1] from by decide) (SelL.arr0 (f := f32) (fun _ => rfl) rfl trivial)) (live_of ⟨⟨_, _, rfl⟩, trivial⟩) (by simp [ren, rens, sigma, rens_f32, rens_f64, rens_i64, rens_ik, rens_str, rens_cp]) rfl (i_Matrix_valid_02o_ok1 r14 r15 r16 r21 r22 r23 r24 r25 hf17) rfl (news_of ⟨⟨_, rfl, rfl⟩, trivial⟩) (show List.Nodup [1, 2] from by decide) (by simp [ren, rens, sigma, of_decide_eq_true hn19]) (by simp [backOb, sigma, ren, rens, rens_f32, rens_f64, rens_i64, rens_ik, rens_str, rens_cp]) ?_
          refine zN ?_
          refine RAny.more (i0 := 7) (l := [8]) (by kernel_rfl) (RAnys.cons rfl ?_ (RAnys.cons rfl ?_ RAnys.nil))
          ·refine zl (r := agg (oXc r21 r22 2 1 r25.length)) (LOp.extract rfl rfl rfl) ?_
           refine zN ?_
           refine RAny.more (i0 := 8) (l := []) (by kernel_rfl) (RAnys.cons rfl ?_ RAnys.nil)
           refine zl (r := b r23) (LOp.extract rfl rfl rfl) ?_
           refine zN ?_
           refine RAny.more (i0 := 9) (l := []) (by kernel_rfl) (RAnys.cons rfl ?_ RAnys.nil)
           refine ROps.store_le (r := agg (oXc r21 r22 2 1 r25.length)) (l' := (oXc r21 r22 2 1 r25.length)) (Γ' := [⟨1, some (oXc r21 r22 2 1 r25.length)⟩, ⟨1, some (r24.map f32)⟩, ⟨1, some (r25.map f32)⟩]) rfl siz26 rfl rfl rfl aR rfl rfl rfl rfl (Nat.le_of_ble_eq_true rfl) rfl rfl ?_
           refine zN ?_
           refine RAny.more (i0 := 10) (l := []) (by kernel_rfl) (RAnys.cons rfl ?_ RAnys.nil)
           refine za (r := b r23) ?_
           refine zN ?_
           refine RAny.done (by kernel_rfl) ?_
           exact ⟨⟨aR, aR, aR, aR, aR, aR, aR, aR, aR, aR, aR, aR, aR, aR, trivial⟩, ⟨⟨rfl, .inr rfl⟩, ⟨rfl, .inr rfl⟩, ⟨rfl, .inr rfl⟩, trivial⟩⟩
          ·refine zl (r := b r23) (LOp.extract rfl rfl rfl) ?_
           refine zN ?_
           refine RAny.more (i0 := 7) (l := []) (by kernel_rfl) (RAnys.cons rfl ?_ RAnys.nil)
           refine zl (r := agg (oXc r21 r22 2 1 r25.length)) (LOp.extract rfl rfl rfl) ?_
           refine zN ?_
           refine RAny.more (i0 := 9) (l := []) (by kernel_rfl) (RAnys.cons rfl ?_ RAnys.nil)
           refine ROps.store_le (r := agg (oXc r21 r22 2 1 r25.length)) (l' := (oXc r21 r22 2 1 r25.length)) (Γ' := [⟨1, some (oXc r21 r22 2 1 r25.length)⟩, ⟨1, some (r24.map f32)⟩, ⟨1, some (r25.map f32)⟩]) rfl siz26 rfl rfl rfl aR rfl rfl rfl rfl (Nat.le_of_ble_eq_true rfl) rfl rfl ?_
           refine zN ?_
           refine RAny.more (i0 := 10) (l := []) (by kernel_rfl) (RAnys.cons rfl ?_ RAnys.nil)
           refine za (r := b r23) ?_
           refine zN ?_
           refine RAny.done (by kernel_rfl) ?_
           exact ⟨⟨aR, aR, aR, aR, aR, aR, aR, aR, aR, aR, aR, aR, aR, aR, trivial⟩, ⟨⟨rfl, .inr rfl⟩, ⟨rfl, .inr rfl⟩, ⟨rfl, .inr rfl⟩, trivial⟩⟩
        ·refine zl (r := (sFc a1)) (LOp.load1 agg24 rfl rfl) ?_
         refine zN ?_
         refine RAny.more (i0 := 1) (l := [4]) (by kernel_rfl) (RAnys.cons rfl ?_ (RAnys.cons rfl ?_ RAnys.nil))
         ·refine ROps.d (r := i64 r12) (fs := []) (Γ' := [⟨1, some zMx⟩, ⟨0, none⟩, ⟨0, none⟩]) rfl rfl rfl (TOp.callB (CallAs.func ent71 rfl rfl) (Bors.cons (Bor.sl (fun _ => rfl)) Bors.nil) rfl rfl (i_length_float32_ok a0 r12 hf14)) rfl ?_
          refine zN ?_
          refine RAny.more (i0 := 3) (l := [4]) (by kernel_rfl) (RAnys.cons rfl ?_ (RAnys.cons rfl ?_ RAnys.nil))
          ·refine ROps.d (r := i64 r13) (fs := []) (Γ' := [⟨1, some zMx⟩, ⟨0, none⟩, ⟨0, none⟩]) rfl rfl rfl (TOp.callB (CallAs.func ent71 rfl rfl) (Bors.cons (Bor.sl (fun _ => rfl)) Bors.nil) rfl rfl (i_length_float32_ok a1 r13 hf15)) rfl ?_
           refine zN ?_
           refine RAny.more (i0 := 4) (l := []) (by kernel_rfl) (RAnys.cons rfl ?_ RAnys.nil)
           refine zl (r := fn (.func 120) [] [ptr [(sFc a0)], ptr [(sFc a1)]]) (LOp.makeFunc rfl rfl) ?_
           refine zN ?_
           refine RAny.more (i0 := 5) (l := []) (by kernel_rfl) (RAnys.cons rfl ?_ RAnys.nil)
           refine ROps.d (r := agg (oXc r14 r15 1 1 r16.length)) (fs := [(1, (r16.map f32))]) (Γ' := [⟨1, some zMx⟩, ⟨1, some (r16.map f32)⟩, ⟨0, none⟩]) rfl rfl rfl (TOp.callBN (ls := [(r16.map f32)]) [1] (CallAs.func ent60 rfl rfl) (Bors.cons (Bor.pure rfl) (Bors.cons (Bor.pure rfl) (Bors.cons (Bor.fn Bors.nil (Bors.cons (Bor.ptr (Bors.cons (Bor.sl (fun _ => rfl)) Bors.nil)) (Bors.cons (Bor.ptr (Bors.cons (Bor.sl (fun _ => rfl)) Bors.nil)) Bors.nil))) Bors.nil))) rfl (i_made_2Fi_OuterMatrix_1_ok r12 r13 a0 a1 r14 r15 r16 hf16) (and_all (lts0_map (f := f32) (fun _ => rfl) _) rfl) (and_all (noss_map (f := f32) (fun _ => rfl) _) rfl) rfl (by decide) (ns_of ⟨⟨_, rfl⟩, trivial⟩)) rfl ?_
           refine zN ?_
           refine RAny.more (i0 := 6) (l := []) (by kernel_rfl) (RAnys.cons rfl ?_ RAnys.nil)
           refine ROps.callO (A := [agg (oXc r14 r15 1 1 r16.length)]) (args := [agg (oXc r14 r15 0 0 r16.length)]) (Γc := [⟨0, some (r16.map f32)⟩]) (Γc' := [⟨0, some (r24.map f32)⟩, ⟨0, some (r25.map f32)⟩]) (r' := tup [agg (oXc r21 r22 2 1 r25.length), b r23]) (Γ' := [⟨1, some zMx⟩, ⟨1, some (r24.map f32)⟩, ⟨1, some (r25.map f32)⟩]) [(1, 1)] [(2, 1)] rfl (CallAs.func ent58 rfl rfl) rfl rfl (SelOk.of (show List.Nodup [1] from by decide) (SelL.arr0 (f := f32) (fun _ => rfl) rfl trivial)) (live_of ⟨⟨_, _, rfl⟩, trivial⟩) (by simp [ren, rens, sigma, rens_f32, rens_f64, rens_i64, rens_ik, rens_str, rens_cp]) rfl (i_Matrix_valid_02o_ok1 r14 r15 r16 r21 r22 r23 r24 r25 hf17) rfl (news_of ⟨⟨_, rfl, rfl⟩, trivial⟩) (show List.Nodup [1, 2] from by decide) (by simp [ren, rens, sigma, of_decide_eq_true hn19]) (by simp [backOb, sigma, ren, rens, rens_f32, rens_f64, rens_i64, rens_ik, rens_str, rens_cp]) ?_
           refine zN ?_
           refine RAny.more (i0 := 7) (l := [8]) (by kernel_rfl) (RAnys.cons rfl ?_ (RAnys.cons rfl ?_ RAnys.nil))
           ·refine zl (r := agg (oXc r21 r22 2 1 r25.length)) (LOp.extract rfl rfl rfl) ?_
            refine zN ?_
            refine RAny.more (i0 := 8) (l := []) (by kernel_rfl) (RAnys.cons rfl ?_ RAnys.nil)
            refine zl (r := b r23) (LOp.extract rfl rfl rfl) ?_
            refine zN ?_
            refine RAny.more (i0 := 9) (l := []) (by kernel_rfl) (RAnys.cons rfl ?_ RAnys.nil)
            refine ROps.store_le (r := agg (oXc r21 r22 2 1 r25.length)) (l' := (oXc r21 r22 2 1 r25.length)) (Γ' := [⟨1, some (oXc r21 r22 2 1 r25.length)⟩, ⟨1, some (r24.map f32)⟩, ⟨1, some (r25.map f32)⟩]) rfl siz26 rfl rfl rfl aR rfl rfl rfl rfl (Nat.le_of_ble_eq_true rfl) rfl rfl ?_
            refine zN ?_
            refine RAny.more (i0 := 10) (l := []) (by kernel_rfl) (RAnys.cons rfl ?_ RAnys.nil)
            refine za (r := b r23) ?_
            refine zN ?_
            refine RAny.done (by kernel_rfl) ?_
            exact ⟨⟨aR, aR, aR, aR, aR, aR, aR, aR, aR, aR, aR, aR, aR, aR, trivial⟩, ⟨⟨rfl, .inr rfl⟩, ⟨rfl, .inr rfl⟩, ⟨rfl, .inr rfl⟩, trivial⟩⟩
           ·refine zl (r := b r23) (LOp.extract rfl rfl rfl) ?_
            refine zN ?_
            refine RAny.more (i0 := 7) (l := []) (by kernel_rfl) (RAnys.cons rfl ?_ RAnys.nil)
            refine zl (r := agg (oXc r21 r22 2 1 r25.length)) (LOp.extract rfl rfl rfl) ?_
            refine zN ?_
            refine RAny.more (i0 := 9) (l := []) (by kernel_rfl) (RAnys.cons rfl ?_ RAnys.nil)
            refine ROps.store_le (r := agg (oXc r21 r22 2 1 r25.length)) (l' := (oXc r21 r22 2 1 r25.length)) (Γ' := [⟨1, some (oXc r21 r22 2 1 r25.length)⟩, ⟨1, some (r24.map f32)⟩, ⟨1, some (r25.map f32)⟩]) rfl siz26 rfl rfl rfl aR rfl rfl rfl rfl (Nat.le_of_ble_eq_true rfl) rfl rfl ?_
            refine zN ?_
            refine RAny.more (i0 := 10) (l := []) (by kernel_rfl) (RAnys.cons rfl ?_ RAnys.nil)
            refine za (r := b r23) ?_
            refine zN ?_
            refine RAny.done (by kernel_rfl) ?_
            exact ⟨⟨aR, aR, aR, aR, aR, aR, aR, aR, aR, aR, aR, aR, aR, aR, trivial⟩, ⟨⟨rfl, .inr rfl⟩, ⟨rfl, .inr rfl⟩, ⟨rfl, .inr rfl⟩, trivial⟩⟩
          ·refine zl (r := fn (.func 120) [] [ptr [(sFc a0)], ptr [(sFc a1)]]) (LOp.makeFunc rfl rfl) ?_
           refine zN ?_
           refine RAny.more (i0 := 3) (l := []) (by kernel_rfl) (RAnys.cons rfl ?_ RAnys.nil)
           refine ROps.d (r := i64 r13) (fs := []) (Γ' := [⟨1, some zMx⟩, ⟨0, none⟩, ⟨0, none⟩]) rfl rfl rfl (TOp.callB (CallAs.func ent71 rfl rfl) (Bors.cons (Bor.sl (fun _ => rfl)) Bors.nil) rfl rfl (i_length_float32_ok a1 r13 hf15)) rfl ?_
           refine zN ?_
           refine RAny.more (i0 := 5) (l := []) (by kernel_rfl) (RAnys.cons rfl ?_ RAnys.nil)
           refine ROps.d (r := agg (oXc r14 r15 1 1 r16.length)) (fs := [(1, (r16.map f32))]) (Γ' := [⟨1, some zMx⟩, ⟨1, some (r16.map f32)⟩, ⟨0, none⟩]) rfl rfl rfl (TOp.callBN (ls := [(r16.map f32)]) [1] (CallAs.func ent60 rfl rfl) (Bors.cons (Bor.pure rfl) (Bors.cons (Bor.pure rfl) (Bors.cons (Bor.fn Bors.nil (Bors.cons (Bor.ptr (Bors.cons (Bor.sl (fun _ => rfl)) Bors.nil)) (Bors.cons (Bor.ptr (Bors.cons (Bor.sl (fun _ => rfl)) Bors.nil)) Bors.nil))) Bors.nil))) rfl (i_made_2Fi_OuterMatrix_1_ok r12 r13 a0 a1 r14 r15 r16 hf16) (and_all (lts0_map (f := f32) (fun _ => rfl) _) rfl) (and_all (noss_map (f := f32) (fun _ => rfl) _) rfl) rfl (by decide) (ns_of ⟨⟨_, rfl⟩, trivial⟩)) rfl ?_
           refine zN ?_
           refine RAny.more (i0 := 6) (l := []) (by kernel_rfl) (RAnys.cons rfl ?_ RAnys.nil)
           refine ROps.callO (A := [agg (oXc r14 r15 1 1 r16.length)]) (args := [agg (oXc r14 r15 0 0 r16.length)]) (Γc := [⟨0, some (r16.map f32)⟩]) (Γc' := [⟨0, some (r24.map f32)⟩, ⟨0, some (r25.map f32)⟩]) (r' := tup [agg (oXc r21 r22 2 1 r25.length), b r23]) (Γ' := [⟨1, some zMx⟩, ⟨1, some (r24.map f32)⟩, ⟨1, some (r25.map f32)⟩]) [(1, 1)] [(2, 1)] rfl (CallAs.func ent58 rfl rfl) rfl rfl (SelOk.of (show List.Nodup [1] from by decide) (SelL.arr0 (f := f32) (fun _ => rfl) rfl trivial)) (live_of ⟨⟨_, _, rfl⟩, trivial⟩) (by simp [ren, rens, sigma, rens_f32, rens_f64, rens_i64, rens_ik, rens_str, rens_cp]) rfl (i_Matrix_valid_02o_ok1 r14 r15 r16 r21 r22 r23 r24 r25 hf17) rfl (news_of ⟨⟨_, rfl, rfl⟩, trivial⟩) (show List.Nodup [1, 2] from by decide) (by simp [ren, rens, sigma, of_decide_eq_true hn19]) (by simp [backOb, sigma, ren, rens, rens_f32, rens_f64, rens_i64, rens_ik, rens_str, rens_cp]) ?_
           refine zN ?_
           refine RAny.more (i0 := 7) (l := [8]) (by kernel_rfl) (RAnys.cons rfl ?_ (RAnys.cons rfl ?_ RAnys.nil))
           ·refine zl (r := agg (oXc r21 r22 2 1 r25.length)) (LOp.extract rfl rfl rfl) ?_
            refine zN ?_
            refine RAny.more (i0 := 8) (l := []) (by kernel_rfl) (RAnys.cons rfl ?_ RAnys.nil)
            refine zl (r := b r23) (LOp.extract rfl rfl rfl) ?_
            refine zN ?_
            refine RAny.more (i0 := 9) (l := []) (by kernel_rfl) (RAnys.cons rfl ?_ RAnys.nil)
            refine ROps.store_le (r := agg (oXc r21 r22 2 1 r25.length)) (l' := (oXc r21 r22 2 1 r25.length)) (Γ' := [⟨1, some (oXc r21 r22 2 1 r25.length)⟩, ⟨1, some (r24.map f32)⟩, ⟨1, some (r25.map f32)⟩]) rfl siz26 rfl rfl rfl aR rfl rfl rfl rfl (Nat.le_of_ble_eq_true rfl) rfl rfl ?_
            refine zN ?_
            refine RAny.more (i0 := 10) (l := []) (by kernel_rfl) (RAnys.cons rfl ?_ RAnys.nil)
            refine za (r := b r23) ?_
            refine zN ?_
            refine RAny.done (by kernel_rfl) ?_
            exact ⟨⟨aR, aR, aR, aR, aR, aR, aR, aR, aR, aR, aR, aR, aR, aR, trivial⟩, ⟨⟨rfl, .inr rfl⟩, ⟨rfl, .inr rfl⟩, ⟨rfl, .inr rfl⟩, trivial⟩⟩
           ·refine zl (r := b r23) (LOp.extract rfl rfl rfl) ?_
            refine zN ?_
            refine RAny.more (i0 := 7) (l := []) (by kernel_rfl) (RAnys.cons rfl ?_ RAnys.nil)
            refine zl (r := agg (oXc r21 r22 2 1 r25.length)) (LOp.extract rfl rfl rfl) ?_
            refine zN ?_
            refine RAny.more (i0 := 9) (l := []) (by kernel_rfl) (RAnys.cons rfl ?_ RAnys.nil)
            refine ROps.store_le (r := agg (oXc r21 r22 2 1 r25.length)) (l' := (oXc r21 r22 2 1 r25.length)) (Γ' := [⟨1, some (oXc r21 r22 2 1 r25.length)⟩, ⟨1, some (r24.map f32)⟩, ⟨1, some (r25.map f32)⟩]) rfl siz26 rfl rfl rfl aR rfl rfl rfl rfl (Nat.le_of_ble_eq_true rfl) rfl rfl ?_
            refine zN ?_
            refine RAny.more (i0 := 10) (l := []) (by kernel_rfl) (RAnys.cons rfl ?_ RAnys.nil)
            refine za (r := b r23) ?_
            refine zN ?_
            refine RAny.done (by kernel_rfl) ?_
            exact ⟨⟨aR, aR, aR, aR, aR, aR, aR, aR, aR, aR, aR, aR, aR, aR, trivial⟩, ⟨⟨rfl, .inr rfl⟩, ⟨rfl, .inr rfl⟩, ⟨rfl, .inr rfl⟩, trivial⟩⟩
         ·refine zl (r := fn (.func 120) [] [ptr [(sFc a0)], ptr [(sFc a1)]]) (LOp.makeFunc rfl rfl) ?_
          refine zN ?_
          refine RAny.more (i0 := 1) (l := []) (by kernel_rfl) (RAnys.cons rfl ?_ RAnys.nil)
          refine ROps.d (r := i64 r12) (fs := []) (Γ' := [⟨1, some zMx⟩, ⟨0, none⟩, ⟨0, none⟩]) rfl rfl rfl (TOp.callB (CallAs.func ent71 rfl rfl) (Bors.cons (Bor.sl (fun _ => rfl)) Bors.nil) rfl rfl (i_length_float32_ok a0 r12 hf14)) rfl ?_
          refine zN ?_
          refine RAny.more (i0 := 3) (l := []) (by kernel_rfl) (RAnys.cons rfl ?_ RAnys.nil)
          refine ROps.d (r := i64 r13) (fs := []) (Γ' := [⟨1, some zMx⟩, ⟨0, none⟩, ⟨0, none⟩]) rfl rfl rfl (TOp.callB (CallAs.func ent71 rfl rfl) (Bors.cons (Bor.sl (fun _ => rfl)) Bors.nil) rfl rfl (i_length_float32_ok a1 r13 hf15)) rfl ?_
          refine zN ?_
          refine RAny.more (i0 := 5) (l := []) (by kernel_rfl) (RAnys.cons rfl ?_ RAnys.nil)
          refine ROps.d (r := agg (oXc r14 r15 1 1 r16.length)) (fs := [(1, (r16.map f32))]) (Γ' := [⟨1, some zMx⟩, ⟨1, some (r16.map f32)⟩, ⟨0, none⟩]) rfl rfl rfl (TOp.callBN (ls := [(r16.map f32)]) [1] (CallAs.func ent60 rfl rfl) (Bors.cons (Bor.pure rfl) (Bors.cons (Bor.pure rfl) (Bors.cons (Bor.fn Bors.nil (Bors.cons (Bor.ptr (Bors.cons (Bor.sl (fun _ => rfl)) Bors.nil)) (Bors.cons (Bor.ptr (Bors.cons (Bor.sl (fun _ => rfl)) Bors.nil)) Bors.nil))) Bors.nil))) rfl (i_made_2Fi_OuterMatrix_1_ok r12 r13 a0 a1 r14 r15 r16 hf16) (and_all (lts0_map (f := f32) (fun _ => rfl) _) rfl) (and_all (noss_map (f := f32) (fun _ => rfl) _) rfl) rfl (by decide) (ns_of ⟨⟨_, rfl⟩, trivial⟩)) rfl ?_
          refine zN ?_
          refine RAny.more (i0 := 6) (l := []) (by kernel_rfl) (RAnys.cons rfl ?_ RAnys.nil)
          refine ROps.callO (A := [agg (oXc r14 r15 1 1 r16.length)]) (args := [agg (oXc r14 r15 0 0 r16.length)]) (Γc := [⟨0, some (r16.map f32)⟩]) (Γc' := [⟨0, some (r24.map f32)⟩, ⟨0, some (r25.map f32)⟩]) (r' := tup [agg (oXc r21 r22 2 1 r25.length), b r23]) (Γ' := [⟨1, some zMx⟩, ⟨1, some (r24.map f32)⟩, ⟨1, some (r25.map f32)⟩]) [(1, 1)] [(2, 1)] rfl (CallAs.func ent58 rfl rfl) rfl rfl (SelOk.of (show List.Nodup [1] from by decide) (SelL.arr0 (f := f32) (fun _ => rfl) rfl trivial)) (live_of ⟨⟨_, _, rfl⟩, trivial⟩) (by simp [ren, rens, sigma, rens_f32, rens_f64, rens_i64, rens_ik, rens_str, rens_cp]) rfl (i_Matrix_valid_02o_ok1 r14 r15 r16 r21 r22 r23 r24 r25 hf17) rfl (news_of ⟨⟨_, rfl, rfl⟩, trivial⟩) (show List.Nodup [1, 2] from by decide) (by simp [ren, rens, sigma, of_decide_eq_true hn19]) (by simp [backOb, sigma, ren, rens, rens_f32, rens_f64, rens_i64, rens_ik, rens_str, rens_cp]) ?_
          refine zN ?_
          refine RAny.more (i0 := 7) (l := [8]) (by kernel_rfl) (RAnys.cons rfl ?_ (RAnys.cons rfl ?_ RAnys.nil))
          ·refine zl (r := agg (oXc r21 r22 2 1 r25.length)) (LOp.extract rfl rfl rfl) ?_
           refine zN ?_
           refine RAny.more (i0 := 8) (l := []) (by kernel_rfl) (RAnys.cons rfl ?_ RAnys.nil)
           refine zl (r := b r23) (LOp.extract rfl rfl rfl) ?_
           refine zN ?_
           refine RAny.more (i0 := 9) (l := []) (by kernel_rfl) (RAnys.cons rfl ?_ RAnys.nil)
           refine ROps.store_le (r := agg (oXc r21 r22 2 1 r25.length)) (l' := (oXc r21 r22 2 1 r25.length)) (Γ' := [⟨1, some (oXc r21 r22 2 1 r25.length)⟩, ⟨1, some (r24.map f32)⟩, ⟨1, some (r25.map f32)⟩]) rfl siz26 rfl rfl rfl aR rfl rfl rfl rfl (Nat.le_of_ble_eq_true rfl) rfl rfl ?_
           refine zN ?_
           refine RAny.more (i0 := 10) (l := []) (by kernel_rfl) (RAnys.cons rfl ?_ RAnys.nil)
           refine za (r := b r23) ?_
           refine zN ?_
           refine RAny.done (by kernel_rfl) ?_
           exact ⟨⟨aR, aR, aR, aR, aR, aR, aR, aR, aR, aR, aR, aR, aR, aR, trivial⟩, ⟨⟨rfl, .inr rfl⟩, ⟨rfl, .inr rfl⟩, ⟨rfl, .inr rfl⟩, trivial⟩⟩
          ·refine zl (r := b r23) (LOp.extract rfl rfl rfl) ?_
           refine zN ?_
           refine RAny.more (i0 := 7) (l := []) (by kernel_rfl) (RAnys.cons rfl ?_ RAnys.nil)
           refine zl (r := agg (oXc r21 r22 2 1 r25.length)) (LOp.extract rfl rfl rfl) ?_
           refine zN ?_
           refine RAny.more (i0 := 9) (l := []) (by kernel_rfl) (RAnys.cons rfl ?_ RAnys.nil)
           refine ROps.store_le (r := agg (oXc r21 r22 2 1 r25.length)) (l' := (oXc r21 r22 2 1 r25.length)) (Γ' := [⟨1, some (oXc r21 r22 2 1 r25.length)⟩, ⟨1, some (r24.map f32)⟩, ⟨1, some (r25.map f32)⟩]) rfl siz26 rfl rfl rfl aR rfl rfl rfl rfl (Nat.le_of_ble_eq_true rfl) rfl rfl ?_
           refine zN ?_
           refine RAny.more (i0 := 10) (l := []) (by kernel_rfl) (RAnys.cons rfl ?_ RAnys.nil)
           refine za (r := b r23) ?_
           refine zN ?_
           refine RAny.done (by kernel_rfl) ?_
           exact ⟨⟨aR, aR, aR, aR, aR, aR, aR, aR, aR, aR, aR, aR, aR, aR, trivial⟩, ⟨⟨rfl, .inr rfl⟩, ⟨rfl, .inr rfl⟩, ⟨rfl, .inr rfl⟩, trivial⟩⟩
        ·refine zl (r := fn (.func 120) [] [ptr [(sFc a0)], ptr [(sFc a1)]]) (LOp.makeFunc rfl rfl) ?_
         refine zN ?_
         refine RAny.more (i0 := 1) (l := [2]) (by kernel_rfl) (RAnys.cons rfl ?_ (RAnys.cons rfl ?_ RAnys.nil))
         ·refine ROps.d (r := i64 r12) (fs := []) (Γ' := [⟨1, some zMx⟩, ⟨0, none⟩, ⟨0, none⟩]) rfl rfl rfl (TOp.callB (CallAs.func ent71 rfl rfl) (Bors.cons (Bor.sl (fun _ => rfl)) Bors.nil) rfl rfl (i_length_float32_ok a0 r12 hf14)) rfl ?_
          refine zN ?_
          refine RAny.more (i0 := 2) (l := []) (by kernel_rfl) (RAnys.cons rfl ?_ RAnys.nil)
          refine zl (r := (sFc a1)) (LOp.load1 agg24 rfl rfl) ?_
          refine zN ?_
          refine RAny.more (i0 := 3) (l := []) (by kernel_rfl) (RAnys.cons rfl ?_ RAnys.nil)
          refine ROps.d (r := i64 r13) (fs := []) (Γ' := [⟨1, some zMx⟩, ⟨0, none⟩, ⟨0, none⟩]) rfl rfl rfl (TOp.callB (CallAs.func ent71 rfl rfl) (Bors.cons (Bor.sl (fun _ => rfl)) Bors.nil) rfl rfl (i_length_float32_ok a1 r13 hf15)) rfl ?_
          refine zN ?_
          refine RAny.more (i0 := 5) (l := []) (by kernel_rfl) (RAnys.cons rfl ?_ RAnys.nil)
          refine ROps.d (r := agg (oXc r14 r15 1 1 r16.length)) (fs := [(1, (r16.map f32))]) (Γ' := [⟨1, some zMx⟩, ⟨1, some (r16.map f32)⟩, ⟨0, none⟩]) rfl rfl rfl (TOp.callBN (ls := [(r16.map f32)]) [1] (CallAs.func ent60 rfl rfl) (Bors.cons (Bor.pure rfl) (Bors.cons (Bor.pure rfl) (Bors.cons (Bor.fn Bors.nil (Bors.cons (Bor.ptr (Bors.cons (Bor.sl (fun _ => rfl)) Bors.nil)) (Bors.cons (Bor.ptr (Bors.cons (Bor.sl (fun _ => rfl)) Bors.nil)) Bors.nil))) Bors.nil))) rfl (i_made_2Fi_OuterMatrix_1_ok r12 r13 a0 a1 r14 r15 r16 hf16) (and_all (lts0_map (f := f32) (fun _ => rfl) _) rfl) (and_all (noss_map (f := f32) (fun _ => rfl) _) rfl) rfl (by decide) (ns_of ⟨⟨_, rfl⟩, trivial⟩)) rfl ?_
          refine zN ?_
          refine RAny.more (i0 := 6) (l := []) (by kernel_rfl) (RAnys.cons rfl ?_ RAnys.nil)
          refine ROps.callO (A := [agg (oXc r14 r15 1 1 r16.length)]) (args := [agg (oXc r14 r15 0 0 r16.length)]) (Γc := [⟨0, some (r16.map f32)⟩]) (Γc' := [⟨0, some (r24.map f32)⟩, ⟨0, some (r25.map f32)⟩]) (r' := tup [agg (oXc r21 r22 2 1 r25.length), b r23]) (Γ' := [⟨1, some zMx⟩, ⟨1, some (r24.map f32)⟩, ⟨1, some (r25.map f32)⟩]) [(1, 1)] [(2, 1)] rfl (CallAs.func ent58 rfl rfl) rfl rfl (SelOk.of (show List.Nodup [1] from by decide) (SelL.arr0 (f := f32) (fun _ => rfl) rfl trivial)) (live_of ⟨⟨_, _, rfl⟩, trivial⟩) (by simp [ren, rens, sigma, rens_f32, rens_f64, rens_i64, rens_ik, rens_str, rens_cp]) rfl (i_Matrix_valid_02o_ok1 r14 r15 r16 r21 r22 r23 r24 r25 hf17) rfl (news_of ⟨⟨_, rfl, rfl⟩, trivial⟩) (show List.Nodup [1, 2] from by decide) (by simp [ren, rens, sigma, of_decide_eq_true hn19]) (by simp [backOb, sigma, ren, rens, rens_f32, rens_f64, rens_i64, rens_ik, rens_str, rens_cp]) ?_
          refine zN ?_
          refine RAny.more (i0 := 7) (l := [8]) (by kernel_rfl) (RAnys.cons rfl ?_ (RAnys.cons rfl ?_ RAnys.nil))
          ·refine zl (r := agg (oXc r21 r22 2 1 r25.length)) (LOp.extract rfl rfl rfl) ?_
           refine zN ?_
           refine RAny.more (i0 := 8) (l := []) (by kernel_rfl) (RAnys.cons rfl ?_ RAnys.nil)
           refine zl (r := b r23) (LOp.extract rfl rfl rfl) ?_
           refine zN ?_
           refine RAny.more (i0 := 9) (l := []) (by kernel_rfl) (RAnys.cons rfl ?_ RAnys.nil)
           refine ROps.store_le (r := agg (oXc r21 r22 2 1 r25.length)) (l' := (oXc r21 r22 2 1 r25.length)) (Γ' := [⟨1, some (oXc r21 r22 2 1 r25.length)⟩, ⟨1, some (r24.map f32)⟩, ⟨1, some (r25.map f32)⟩]) rfl siz26 rfl rfl rfl aR rfl rfl rfl rfl (Nat.le_of_ble_eq_true rfl) rfl rfl ?_
           refine zN ?_
           refine RAny.more (i0 := 10) (l := []) (by kernel_rfl) (RAnys.cons rfl ?_ RAnys.nil)
           refine za (r := b r23) ?_
           refine zN ?_
           refine RAny.done (by kernel_rfl) ?_
           exact ⟨⟨aR, aR, aR, aR, aR, aR, aR, aR, aR, aR, aR, aR, aR, aR, trivial⟩, ⟨⟨rfl, .inr rfl⟩, ⟨rfl, .inr rfl⟩, ⟨rfl, .inr rfl⟩, trivial⟩⟩
          ·refine zl (r := b r23) (LOp.extract rfl rfl rfl) ?_
           refine zN ?_
           refine RAny.more (i0 := 7) (l := []) (by kernel_rfl) (RAnys.cons rfl ?_ RAnys.nil)
           refine zl (r := agg (oXc r21 r22 2 1 r25.length)) (LOp.extract rfl rfl rfl) ?_
           refine zN ?_
           refine RAny.more (i0 := 9) (l := []) (by kernel_rfl) (RAnys.cons rfl ?_ RAnys.nil)
           refine ROps.store_le (r := agg (oXc r21 r22 2 1 r25.length)) (l' := (oXc r21 r22 2 1 r25.length)) (Γ' := [⟨1, some (oXc r21 r22 2 1 r25.length)⟩, ⟨1, some (r24.map f32)⟩, ⟨1, some (r25.map f32)⟩]) rfl siz26 rfl rfl rfl aR rfl rfl rfl rfl (Nat.le_of_ble_eq_true rfl) rfl rfl ?_
           refine zN ?_
           refine RAny.more (i0 := 10) (l := []) (by kernel_rfl) (RAnys.cons rfl ?_ RAnys.nil)
           refine za (r := b r23) ?_
           refine zN ?_
           refine RAny.done (by kernel_rfl) ?_
           exact ⟨⟨aR, aR, aR, aR, aR, aR, aR, aR, aR, aR, aR, aR, aR, aR, trivial⟩, ⟨⟨rfl, .inr rfl⟩, ⟨rfl, .inr rfl⟩, ⟨rfl, .inr rfl⟩, trivial⟩⟩
         ·refine zl (r := (sFc a1)) (LOp.load1 agg24 rfl rfl) ?_
          refine zN ?_
          refine RAny.more (i0 := 1) (l := []) (by kernel_rfl) (RAnys.cons rfl ?_ RAnys.nil)
          refine ROps.d (r := i64 r12) (fs := []) (Γ' := [⟨1, some zMx⟩, ⟨0, none⟩, ⟨0, none⟩]) rfl rfl rfl (TOp.callB (CallAs.func ent71 rfl rfl) (Bors.cons (Bor.sl (fun _ => rfl)) Bors.nil) rfl rfl (i_length_float32_ok a0 r12 hf14)) rfl ?_
          refine zN ?_
          refine RAny.more (i0 := 3) (l := []) (by kernel_rfl) (RAnys.cons rfl ?_ RAnys.nil)
          refine ROps.d (r := i64 r13) (fs := []) (Γ' := [⟨1, some zMx⟩, ⟨0, none⟩, ⟨0, none⟩]) rfl rfl rfl (TOp.callB (CallAs.func ent71 rfl rfl) (Bors.cons (Bor.sl (fun _ => rfl)) Bors.nil) rfl rfl (i_length_float32_ok a1 r13 hf15)) rfl ?_
          refine zN ?_
          refine RAny.more (i0 := 5) (l := []) (by kernel_rfl) (RAnys.cons rfl ?_ RAnys.nil)
          refine ROps.d (r := agg (oXc r14 r15 1 1 r16.length)) (fs := [(1, (r16.map f32))]) (Γ' := [⟨1, some zMx⟩, ⟨1, some (r16.map f32)⟩, ⟨0, none⟩]) rfl rfl rfl (TOp.callBN (ls := [(r16.map f32)]) [1] (CallAs.func ent60 rfl rfl) (Bors.cons (Bor.pure rfl) (Bors.cons (Bor.pure rfl) (Bors.cons (Bor.fn Bors.nil (Bors.cons (Bor.ptr (Bors.cons (Bor.sl (fun _ => rfl)) Bors.nil)) (Bors.cons (Bor.ptr (Bors.cons (Bor.sl (fun _ => rfl)) Bors.nil)) Bors.nil))) Bors.nil))) rfl (i_made_2Fi_OuterMatrix_1_ok r12 r13 a0 a1 r14 r15 r16 hf16) (and_all (lts0_map (f := f32) (fun _ => rfl) _) rfl) (and_all (noss_map (f := f32) (fun _ => rfl) _) rfl) rfl (by decide) (ns_of ⟨⟨_, rfl⟩, trivial⟩)) rfl ?_
          refine zN ?_
          refine RAny.more (i0 := 6) (l := []) (by kernel_rfl) (RAnys.cons rfl ?_ RAnys.nil)
          refine ROps.callO (A := [agg (oXc r14 r15 1 1 r16.length)]) (args := [agg (oXc r14 r15 0 0 r16.length)]) (Γc := [⟨0, some (r16.map f32)⟩]) (Γc' := [⟨0, some (r24.map f32)⟩, ⟨0, some (r25.map f32)⟩]) (r' := tup [agg (oXc r21 r22 2 1 r25.length), b r23]) (Γ' := [⟨1, some zMx⟩, ⟨1, some (r24.map f32)⟩, ⟨1, some (r25.map f32)⟩]) [(1, 1)] [(2, 1)] rfl (CallAs.func ent58 rfl rfl) rfl rfl (SelOk.of (show List.Nodup [1] from by decide) (SelL.arr0 (f := f32) (fun _ => rfl) rfl trivial)) (live_of ⟨⟨_, _, rfl⟩, trivial⟩) (by simp [ren, rens, sigma, rens_f32, rens_f64, rens_i64, rens_ik, rens_str, rens_cp]) rfl (i_Matrix_valid_02o_ok1 r14 r15 r16 r21 r22 r23 r24 r25 hf17) rfl (news_of ⟨⟨_, rfl, rfl⟩, trivial⟩) (show List.Nodup [1, 2] from by decide) (by simp [ren, rens, sigma, of_decide_eq_true hn19]) (by simp [backOb, sigma, ren, rens, rens_f32, rens_f64, rens_i64, rens_ik, rens_str, rens_cp]) ?_
          refine zN ?_
          refine RAny.more (i0 := 7) (l := [8]) (by kernel_rfl) (RAnys.cons rfl ?_ (RAnys.cons rfl ?_ RAnys.nil))
          ·refine zl (r := agg (oXc r21 r22 2 1 r25.length)) (LOp.extract rfl rfl rfl) ?_
           refine zN ?_
           refine RAny.more (i0 := 8) (l := []) (by kernel_rfl) (RAnys.cons rfl ?_ RAnys.nil)
           refine zl (r := b r23) (LOp.extract rfl rfl rfl) ?_
           refine zN ?_
           refine RAny.more (i0 := 9) (l := []) (by kernel_rfl) (RAnys.cons rfl ?_ RAnys.nil)
           refine ROps.store_le (r := agg (oXc r21 r22 2 1 r25.length)) (l' := (oXc r21 r22 2 1 r25.length)) (Γ' := [⟨1, some (oXc r21 r22 2 1 r25.length)⟩, ⟨1, some (r24.map f32)⟩, ⟨1, some (r25.map f32)⟩]) rfl siz26 rfl rfl rfl aR rfl rfl rfl rfl (Nat.le_of_ble_eq_true rfl) rfl rfl ?_
           refine zN ?_
           refine RAny.more (i0 := 10) (l := []) (by kernel_rfl) (RAnys.cons rfl ?_ RAnys.nil)
           refine za (r := b r23) ?_
           refine zN ?_
           refine RAny.done (by kernel_rfl) ?_
           exact ⟨⟨aR, aR, aR, aR, aR, aR, aR, aR, aR, aR, aR, aR, aR, aR, trivial⟩, ⟨⟨rfl, .inr rfl⟩, ⟨rfl, .inr rfl⟩, ⟨rfl, .inr rfl⟩, trivial⟩⟩
          ·refine zl (r := b r23) (LOp.extract rfl rfl rfl) ?_
           refine zN ?_
           refine RAny.more (i0 := 7) (l := []) (by kernel_rfl) (RAnys.cons rfl ?_ RAnys.nil)
           refine zl (r := agg (oXc r21 r22 2 1 r25.length)) (LOp.extract rfl rfl rfl) ?_
           refine zN ?_
           refine RAny.more (i0 := 9) (l := []) (by kernel_rfl) (RAnys.cons rfl ?_ RAnys.nil)
           refine ROps.store_le (r := agg (oXc r21 r22 2 1 r25.length)) (l' := (oXc r21 r22 2 1 r25.length)) (Γ' := [⟨1, some (oXc r21 r22 2 1 r25.length)⟩, ⟨1, some (r24.map f32)⟩, ⟨1, some (r25.map f32)⟩]) rfl siz26 rfl rfl rfl aR rfl rfl rfl rfl (Nat.le_of_ble_eq_true rfl) rfl rfl ?_
           refine zN ?_
           refine RAny.more (i0 := 10) (l := []) (by kernel_rfl) (RAnys.cons rfl ?_ RAnys.nil)
           refine za (r := b r23) ?_
           refine zN ?_
           refine RAny.done (by kernel_rfl) ?_
           exact ⟨⟨aR, aR, aR, aR, aR, aR, aR, aR, aR, aR, aR, aR, aR, aR, trivial⟩, ⟨⟨rfl, .inr rfl⟩, ⟨rfl, .inr rfl⟩, ⟨rfl, .inr rfl⟩, trivial⟩⟩
       ·refine zl (r := (sFc a1)) (LOp.load1 agg24 rfl rfl) ?_
        refine zN ?_
        refine RAny.more (i0 := 0) (l := [4]) (by kernel_rfl) (RAnys.cons rfl ?_ (RAnys.cons rfl ?_ RAnys.nil))
        ·refine zl (r := (sFc a0)) (LOp.load1 agg24 rfl rfl) ?_
         refine zN ?_
         refine RAny.more (i0 := 1) (l := [4]) (by kernel_rfl) (RAnys.cons rfl ?_ (RAnys.cons rfl ?_ RAnys.nil))
         ·refine ROps.d (r := i64 r12) (fs := []) (Γ' := [⟨1, some zMx⟩, ⟨0, none⟩, ⟨0, none⟩]) rfl rfl rfl (TOp.callB (CallAs.func ent71 rfl rfl) (Bors.cons (Bor.sl (fun _ => rfl)) Bors.nil) rfl rfl (i_length_float32_ok a0 r12 hf14)) rfl ?_
          refine zN ?_
          refine RAny.more (i0 := 3) (l := [4]) (by kernel_rfl) (RAnys.cons rfl ?_ (RAnys.cons rfl ?_ RAnys.nil))
          ·refine ROps.d (r := i64 r13) (fs := []) (Γ' := [⟨1, some zMx⟩, ⟨0, none⟩, ⟨0, none⟩]) rfl rfl rfl (TOp.callB (CallAs.func ent71 rfl rfl) (Bors.cons (Bor.sl (fun _ => rfl)) Bors.nil) rfl rfl (i_length_float32_ok a1 r13 hf15)) rfl ?_
           refine zN ?_
           refine RAny.more (i0 := 4) (l := []) (by kernel_rfl) (RAnys.cons rfl ?_ RAnys.nil)
           refine zl (r := fn (.func 120) [] [ptr [(sFc a0)], ptr [(sFc a1)]]) (LOp.makeFunc rfl rfl) ?_
           refine zN ?_
           refine RAny.more (i0 := 5) (l := []) (by kernel_rfl) (RAnys.cons rfl ?_ RAnys.nil)
           refine ROps.d (r := agg (oXc r14 r15 1 1 r16.length)) (fs := [(1, (r16.map f32))]) (Γ' := [⟨1, some zMx⟩, ⟨1, some (r16.map f32)⟩, ⟨0, none⟩]) rfl rfl rfl (TOp.callBN (ls := [(r16.map f32)]) [1] (CallAs.func ent60 rfl rfl) (Bors.cons (Bor.pure rfl) (Bors.cons (Bor.pure rfl) (Bors.cons (Bor.fn Bors.nil (Bors.cons (Bor.ptr (Bors.cons (Bor.sl (fun _ => rfl)) Bors.nil)) (Bors.cons (Bor.ptr (Bors.cons (Bor.sl (fun _ => rfl)) Bors.nil)) Bors.nil))) Bors.nil))) rfl (i_made_2Fi_OuterMatrix_1_ok r12 r13 a0 a1 r14 r15 r16 hf16) (and_all (lts0_map (f := f32) (fun _ => rfl) _) rfl) (and_all (noss_map (f := f32) (fun _ => rfl) _) rfl) rfl (by decide) (ns_of ⟨⟨_, rfl⟩, trivial⟩)) rfl ?_
           refine zN ?_
           refine RAny.more (i0 := 6) (l := []) (by kernel_rfl) (RAnys.cons rfl ?_ RAnys.nil)
           refine ROps.callO (A := [agg (oXc r14 r15 1 1 r16.length)]) (args := [agg (oXc r14 r15 0 0 r16.length)]) (Γc := [⟨0, some (r16.map f32)⟩]) (Γc' := [⟨0, some (r24.map f32)⟩, ⟨0, some (r25.map f32)⟩]) (r' := tup [agg (oXc r21 r22 2 1 r25.length), b r23]) (Γ' := [⟨1, some zMx⟩, ⟨1, some (r24.map f32)⟩, ⟨1, some (r25.map f32)⟩]) [(1, 1)] [(2, 1)] rfl (CallAs.func ent58 rfl rfl) rfl rfl (SelOk.of (show List.Nodup [1] from by decide) (SelL.arr0 (f := f32) (fun _ => rfl) rfl trivial)) (live_of ⟨⟨_, _, rfl⟩, trivial⟩) (by simp [ren, rens, sigma, rens_f32, rens_f64, rens_i64, rens_ik, rens_str, rens_cp]) rfl (i_Matrix_valid_02o_ok1 r14 r15 r16 r21 r22 r23 r24 r25 hf17) rfl (news_of ⟨⟨_, rfl, rfl⟩, trivial⟩) (show List.Nodup [1, 2] from by decide) (by simp [ren, rens, sigma, of_decide_eq_true hn19]) (by simp [backOb, sigma, ren, rens, rens_f32, rens_f64, rens_i64, rens_ik, rens_str, rens_cp]) ?_
           refine zN ?_
           refine RAny.more (i0 := 7) (l := [8]) (by kernel_rfl) (RAnys.cons rfl ?_ (RAnys.cons rfl ?_ RAnys.nil))
           ·refine zl (r := agg (oXc r21 r22 2 1 r25.length)) (LOp.extract rfl rfl rfl) ?_
            refine zN ?_
            refine RAny.more (i0 := 8) (l := []) (by kernel_rfl) (RAnys.cons rfl ?_ RAnys.nil)
            refine zl (r := b r23) (LOp.extract rfl rfl rfl) ?_
            refine zN ?_
            refine RAny.more (i0 := 9) (l := []) (by kernel_rfl) (RAnys.cons rfl ?_ RAnys.nil)
            refine ROps.store_le (r := agg (oXc r21 r22 2 1 r25.length)) (l' := (oXc r21 r22 2 1 r25.length)) (Γ' := [⟨1, some (oXc r21 r22 2 1 r25.length)⟩, ⟨1, some (r24.map f32)⟩, ⟨1, some (r25.map f32)⟩]) rfl siz26 rfl rfl rfl aR rfl rfl rfl rfl (Nat.le_of_ble_eq_true rfl) rfl rfl ?_
            refine zN ?_
            refine RAny.more (i0 := 10) (l := []) (by kernel_rfl) (RAnys.cons rfl ?_ RAnys.nil)
            refine za (r := b r23) ?_
            refine zN ?_
            refine RAny.done (by kernel_rfl) ?_
            exact ⟨⟨aR, aR, aR, aR, aR, aR, aR, aR, aR, aR, aR, aR, aR, aR, trivial⟩, ⟨⟨rfl, .inr rfl⟩, ⟨rfl, .inr rfl⟩, ⟨rfl, .inr rfl⟩, trivial⟩⟩
           ·refine zl (r := b r23) (LOp.extract rfl rfl rfl) ?_
            refine zN ?_
            refine RAny.more (i0 := 7) (l := []) (by kernel_rfl) (RAnys.cons rfl ?_ RAnys.nil)
            refine zl (r := agg (oXc r21 r22 2 1 r25.length)) (LOp.extract rfl rfl rfl) ?_
            refine zN ?_
            refine RAny.more (i0 := 9) (l := []) (by kernel_rfl) (RAnys.cons rfl ?_ RAnys.nil)
            refine ROps.store_le (r := agg (oXc r21 r22 2 1 r25.length)) (l' := (oXc r21 r22 2 1 r25.length)) (Γ' := [⟨1, some (oXc r21 r22 2 1 r25.length)⟩, ⟨1, some (r24.map f32)⟩, ⟨1, some (r25.map f32)⟩]) rfl siz26 rfl rfl rfl aR rfl rfl rfl rfl (Nat.le_of_ble_eq_true rfl) rfl rfl ?_
            refine zN ?_
            refine RAny.more (i0 := 10) (l := []) (by kernel_rfl) (RAnys.cons rfl ?_ RAnys.nil)
            refine za (r := b r23) ?_
            refine zN ?_
            refine RAny.done (by kernel_rfl) ?_
            exact ⟨⟨aR, aR, aR, aR, aR, aR, aR, aR, aR, aR, aR, aR, aR, aR, trivial⟩, ⟨⟨rfl, .inr rfl⟩, ⟨rfl, .inr rfl⟩, ⟨rfl, .inr rfl⟩, trivial⟩⟩
          ·refine zl (r := fn (.func 120) [] [ptr [(sFc a0)], ptr [(sFc a1)]]) (LOp.makeFunc rfl rfl) ?_
           refine zN ?_
           refine RAny.more (i0 := 3) (l := []) (by kernel_rfl) (RAnys.cons rfl ?_ RAnys.nil)
           refine ROps.d (r := i64 r13) (fs := []) (Γ' := [⟨1, some zMx⟩, ⟨0, none⟩, ⟨0, none⟩]) rfl rfl rfl (TOp.callB (CallAs.func ent71 rfl rfl) (Bors.cons (Bor.sl (fun _ => rfl)) Bors.nil) rfl rfl (i_length_float32_ok a1 r13 hf15)) rfl ?_
           refine zN ?_
           refine RAny.more (i0 := 5) (l := []) (by kernel_rfl) (RAnys.cons rfl ?_ RAnys.nil)
           refine ROps.d (r := agg (oXc r14 r15 1 1 r16.length)) (fs := [(1, (r16.map f32))]) (Γ' := [⟨1, some zMx⟩, ⟨1, some (r16.map f32)⟩, ⟨0, none⟩]) rfl rfl rfl (TOp.callBN (ls := [(r16.map f32)]) [1] (CallAs.func ent60 rfl rfl) (Bors.cons (Bor.pure rfl) (Bors.cons (Bor.pure rfl) (Bors.cons (Bor.fn Bors.nil (Bors.cons (Bor.ptr (Bors.cons (Bor.sl (fun _ => rfl)) Bors.nil)) (Bors.cons (Bor.ptr (Bors.cons (Bor.sl (fun _ => rfl)) Bors.nil)) Bors.nil))) Bors.nil))) rfl (i_made_2Fi_OuterMatrix_1_ok r12 r13 a0 a1 r14 r15 r16 hf16) (and_all (lts0_map (f := f32) (fun _ => rfl) _) rfl) (and_all (noss_map (f := f32) (fun _ => rfl) _) rfl) rfl (by decide) (ns_of ⟨⟨_, rfl⟩, trivial⟩)) rfl ?_
           refine zN ?_
           refine RAny.more (i0 := 6) (l := []) (by kernel_rfl) (RAnys.cons rfl ?_ RAnys.nil)
           refine ROps.callO (A := [agg (oXc r14 r15 1 1 r16.length)]) (args := [agg (oXc r14 r15 0 0 r16.length)]) (Γc := [⟨0, some (r16.map f32)⟩]) (Γc' := [⟨0, some (r24.map f32)⟩, ⟨0, some (r25.map f32)⟩]) (r' := tup [agg (oXc r21 r22 2 1 r25.length), b r23]) (Γ' := [⟨1, some zMx⟩, ⟨1, some (r24.map f32)⟩, ⟨1, some (r25.map f32)⟩]) [(1, 1)] [(2, 1)] rfl (CallAs.func ent58 rfl rfl) rfl rfl (SelOk.of (show List.Nodup [1] from by decide) (SelL.arr0 (f := f32) (fun _ => rfl) rfl trivial)) (live_of ⟨⟨_, _, rfl⟩, trivial⟩) (by simp [ren, rens, sigma, rens_f32, rens_f64, rens_i64, rens_ik, rens_str, rens_cp]) rfl (i_Matrix_valid_02o_ok1 r14 r15 r16 r21 r22 r23 r24 r25 hf17) rfl (news_of ⟨⟨_, rfl, rfl⟩, trivial⟩) (show List.Nodup [1, 2] from by decide) (by simp [ren, rens, sigma, of_decide_eq_true hn19]) (by simp [backOb, sigma, ren, rens, rens_f32, rens_f64, rens_i64, rens_ik, rens_str, rens_cp]) ?_
           refine zN ?_
           refine RAny.more (i0 := 7) (l := [8]) (by kernel_rfl) (RAnys.cons rfl ?_ (RAnys.cons rfl ?_ RAnys.nil))
           ·refine zl (r := agg (oXc r21 r22 2 1 r25.length)) (LOp.extract rfl rfl rfl) ?_
            refine zN ?_
            refine RAny.more (i0 := 8) (l := []) (by kernel_rfl) (RAnys.cons rfl ?_ RAnys.nil)
            refine zl (r := b r23) (LOp.extract rfl rfl rfl) ?_
            refine zN ?_
            refine RAny.more (i0 := 9) (l := []) (by kernel_rfl) (RAnys.cons rfl ?_ RAnys.nil)
            refine ROps.store_le (r := agg (oXc r21 r22 2 1 r25.length)) (l' := (oXc r21 r22 2 1 r25.length)) (Γ' := [⟨1, some (oXc r21 r22 2 1 r25.length)⟩, ⟨1, some (r24.map f32)⟩, ⟨1, some (r25.map f32)⟩]) rfl siz26 rfl rfl rfl aR rfl rfl rfl rfl (Nat.le_of_ble_eq_true rfl) rfl rfl ?_
            refine zN ?_
            refine RAny.more (i0 := 10) (l := []) (by kernel_rfl) (RAnys.cons rfl ?_ RAnys.nil)
            refine za (r := b r23) ?_
            refine zN ?_
            refine RAny.done (by kernel_rfl) ?_
            exact ⟨⟨aR, aR, aR, aR, aR, aR, aR, aR, aR, aR, aR, aR, aR, aR, trivial⟩, ⟨⟨rfl, .inr rfl⟩, ⟨rfl, .inr rfl⟩, ⟨rfl, .inr rfl⟩, trivial⟩⟩
           ·refine zl (r := b r23) (LOp.extract rfl rfl rfl) ?_
            refine zN ?_
            refine RAny.more (i0 := 7) (l := []) (by kernel_rfl) (RAnys.cons rfl ?_ RAnys.nil)
            refine zl (r := agg (oXc r21 r22 2 1 r25.length)) (LOp.extract rfl rfl rfl) ?_
            refine zN ?_
            refine RAny.more (i0 := 9) (l := []) (by kernel_rfl) (RAnys.cons rfl ?_ RAnys.nil)
            refine ROps.store_le (r := agg (oXc r21 r22 2 1 r25.length)) (l' := (oXc r21 r22 2 1 r25.length)) (Γ' := [⟨1, some (oXc r21 r22 2 1 r25.length)⟩, ⟨1, some (r24.map f32)⟩, ⟨1, some (r25.map f32)⟩]) rfl siz26 rfl rfl rfl aR rfl rfl rfl rfl (Nat.le_of_ble_eq_true rfl) rfl rfl ?_
            refine zN ?_
            refine RAny.more (i0 := 10) (l := []) (by kernel_rfl) (RAnys.cons rfl ?_ RAnys.nil)
            refine za (r := b r23) ?_
            refine zN ?_
            refine RAny.done (by kernel_rfl) ?_
            exact ⟨⟨aR, aR, aR, aR, aR, aR, aR, aR, aR, aR, aR, aR, aR, aR, trivial⟩, ⟨⟨rfl, .inr rfl⟩, ⟨rfl, .inr rfl⟩, ⟨rfl, .inr rfl⟩, trivial⟩⟩
         ·refine zl (r := fn (.func 120) [] [ptr [(sFc a0)], ptr [(sFc a1)]]) (LOp.makeFunc rfl rfl) ?_
          refine zN ?_
          refine RAny.more (i0 := 1) (l := []) (by kernel_rfl) (RAnys.cons rfl ?_ RAnys.nil)
          refine ROps.d (r := i64 r12) (fs := []) (Γ' := [⟨1, some zMx⟩, ⟨0, none⟩, ⟨0, none⟩]) rfl rfl rfl (TOp.callB (CallAs.func ent71 rfl rfl) (Bors.cons (Bor.sl (fun _ => rfl)) Bors.nil) rfl rfl (i_length_float32_ok a0 r12 hf14)) rfl ?_
          refine zN ?_
          refine RAny.more (i0 := 3) (l := []) (by kernel_rfl) (RAnys.cons rfl ?_ RAnys.nil)
          refine ROps.d (r := i64 r13) (fs := []) (Γ' := [⟨1, some zMx⟩, ⟨0, none⟩, ⟨0, none⟩]) rfl rfl rfl (TOp.callB (CallAs.func ent71 rfl rfl) (Bors.cons (Bor.sl (fun _ => rfl)) Bors.nil) rfl rfl (i_length_float32_ok a1 r13 hf15)) rfl ?_
          refine zN ?_
          refine RAny.more (i0 := 5) (l := []) (by kernel_rfl) (RAnys.cons rfl ?_ RAnys.nil)
          refine ROps.d (r := agg (oXc r14 r15 1 1 r16.length)) (fs := [(1, (r16.map f32))]) (Γ' := [⟨1, some zMx⟩, ⟨1, some (r16.map f32)⟩, ⟨0, none⟩]) rfl rfl rfl (TOp.callBN (ls := [(r16.map f32)]) [1] (CallAs.func ent60 rfl rfl) (Bors.cons (Bor.pure rfl) (Bors.cons (Bor.pure rfl) (Bors.cons (Bor.fn Bors.nil (Bors.cons (Bor.ptr (Bors.cons (Bor.sl (fun _ => rfl)) Bors.nil)) (Bors.cons (Bor.ptr (Bors.cons (Bor.sl (fun _ => rfl)) Bors.nil)) Bors.nil))) Bors.nil))) rfl (i_made_2Fi_OuterMatrix_1_ok r12 r13 a0 a1 r14 r15 r16 hf16) (and_all (lts0_map (f := f32) (fun _ => rfl) _) rfl) (and_all (noss_map (f := f32) (fun _ => rfl) _) rfl) rfl (by decide) (ns_of ⟨⟨_, rfl⟩, trivial⟩)) rfl ?_
          refine zN ?_
          refine RAny.more (i0 := 6) (l := []) (by kernel_rfl) (RAnys.cons rfl ?_ RAnys.nil)
          refine ROps.callO (A := [agg (oXc r14 r15 1 1 r16.length)]) (args := [agg (oXc r14 r15 0 0 r16.length)]) (Γc := [⟨0, some (r16.map f32)⟩]) (Γc' := [⟨0, some (r24.map f32)⟩, ⟨0, some (r25.map f32)⟩]) (r' := tup [agg (oXc r21 r22 2 1 r25.length), b r23]) (Γ' := [⟨1, some zMx⟩, ⟨1, some (r24.map f32)⟩, ⟨1, some (r25.map f32)⟩]) [(1, 1)] [(2, 1)] rfl (CallAs.func ent58 rfl rfl) rfl rfl (SelOk.of (show List.Nodup [1] from by decide) (SelL.arr0 (f := f32) (fun _ => rfl) rfl trivial)) (live_of ⟨⟨_, _, rfl⟩, trivial⟩) (by simp [ren, rens, sigma, rens_f32, rens_f64, rens_i64, rens_ik, rens_str, rens_cp]) rfl (i_Matrix_valid_02o_ok1 r14 r15 r16 r21 r22 r23 r24 r25 hf17) rfl (news_of ⟨⟨_, rfl, rfl⟩, trivial⟩) (show List.Nodup [1, 2] from by decide) (by simp [ren, rens, sigma, of_decide_eq_true hn19]) (by simp [backOb, sigma, ren, rens, rens_f32, rens_f64, rens_i64, rens_ik, rens_str, rens_cp]) ?_
          refine zN ?_
          refine RAny.more (i0 := 7) (l := [8]) (by kernel_rfl) (RAnys.cons rfl ?_ (RAnys.cons rfl ?_ RAnys.nil))
          ·refine zl (r := agg (oXc r21 r22 2 1 r25.length)) (LOp.extract rfl rfl rfl) ?_
           refine zN ?_
           refine RAny.more (i0 := 8) (l := []) (by kernel_rfl) (RAnys.cons rfl ?_ RAnys.nil)
           refine zl (r := b r23) (LOp.extract rfl rfl rfl) ?_
           refine zN ?_
           refine RAny.more (i0 := 9) (l := []) (by kernel_rfl) (RAnys.cons rfl ?_ RAnys.nil)
           refine ROps.store_le (r := agg (oXc r21 r22 2 1 r25.length)) (l' := (oXc r21 r22 2 1 r25.length)) (Γ' := [⟨1, some (oXc r21 r22 2 1 r25.length)⟩, ⟨1, some (r24.map f32)⟩, ⟨1, some (r25.map f32)⟩]) rfl siz26 rfl rfl rfl aR rfl rfl rfl rfl (Nat.le_of_ble_eq_true rfl) rfl rfl ?_
           refine zN ?_
           refine RAny.more (i0 := 10) (l := []) (by kernel_rfl) (RAnys.cons rfl ?_ RAnys.nil)
           refine za (r := b r23) ?_
           refine zN ?_
           refine RAny.done (by kernel_rfl) ?_
           exact ⟨⟨aR, aR, aR, aR, aR, aR, aR, aR, aR, aR, aR, aR, aR, aR, trivial⟩, ⟨⟨rfl, .inr rfl⟩, ⟨rfl, .inr rfl⟩, ⟨rfl, .inr rfl⟩, trivial⟩⟩
          ·refine zl (r := b r23) (LOp.extract rfl rfl rfl) ?_
           refine zN ?_
           refine RAny.more (i0 := 7) (l := []) (by kernel_rfl) (RAnys.cons rfl ?_ RAnys.nil)
           refine zl (r := agg (oXc r21 r22 2 1 r25.length)) (LOp.extract rfl rfl rfl) ?_
           refine zN ?_
           refine RAny.more (i0 := 9) (l := []) (by kernel_rfl) (RAnys.cons rfl ?_ RAnys.nil)
           refine ROps.store_le (r := agg (oXc r21 r22 2 1 r25.length)) (l' := (oXc r21 r22 2 1 r25.length)) (Γ' := [⟨1, some (oXc r21 r22 2 1 r25.length)⟩, ⟨1, some (r24.map f32)⟩, ⟨1, some (r25.map f32)⟩]) rfl siz26 rfl rfl rfl aR rfl rfl rfl rfl (Nat.le_of_ble_eq_true rfl) rfl rfl ?_
           refine zN ?_
           refine RAny.more (i0 := 10) (l := []) (by kernel_rfl) (RAnys.cons rfl ?_ RAnys.nil)
           refine za (r := b r23) ?_
           refine zN ?_
           refine RAny.done (by kernel_rfl) ?_
           exact ⟨⟨aR, aR, aR, aR, aR, aR, aR, aR, aR, aR, aR, aR, aR, aR, trivial⟩, ⟨⟨rfl, .inr rfl⟩, ⟨rfl, .inr rfl⟩, ⟨rfl, .inr rfl⟩, trivial⟩⟩
        ·refine zl (r := fn (.func 120) [] [ptr [(sFc a0)], ptr [(sFc a1)]]) (LOp.makeFunc rfl rfl) ?_
         refine zN ?_
         refine RAny.more (i0 := 0) (l := []) (by kernel_rfl) (RAnys.cons rfl ?_ RAnys.nil)
         refine zl (r := (sFc a0)) (LOp.load1 agg24 rfl rfl) ?_
         refine zN ?_
         refine RAny.more (i0 := 1) (l := []) (by kernel_rfl) (RAnys.cons rfl ?_ RAnys.nil)
         refine ROps.d (r := i64 r12) (fs := []) (Γ' := [⟨1, some zMx⟩, ⟨0, none⟩, ⟨0, none⟩]) rfl rfl rfl (TOp.callB (CallAs.func ent71 rfl rfl) (Bors.cons (Bor.sl (fun _ => rfl)) Bors.nil) rfl rfl (i_length_float32_ok a0 r12 hf14)) rfl ?_
         refine zN ?_
         refine RAny.more (i0 := 3) (l := []) (by kernel_rfl) (RAnys.cons rfl ?_ RAnys.nil)
         refine ROps.d (r := i64 r13) (fs := []) (Γ' := [⟨1, some zMx⟩, ⟨0, none⟩, ⟨0, none⟩]) rfl rfl rfl (TOp.callB (CallAs.func ent71 rfl rfl) (Bors.cons (Bor.sl (fun _ => rfl)) Bors.nil) rfl rfl (i_length_float32_ok a1 r13 hf15)) rfl ?_
         refine zN ?_
         refine RAny.more (i0 := 5) (l := []) (by kernel_rfl) (RAnys.cons rfl ?_ RAnys.nil)
         refine ROps.d (r := agg (oXc r14 r15 1 1 r16.length)) (fs := [(1, (r16.map f32))]) (Γ' := [⟨1, some zMx⟩, ⟨1, some (r16.map f32)⟩, ⟨0, none⟩]) rfl rfl rfl (TOp.callBN (ls := [(r16.map f32)]) [1] (CallAs.func ent60 rfl rfl) (Bors.cons (Bor.pure rfl) (Bors.cons (Bor.pure rfl) (Bors.cons (Bor.fn Bors.nil (Bors.cons (Bor.ptr (Bors.cons (Bor.sl (fun _ => rfl)) Bors.nil)) (Bors.cons (Bor.ptr (Bors.cons (Bor.sl (fun _ => rfl)) Bors.nil)) Bors.nil))) Bors.nil))) rfl (i_made_2Fi_OuterMatrix_1_ok r12 r13 a0 a1 r14 r15 r16 hf16) (and_all (lts0_map (f := f32) (fun _ => rfl) _) rfl) (and_all (noss_map (f := f32) (fun _ => rfl) _) rfl) rfl (by decide) (ns_of ⟨⟨_, rfl⟩, trivial⟩)) rfl ?_
         refine zN ?_
         refine RAny.more (i0 := 6) (l := []) (by kernel_rfl) (RAnys.cons rfl ?_ RAnys.nil)
         refine ROps.callO (A := [agg (oXc r14 r15 1 1 r16.length)]) (args := [agg (oXc r14 r15 0 0 r16.length)]) (Γc := [⟨0, some (r16.map f32)⟩]) (Γc' := [⟨0, some (r24.map f32)⟩, ⟨0, some (r25.map f32)⟩]) (r' := tup [agg (oXc r21 r22 2 1 r25.length), b r23]) (Γ' := [⟨1, some zMx⟩, ⟨1, some (r24.map f32)⟩, ⟨1, some (r25.map f32)⟩]) [(1, 1)] [(2, 1)] rfl (CallAs.func ent58 rfl rfl) rfl rfl (SelOk.of (show List.Nodup [1] from by decide) (SelL.arr0 (f := f32) (fun _ => rfl) rfl trivial)) (live_of ⟨⟨_, _, rfl⟩, trivial⟩) (by simp [ren, rens, sigma, rens_f32, rens_f64, rens_i64, rens_ik, rens_str, rens_cp]) rfl (i_Matrix_valid_02o_ok1 r14 r15 r16 r21 r22 r23 r24 r25 hf17) rfl (news_of ⟨⟨_, rfl, rfl⟩, trivial⟩) (show List.Nodup [1, 2] from by decide) (by simp [ren, rens, sigma, of_decide_eq_true hn19]) (by simp [backOb, sigma, ren, rens, rens_f32, rens_f64, rens_i64, rens_ik, rens_str, rens_cp]) ?_
         refine zN ?_
         refine RAny.more (i0 := 7) (l := [8]) (by kernel_rfl) (RAnys.cons rfl ?_ (RAnys.cons rfl ?_ RAnys.nil))
         ·refine zl (r := agg (oXc r21 r22 2 1 r25.length)) (LOp.extract rfl rfl rfl) ?_
          refine zN ?_
          refine RAny.more (i0 := 8) (l := []) (by kernel_rfl) (RAnys.cons rfl ?_ RAnys.nil)
          refine zl (r := b r23) (LOp.extract rfl rfl rfl) ?_
          refine zN ?_
          refine RAny.more (i0 := 9) (l := []) (by kernel_rfl) (RAnys.cons rfl ?_ RAnys.nil)
          refine ROps.store_le (r := agg (oXc r21 r22 2 1 r25.length)) (l' := (oXc r21 r22 2 1 r25.length)) (Γ' := [⟨1, some (oXc r21 r22 2 1 r25.length)⟩, ⟨1, some (r24.map f32)⟩, ⟨1, some (r25.map f32)⟩]) rfl siz26 rfl rfl rfl aR rfl rfl rfl rfl (Nat.le_of_ble_eq_true rfl) rfl rfl ?_
          refine zN ?_
          refine RAny.more (i0 := 10) (l := []) (by kernel_rfl) (RAnys.cons rfl ?_ RAnys.nil)
          refine za (r := b r23) ?_
          refine zN ?_
          refine RAny.done (by kernel_rfl) ?_
          exact ⟨⟨aR, aR, aR, aR, aR, aR, aR, aR, aR, aR, aR, aR, aR, aR, trivial⟩, ⟨⟨rfl, .inr rfl⟩, ⟨rfl, .inr rfl⟩, ⟨rfl, .inr rfl⟩, trivial⟩⟩
         ·refine zl (r := b r23) (LOp.extract rfl rfl rfl) ?_
          refine zN ?_
          refine RAny.more (i0 := 7) (l := []) (by kernel_rfl) (RAnys.cons rfl ?_ RAnys.nil)
          refine zl (r := agg (oXc r21 r22 2 1 r25.length)) (LOp.extract rfl rfl rfl) ?_
          refine zN ?_
          refine RAny.more (i0 := 9) (l := []) (by kernel_rfl) (RAnys.cons rfl ?_ RAnys.nil)
          refine ROps.store_le (r := agg (oXc r21 r22 2 1 r25.length)) (l' := (oXc r21 r22 2 1 r25.length)) (Γ' := [⟨1, some (oXc r21 r22 2 1 r25.length)⟩, ⟨1, some (r24.map f32)⟩, ⟨1, some (r25.map f32)⟩]) rfl siz26 rfl rfl rfl aR rfl rfl rfl rfl (Nat.le_of_ble_eq_true rfl) rfl rfl ?_
          refine zN ?_
          refine RAny.more (i0 := 10) (l := []) (by kernel_rfl) (RAnys.cons rfl ?_ RAnys.nil)
          refine za (r := b r23) ?_
          refine zN ?_
          refine RAny.done (by kernel_rfl) ?_
          exact ⟨⟨aR, aR, aR, aR, aR, aR, aR, aR, aR, aR, aR, aR, aR, aR, trivial⟩, ⟨⟨rfl, .inr rfl⟩, ⟨rfl, .inr rfl⟩, ⟨rfl, .inr rfl⟩, trivial⟩⟩
       ·refine zl (r := fn (.func 120) [] [ptr [(sFc a0)], ptr [(sFc a1)]]) (LOp.makeFunc rfl rfl) ?_
        refine zN ?_
        refine RAny.more (i0 := 0) (l := [2]) (by kernel_rfl) (RAnys.cons rfl ?_ (RAnys.cons rfl ?_ RAnys.nil))
        ·refine zl (r := (sFc a0)) (LOp.load1 agg24 rfl rfl) ?_
         refine zN ?_
         refine RAny.more (i0 := 1) (l := [2]) (by kernel_rfl) (RAnys.cons rfl ?_ (RAnys.cons rfl ?_ RAnys.nil))
         ·refine ROps.d (r := i64 r12) (fs := []) (Γ' := [⟨1, some zMx⟩, ⟨0, none⟩, ⟨0, none⟩]) rfl rfl rfl (TOp.callB (CallAs.func ent71 rfl rfl) (Bors.cons (Bor.sl (fun _ => rfl)) Bors.nil) rfl rfl (i_length_float32_ok a0 r12 hf14)) rfl ?_
          refine zN ?_
          refine RAny.more (i0 := 2) (l := []) (by kernel_rfl) (RAnys.cons rfl ?_ RAnys.nil)
          refine zl (r := (sFc a1)) (LOp.load1 agg24 rfl rfl) ?_
          refine zN ?_
          refine RAny.more (i0 := 3) (l := []) (by kernel_rfl) (RAnys.cons rfl ?_ RAnys.nil)
          refine ROps.d (r := i64 r13) (fs := []) (Γ' := [⟨1, some zMx⟩, ⟨0, none⟩, ⟨0, none⟩]) rfl rfl rfl (TOp.callB (CallAs.func ent71 rfl rfl) (Bors.cons (Bor.sl (fun _ => rfl)) Bors.nil) rfl rfl (i_length_float32_ok a1 r13 hf15)) rfl ?_
          refine zN ?_
          refine RAny.more (i0 := 5) (l := []) (by kernel_rfl) (RAnys.cons rfl ?_ RAnys.nil)
          refine ROps.d (r := agg (oXc r14 r15 1 1 r16.length)) (fs := [(1, (r16.map f32))]) (Γ' := [⟨1, some zMx⟩, ⟨1, some (r16.map f32)⟩, ⟨0, none⟩]) rfl rfl rfl (TOp.callBN (ls := [(r16.map f32)]) [1] (CallAs.func ent60 rfl rfl) (Bors.cons (Bor.pure rfl) (Bors.cons (Bor.pure rfl) (Bors.cons (Bor.fn Bors.nil (Bors.cons (Bor.ptr (Bors.cons (Bor.sl (fun _ => rfl)) Bors.nil)) (Bors.cons (Bor.ptr (Bors.cons (Bor.sl (fun _ => rfl)) Bors.nil)) Bors.nil))) Bors.nil))) rfl (i_made_2Fi_OuterMatrix_1_ok r12 r13 a0 a1 r14 r15 r16 hf16) (and_all (lts0_map (f := f32) (fun _ => rfl) _) rfl) (and_all (noss_map (f := f32) (fun _ => rfl) _) rfl) rfl (by decide) (ns_of ⟨⟨_, rfl⟩, trivial⟩)) rfl ?_
          refine zN ?_
          refine RAny.more (i0 := 6) (l := []) (by kernel_rfl) (RAnys.cons rfl ?_ RAnys.nil)
          refine ROps.callO (A := [agg (oXc r14 r15 1 1 r16.length)]) (args := [agg (oXc r14 r15 0 0 r16.length)]) (Γc := [⟨0, some (r16.map f32)⟩]) (Γc' := [⟨0, some (r24.map f32)⟩, ⟨0, some (r25.map f32)⟩]) (r' := tup [agg (oXc r21 r22 2 1 r25.length), b r23]) (Γ' := [⟨1, some zMx⟩, ⟨1, some (r24.map f32)⟩, ⟨1, some (r25.map f32)⟩]) [(1, 1)] [(2, 1)] rfl (CallAs.func ent58 rfl rfl) rfl rfl (SelOk.of (show List.Nodup [1] from by decide) (SelL.arr0 (f := f32) (fun _ => rfl) rfl trivial)) (live_of ⟨⟨_, _, rfl⟩, trivial⟩) (by simp [ren, rens, sigma, rens_f32, rens_f64, rens_i64, rens_ik, rens_str, rens_cp]) rfl (i_Matrix_valid_02o_ok1 r14 r15 r16 r21 r22 r23 r24 r25 hf17) rfl (news_of ⟨⟨_, rfl, rfl⟩, trivial⟩) (show List.Nodup [1, 2] from by decide) (by simp [ren, rens, sigma, of_decide_eq_true hn19]) (by simp [backOb, sigma, ren, rens, rens_f32, rens_f64, rens_i64, rens_ik, rens_str, rens_cp]) ?_
          refine zN ?_
          refine RAny.more (i0 := 7) (l := [8]) (by kernel_rfl) (RAnys.cons rfl ?_ (RAnys.cons rfl ?_ RAnys.nil))
          ·refine zl (r := agg (oXc r21 r22 2 1 r25.length)) (LOp.extract rfl rfl rfl) ?_
           refine zN ?_
           refine RAny.more (i0 := 8) (l := []) (by kernel_rfl) (RAnys.cons rfl ?_ RAnys.nil)
           refine zl (r := b r23) (LOp.extract rfl rfl rfl) ?_
           refine zN ?_
           refine RAny.more (i0 := 9) (l := []) (by kernel_rfl) (RAnys.cons rfl ?_ RAnys.nil)
           refine ROps.store_le (r := agg (oXc r21 r22 2 1 r25.length)) (l' := (oXc r21 r22 2 1 r25.length)) (Γ' := [⟨1, some (oXc r21 r22 2 1 r25.length)⟩, ⟨1, some (r24.map f32)⟩, ⟨1, some (r25.map f32)⟩]) rfl siz26 rfl rfl rfl aR rfl rfl rfl rfl (Nat.le_of_ble_eq_true rfl) rfl rfl ?_
           refine zN ?_
           refine RAny.more (i0 := 10) (l := []) (by kernel_rfl) (RAnys.cons rfl ?_ RAnys.nil)
           refine za (r := b r23) ?_
           refine zN ?_
           refine RAny.done (by kernel_rfl) ?_
           exact ⟨⟨aR, aR, aR, aR, aR, aR, aR, aR, aR, aR, aR, aR, aR, aR, trivial⟩, ⟨⟨rfl, .inr rfl⟩, ⟨rfl, .inr rfl⟩, ⟨rfl, .inr rfl⟩, trivial⟩⟩
          ·refine zl (r := b r23) (LOp.extract rfl rfl rfl) ?_
           refine zN ?_
           refine RAny.more (i0 := 7) (l := []) (by kernel_rfl) (RAnys.cons rfl ?_ RAnys.nil)
           refine zl (r := agg (oXc r21 r22 2 1 r25.length)) (LOp.extract rfl rfl rfl) ?_
           refine zN ?_
           refine RAny.more (i0 := 9) (l := []) (by kernel_rfl) (RAnys.cons rfl ?_ RAnys.nil)
           refine ROps.store_le (r := agg (oXc r21 r22 2 1 r25.length)) (l' := (oXc r21 r22 2 1 r25.length)) (Γ' := [⟨1, some (oXc r21 r22 2 1 r25.length)⟩, ⟨1, some (r24.map f32)⟩, ⟨1, some (r25.map f32)⟩]) rfl siz26 rfl rfl rfl aR rfl rfl rfl rfl (Nat.le_of_ble_eq_true rfl) rfl rfl ?_
           refine zN ?_
           refine RAny.more (i0 := 10) (l := []) (by kernel_rfl) (RAnys.cons rfl ?_ RAnys.nil)
           refine za (r := b r23) ?_
           refine zN ?_
           refine RAny.done (by kernel_rfl) ?_
           exact ⟨⟨aR, aR, aR, aR, aR, aR, aR, aR, aR, aR, aR, aR, aR, aR, trivial⟩, ⟨⟨rfl, .inr rfl⟩, ⟨rfl, .inr rfl⟩, ⟨rfl, .inr rfl⟩, trivial⟩⟩
         ·refine zl (r := (sFc a1)) (LOp.load1 agg24 rfl rfl) ?_
          refine zN ?_
          refine RAny.more (i0 := 1) (l := []) (by kernel_rfl) (RAnys.cons rfl ?_ RAnys.nil)
          refine ROps.d (r := i64 r12) (fs := []) (Γ' := [⟨1, some zMx⟩, ⟨0, none⟩, ⟨0, none⟩]) rfl rfl rfl (TOp.callB (CallAs.func ent71 rfl rfl) (Bors.cons (Bor.sl (fun _ => rfl)) Bors.nil) rfl rfl (i_length_float32_ok a0 r12 hf14)) rfl ?_
          refine zN ?_
          refine RAny.more (i0 := 3) (l := []) (by kernel_rfl) (RAnys.cons rfl ?_ RAnys.nil)
          refine ROps.d (r := i64 r13) (fs := []) (Γ' := [⟨1, some zMx⟩, ⟨0, none⟩, ⟨0, none⟩]) rfl rfl rfl (TOp.callB (CallAs.func ent71 rfl rfl) (Bors.cons (Bor.sl (fun _ => rfl)) Bors.nil) rfl rfl (i_length_float32_ok a1 r13 hf15)) rfl ?_
          refine zN ?_
          refine RAny.more (i0 := 5) (l := []) (by kernel_rfl) (RAnys.cons rfl ?_ RAnys.nil)
          refine ROps.d (r := agg (oXc r14 r15 1 1 r16.length)) (fs := [(1, (r16.map f32))]) (Γ' := [⟨1, some zMx⟩, ⟨1, some (r16.map f32)⟩, ⟨0, none⟩]) rfl rfl rfl (TOp.callBN (ls := [(r16.map f32)]) [1] (CallAs.func ent60 rfl rfl) (Bors.cons (Bor.pure rfl) (Bors.cons (Bor.pure rfl) (Bors.cons (Bor.fn Bors.nil (Bors.cons (Bor.ptr (Bors.cons (Bor.sl (fun _ => rfl)) Bors.nil)) (Bors.cons (Bor.ptr (Bors.cons (Bor.sl (fun _ => rfl)) Bors.nil)) Bors.nil))) Bors.nil))) rfl (i_made_2Fi_OuterMatrix_1_ok r12 r13 a0 a1 r14 r15 r16 hf16) (and_all (lts0_map (f := f32) (fun _ => rfl) _) rfl) (and_all (noss_map (f := f32) (fun _ => rfl) _) rfl) rfl (by decide) (ns_of ⟨⟨_, rfl⟩, trivial⟩)) rfl ?_
          refine zN ?_
          refine RAny.more (i0 := 6) (l := []) (by kernel_rfl) (RAnys.cons rfl ?_ RAnys.nil)
          refine ROps.callO (A := [agg (oXc r14 r15 1 1 r16.length)]) (args := [agg (oXc r14 r15 0 0 r16.length)]) (Γc := [⟨0, some (r16.map f32)⟩]) (Γc' := [⟨0, some (r24.map f32)⟩, ⟨0, some (r25.map f32)⟩]) (r' := tup [agg (oXc r21 r22 2 1 r25.length), b r23]) (Γ' := [⟨1, some zMx⟩, ⟨1, some (r24.map f32)⟩, ⟨1, some (r25.map f32)⟩]) [(1, 1)] [(2, 1)] rfl (CallAs.func ent58 rfl rfl) rfl rfl (SelOk.of (show List.Nodup [1] from by decide) (SelL.arr0 (f := f32) (fun _ => rfl) rfl trivial)) (live_of ⟨⟨_, _, rfl⟩, trivial⟩) (by simp [ren, rens, sigma, rens_f32, rens_f64, rens_i64, rens_ik, rens_str, rens_cp]) rfl (i_Matrix_valid_02o_ok1 r14 r15 r16 r21 r22 r23 r24 r25 hf17) rfl (news_of ⟨⟨_, rfl, rfl⟩, trivial⟩) (show List.Nodup [1, 2] from by decide) (by simp [ren, rens, sigma, of_decide_eq_true hn19]) (by simp [backOb, sigma, ren, rens, rens_f32, rens_f64, rens_i64, rens_ik, rens_str, rens_cp]) ?_
          refine zN ?_
          refine RAny.more (i0 := 7) (l := [8]) (by kernel_rfl) (RAnys.cons rfl ?_ (RAnys.cons rfl ?_ RAnys.nil))
          ·refine zl (r := agg (oXc r21 r22 2 1 r25.length)) (LOp.extract rfl rfl rfl) ?_
           refine zN ?_
           refine RAny.more (i0 := 8) (l := []) (by kernel_rfl) (RAnys.cons rfl ?_ RAnys.nil)
           refine zl (r := b r23) (LOp.extract rfl rfl rfl) ?_
           refine zN ?_
           refine RAny.more (i0 := 9) (l := []) (by kernel_rfl) (RAnys.cons rfl ?_ RAnys.nil)
           refine ROps.store_le (r := agg (oXc r21 r22 2 1 r25.length)) (l' := (oXc r21 r22 2 1 r25.length)) (Γ' := [⟨1, some (oXc r21 r22 2 1 r25.length)⟩, ⟨1, some (r24.map f32)⟩, ⟨1, some (r25.map f32)⟩]) rfl siz26 rfl rfl rfl aR rfl rfl rfl rfl (Nat.le_of_ble_eq_true rfl) rfl rfl ?_
           refine zN ?_
           refine RAny.more (i0 := 10) (l := []) (by kernel_rfl) (RAnys.cons rfl ?_ RAnys.nil)
           refine za (r := b r23) ?_
           refine zN ?_
           refine RAny.done (by kernel_rfl) ?_
           exact ⟨⟨aR, aR, aR, aR, aR, aR, aR, aR, aR, aR, aR, aR, aR, aR, trivial⟩, ⟨⟨rfl, .inr rfl⟩, ⟨rfl, .inr rfl⟩, ⟨rfl, .inr rfl⟩, trivial⟩⟩
          ·refine zl (r := b r23) (LOp.extract rfl rfl rfl) ?_
           refine zN ?_
           refine RAny.more (i0 := 7) (l := []) (by kernel_rfl) (RAnys.cons rfl ?_ RAnys.nil)
           refine zl (r := agg (oXc r21 r22 2 1 r25.length)) (LOp.extract rfl rfl rfl) ?_
           refine zN ?_
           refine RAny.more (i0 := 9) (l := []) (by kernel_rfl) (RAnys.cons rfl ?_ RAnys.nil)
           refine ROps.store_le (r := agg (oXc r21 r22 2 1 r25.length)) (l' := (oXc r21 r22 2 1 r25.length)) (Γ' := [⟨1, some (oXc r21 r22 2 1 r25.length)⟩, ⟨1, some (r24.map f32)⟩, ⟨1, some (r25.map f32)⟩]) rfl siz26 rfl rfl rfl aR rfl rfl rfl rfl (Nat.le_of_ble_eq_true rfl) rfl rfl ?_
           refine zN ?_
           refine RAny.more (i0 := 10) (l := []) (by kernel_rfl) (RAnys.cons rfl ?_ RAnys.nil)
           refine za (r := b r23) ?_
           refine zN ?_
           refine RAny.done (by kernel_rfl) ?_
           exact ⟨⟨aR, aR, aR, aR, aR, aR, aR, aR, aR, aR, aR, aR, aR, aR, trivial⟩, ⟨⟨rfl, .inr rfl⟩, ⟨rfl, .inr rfl⟩, ⟨rfl, .inr rfl⟩, trivial⟩⟩
        ·refine zl (r := (sFc a1)) (LOp.load1 agg24 rfl rfl) ?_
         refine zN ?_
         refine RAny.more (i0 := 0) (l := []) (by kernel_rfl) (RAnys.cons rfl ?_ RAnys.nil)
         refine zl (r := (sFc a0)) (LOp.load1 agg24 rfl rfl) ?_
         refine zN ?_
         refine RAny.more (i0 := 1) (l := []) (by kernel_rfl) (RAnys.cons rfl ?_ RAnys.nil)
         refine ROps.d (r := i64 r12) (fs := []) (Γ' := [⟨1, some zMx⟩, ⟨0, none⟩, ⟨0, none⟩]) rfl rfl rfl (TOp.callB (CallAs.func ent71 rfl rfl) (Bors.cons (Bor.sl (fun _ => rfl)) Bors.nil) rfl rfl (i_length_float32_ok a0 r12 hf14)) rfl ?_
         refine zN ?_
         refine RAny.more (i0 := 3) (l := []) (by kernel_rfl) (RAnys.cons rfl ?_ RAnys.nil)
         refine ROps.d (r := i64 r13) (fs := []) (Γ' := [⟨1, some zMx⟩, ⟨0, none⟩, ⟨0, none⟩]) rfl rfl rfl (TOp.callB (CallAs.func ent71 rfl rfl) (Bors.cons (Bor.sl (fun _ => rfl)) Bors.nil) rfl rfl (i_length_float32_ok a1 r13 hf15)) rfl ?_
         refine zN ?_
         refine RAny.more (i0 := 5) (l := []) (by kernel_rfl) (RAnys.cons rfl ?_ RAnys.nil)
         refine ROps.d (r := agg (oXc r14 r15 1 1 r16.length)) (fs := [(1, (r16.map f32))]) (Γ' := [⟨1, some zMx⟩, ⟨1, some (r16.map f32)⟩, ⟨0, none⟩]) rfl rfl rfl (TOp.callBN (ls := [(r16.map f32)]) [1] (CallAs.func ent60 rfl rfl) (Bors.cons (Bor.pure rfl) (Bors.cons (Bor.pure rfl) (Bors.cons (Bor.fn Bors.nil (Bors.cons (Bor.ptr (Bors.cons (Bor.sl (fun _ => rfl)) Bors.nil)) (Bors.cons (Bor.ptr (Bors.cons (Bor.sl (fun _ => rfl)) Bors.nil)) Bors.nil))) Bors.nil))) rfl (i_made_2Fi_OuterMatrix_1_ok r12 r13 a0 a1 r14 r15 r16 hf16) (and_all (lts0_map (f := f32) (fun _ => rfl) _) rfl) (and_all (noss_map (f := f32) (fun _ => rfl) _) rfl) rfl (by decide) (ns_of ⟨⟨_, rfl⟩, trivial⟩)) rfl ?_
         refine zN ?_
         refine RAny.more (i0 := 6) (l := []) (by kernel_rfl) (RAnys.cons rfl ?_ RAnys.nil)
         refine ROps.callO (A := [agg (oXc r14 r15 1 1 r16.length)]) (args := [agg (oXc r14 r15 0 0 r16.length)]) (Γc := [⟨0, some (r16.map f32)⟩]) (Γc' := [⟨0, some (r24.map f32)⟩, ⟨0, some (r25.map f32)⟩]) (r' := tup [agg (oXc r21 r22 2 1 r25.length), b r23]) (Γ' := [⟨1, some zMx⟩, ⟨1, some (r24.map f32)⟩, ⟨1, some (r25.map f32)⟩]) [(1, 1)] [(2, 1)] rfl (CallAs.func ent58 rfl rfl) rfl rfl (SelOk.of (show List.Nodup [1] from by decide) (SelL.arr0 (f := f32) (fun _ => rfl) rfl trivial)) (live_of ⟨⟨_, _, rfl⟩, trivial⟩) (by simp [ren, rens, sigma, rens_f32, rens_f64, rens_i64, rens_ik, rens_str, rens_cp]) rfl (i_Matrix_valid_02o_ok1 r14 r15 r16 r21 r22 r23 r24 r25 hf17) rfl (news_of ⟨⟨_, rfl, rfl⟩, trivial⟩) (show List.Nodup [1, 2] from by decide) (by simp [ren, rens, sigma, of_decide_eq_true hn19]) (by simp [backOb, sigma, ren, rens, rens_f32, rens_f64, rens_i64, rens_ik, rens_str, rens_cp]) ?_
         refine zN ?_
         refine RAny.more (i0 := 7) (l := [8]) (by kernel_rfl) (RAnys.cons rfl ?_ (RAnys.cons rfl ?_ RAnys.nil))
         ·refine zl (r := agg (oXc r21 r22 2 1 r25.length)) (LOp.extract rfl rfl rfl) ?_
          refine zN ?_
          refine RAny.more (i0 := 8) (l := []) (by kernel_rfl) (RAnys.cons rfl ?_ RAnys.nil)
          refine zl (r := b r23) (LOp.extract rfl rfl rfl) ?_
          refine zN ?_
          refine RAny.more (i0 := 9) (l := []) (by kernel_rfl) (RAnys.cons rfl ?_ RAnys.nil)
          refine ROps.store_le (r := agg (oXc r21 r22 2 1 r25.length)) (l' := (oXc r21 r22 2 1 r25.length)) (Γ' := [⟨1, some (oXc r21 r22 2 1 r25.length)⟩, ⟨1, some (r24.map f32)⟩, ⟨1, some (r25.map f32)⟩]) rfl siz26 rfl rfl rfl aR rfl rfl rfl rfl (Nat.le_of_ble_eq_true rfl) rfl rfl ?_
          refine zN ?_
          refine RAny.more (i0 := 10) (l := []) (by kernel_rfl) (RAnys.cons rfl ?_ RAnys.nil)
          refine za (r := b r23) ?_
          refine zN ?_
          refine RAny.done (by kernel_rfl) ?_
          exact ⟨⟨aR, aR, aR, aR, aR, aR, aR, aR, aR, aR, aR, aR, aR, aR, trivial⟩, ⟨⟨rfl, .inr rfl⟩, ⟨rfl, .inr rfl⟩, ⟨rfl, .inr rfl⟩, trivial⟩⟩
         ·refine zl (r := b r23) (LOp.extract rfl rfl rfl) ?_
          refine zN ?_
          refine RAny.more (i0 := 7) (l := []) (by kernel_rfl) (RAnys.cons rfl ?_ RAnys.nil)
          refine zl (r := agg (oXc r21 r22 2 1 r25.length)) (LOp.extract rfl rfl rfl) ?_
          refine zN ?_
          refine RAny.more (i0 := 9) (l := []) (by kernel_rfl) (RAnys.cons rfl ?_ RAnys.nil)
          refine ROps.store_le (r := agg (oXc r21 r22 2 1 r25.length)) (l' := (oXc r21 r22 2 1 r25.length)) (Γ' := [⟨1, some (oXc r21 r22 2 1 r25.length)⟩, ⟨1, some (r24.map f32)⟩, ⟨1, some (r25.map f32)⟩]) rfl siz26 rfl rfl rfl aR rfl rfl rfl rfl (Nat.le_of_ble_eq_true rfl) rfl rfl ?_
          refine zN ?_
          refine RAny.more (i0 := 10) (l := []) (by kernel_rfl) (RAnys.cons rfl ?_ RAnys.nil)
          refine za (r := b r23) ?_
          refine zN ?_
          refine RAny.done (by kernel_rfl) ?_
          exact ⟨⟨aR, aR, aR, aR, aR, aR, aR, aR, aR, aR, aR, aR, aR, aR, trivial⟩, ⟨⟨rfl, .inr rfl⟩, ⟨rfl, .inr rfl⟩, ⟨rfl, .inr rfl⟩, trivial⟩⟩
      ·rintro τ5 Γ5 ⟨hw5, hd5⟩
       refine RunC.wl hw5 hd5 ?_
       refine RunC.ret ?_
       have hq := Option.some.inj h
       obtain ⟨hq0, hq⟩ := Prod.mk.inj hq
       obtain ⟨hq1, hq⟩ := Prod.mk.inj hq
       obtain ⟨hq2, hq⟩ := Prod.mk.inj hq
       subst q0
       subst q1
       subst q2
       subst q3
       exact bodyQ.mk (r' := tup [agg (oXc r21 r22 2 1 r25.length), b r23]) [(2, 1)] (.inr rfl) rfl (show List.Nodup [2] from by decide) rfl rfl (Res.two rfl (RV.cell agg26 siz26 rfl rfl rfl rfl) (RV.tmp rfl)) (SelL.arr0 (f := f32) (fun _ => rfl) rfl trivial)
    ·refine RunC.regionW ?_
     refine zl (r := (sFc a0)) (LOp.load1 agg24 rfl rfl) ?_
     refine ROps.d (r := b true) (fs := []) (Γ' := [⟨1, some zMx⟩, ⟨0, none⟩, ⟨0, none⟩]) rfl rfl rfl (TOp.eqb (TOp.callB (CallAs.func ent70 rfl rfl) (Bors.cons (Bor.sl (fun _ => rfl)) Bors.nil) rfl rfl (i_IsVector_ok a0 r1 hf1)) hc2) rfl ?_
     refine zl (r := b false) (LOp.eqb (LOp.not rfl rfl) rfl) ?_
     refine zm (r := b false) ?_
     refine zl (r := (sFc a1)) (LOp.load1 agg24 rfl rfl) ?_
     refine ROps.d (r := b true) (fs := []) (Γ' := [⟨1, some zMx⟩, ⟨0, none⟩, ⟨0, none⟩]) rfl rfl rfl (TOp.eqb (TOp.callB (CallAs.func ent70 rfl rfl) (Bors.cons (Bor.sl (fun _ => rfl)) Bors.nil) rfl rfl (i_IsVector_ok a1 r2 hf3)) hc4) rfl ?_
     refine zl (r := b false) (LOp.eqb (LOp.not rfl rfl) rfl) ?_
     refine zl (r := b false) (LOp.pick_false rfl rfl rfl) ?_
     refine zm (r := b false) ?_
     refine zl (r := (sFc a0)) (LOp.load1 agg24 rfl rfl) ?_
     refine ROps.d (r := i64 r3) (fs := []) (Γ' := [⟨1, some zMx⟩, ⟨0, none⟩, ⟨0, none⟩]) rfl rfl rfl (TOp.callB (CallAs.func ent71 rfl rfl) (Bors.cons (Bor.sl (fun _ => rfl)) Bors.nil) rfl rfl (i_length_float32_ok a0 r3 hf5)) rfl ?_
     refine ROps.d (r := b true) (fs := []) (Γ' := [⟨1, some zMx⟩, ⟨0, none⟩, ⟨0, none⟩]) rfl rfl rfl (TOp.eqb (TOp.callB (CallAs.func ent59 rfl rfl) (Bors.cons (Bor.pure rfl) Bors.nil) rfl rfl (i_isSide_ok r3 r4 hf6)) hc7) rfl ?_
     refine zl (r := b false) (LOp.eqb (LOp.not rfl rfl) rfl) ?_
     refine zl (r := b false) (LOp.pick_false rfl rfl rfl) ?_
     refine zm (r := b false) ?_
     refine zl (r := (sFc a1)) (LOp.load1 agg24 rfl rfl) ?_
     refine ROps.d (r := i64 r5) (fs := []) (Γ' := [⟨1, some zMx⟩, ⟨0, none⟩, ⟨0, none⟩]) rfl rfl rfl (TOp.callB (CallAs.func ent71 rfl rfl) (Bors.cons (Bor.sl (fun _ => rfl)) Bors.nil) rfl rfl (i_length_float32_ok a1 r5 hf8)) rfl ?_
     refine ROps.d (r := b false) (fs := []) (Γ' := [⟨1, some zMx⟩, ⟨0, none⟩, ⟨0, none⟩]) rfl rfl rfl (TOp.eqb (TOp.callB (CallAs.func ent59 rfl rfl) (Bors.cons (Bor.pure rfl) Bors.nil) rfl rfl (i_isSide_ok r5 r6 hf9)) hc10) rfl ?_
     refine zl (r := b true) (LOp.eqb (LOp.not rfl rfl) rfl) ?_
     refine zl (r := b true) (LOp.pick_false rfl rfl rfl) ?_
     refine zN ?_
     refine RunC.wl (τ' := [(2, ptr [(sFc a0)]), (3, ptr [(sFc a1)]), (4, optr 0 1 0), (25, b true)]) (Γ' := [⟨1, some zMx⟩, ⟨0, none⟩, ⟨0, none⟩]) ⟨aR, aR, aR, aR, trivial⟩ ⟨⟨rfl, .inr rfl⟩, ⟨rfl, .inr rfl⟩, ⟨rfl, .inr rfl⟩, trivial⟩ ?_
     refine RunC.cond_true rfl rfl ?_
     refine zQ ?_
     refine zl (r := agg zMx) (LOp.build (qs := []) zer26 zok26 und26 plc26 rfl trivial rfl) ?_
     refine ROps.store_le (r := agg zMx) (l' := zMx) (Γ' := [⟨1, some zMx⟩, ⟨0, none⟩, ⟨0, none⟩]) rfl siz26 rfl rfl rfl aR rfl rfl rfl rfl (Nat.le_of_ble_eq_true rfl) rfl rfl ?_
     refine za (r := b false) ?_
     refine zN ?_
     refine RunC.nil_cell (l' := [i64 0, i64 0, oref 1 1 0 0]) (Γ' := [⟨1, some [i64 0, i64 0, oref 1 1 0 0]⟩, ⟨1, some (([] : List F).map f32)⟩, ⟨0, none⟩]) 0 2 1 rfl rfl rfl rfl rfl ?_
     refine RunC.ret ?_
     have hq := Option.some.inj h
     obtain ⟨hq0, hq⟩ := Prod.mk.inj hq
     obtain ⟨hq1, hq⟩ := Prod.mk.inj hq
     obtain ⟨hq2, hq⟩ := Prod.mk.inj hq
     subst q0
     subst q1
     subst q2
     subst q3
     exact bodyQ.mk (r' := tup [agg [i64 0, i64 0, oref 1 1 0 (([] : List F).length)], b false]) [(1, 1)] (.inr rfl) rfl (show List.Nodup [1] from by decide) rfl rfl (Res.eq (Res.two rfl (RV.cell agg26 siz26 rfl rfl rfl rfl) (RV.tmp rfl)) (by rw [(show ([] : List F).length = 0 from rfl)] <;> rfl)) (SelL.arr0 (f := f32) (fun _ => rfl) rfl trivial)
   ·refine RunC.regionW ?_
    refine zl (r := (sFc a0)) (LOp.load1 agg24 rfl rfl) ?_
    refine ROps.d (r := b true) (fs := []) (Γ' := [⟨1, some zMx⟩, ⟨0, none⟩, ⟨0, none⟩]) rfl rfl rfl (TOp.eqb (TOp.callB (CallAs.func ent70 rfl rfl) (Bors.cons (Bor.sl (fun _ => rfl)) Bors.nil) rfl rfl (i_IsVector_ok a0 r1 hf1)) hc2) rfl ?_
    refine zl (r := b false) (LOp.eqb (LOp.not rfl rfl) rfl) ?_
    refine zm (r := b false) ?_
    refine zl (r := (sFc a1)) (LOp.load1 agg24 rfl rfl) ?_
    refine ROps.d (r := b true) (fs := []) (Γ' := [⟨1, some zMx⟩, ⟨0, none⟩, ⟨0, none⟩]) rfl rfl rfl (TOp.eqb (TOp.callB (CallAs.func ent70 rfl rfl) (Bors.cons (Bor.sl (fun _ => rfl)) Bors.nil) rfl rfl (i_IsVector_ok a1 r2 hf3)) hc4) rfl ?_
    refine zl (r := b false) (LOp.eqb (LOp.not rfl rfl) rfl) ?_
    refine zl (r := b false) (LOp.pick_false rfl rfl rfl) ?_
    refine zm (r := b false) ?_
    refine zl (r := (sFc a0)) (LOp.load1 agg24 rfl rfl) ?_
    refine ROps.d (r := i64 r3) (fs := []) (Γ' := [⟨1, some zMx⟩, ⟨0, none⟩, ⟨0, none⟩]) rfl rfl rfl (TOp.callB (CallAs.func ent71 rfl rfl) (Bors.cons (Bor.sl (fun _ => rfl)) Bors.nil) rfl rfl (i_length_float32_ok a0 r3 hf5)) rfl ?_
    refine ROps.d (r := b false) (fs := []) (Γ' := [⟨1, some zMx⟩, ⟨0, none⟩, ⟨0, none⟩]) rfl rfl rfl (TOp.eqb (TOp.callB (CallAs.func ent59 rfl rfl) (Bors.cons (Bor.pure rfl) Bors.nil) rfl rfl (i_isSide_ok r3 r4 hf6)) hc7) rfl ?_
    refine zl (r := b true) (LOp.eqb (LOp.not rfl rfl) rfl) ?_
    refine zl (r := b true) (LOp.pick_false rfl rfl rfl) ?_
    refine zm (r := b true) ?_
    iterate 4 (refine ROps.s rfl rfl rfl ?_)
    refine zl (r := b true) (LOp.pick_true rfl rfl rfl) ?_
    refine zN ?_
    refine RunC.wl (τ' := [(2, ptr [(sFc a0)]), (3, ptr [(sFc a1)]), (4, optr 0 1 0), (25, b true)]) (Γ' := [⟨1, some zMx⟩, ⟨0, none⟩, ⟨0, none⟩]) ⟨aR, aR, aR, aR, trivial⟩ ⟨⟨rfl, .inr rfl⟩, ⟨rfl, .inr rfl⟩, ⟨rfl, .inr rfl⟩, trivial⟩ ?_
    refine RunC.cond_true rfl rfl ?_
    refine zQ ?_
    refine zl (r := agg zMx) (LOp.build (qs := []) zer26 zok26 und26 plc26 rfl trivial rfl) ?_
    refine ROps.store_le (r := agg zMx) (l' := zMx) (Γ' := [⟨1, some zMx⟩, ⟨0, none⟩, ⟨0, none⟩]) rfl siz26 rfl rfl rfl aR rfl rfl rfl rfl (Nat.le_of_ble_eq_true rfl) rfl rfl ?_
    refine za (r := b false) ?_
    refine zN ?_
    refine RunC.nil_cell (l' := [i64 0, i64 0, oref 1 1 0 0]) (Γ' := [⟨1, some [i64 0, i64 0, oref 1 1 0 0]⟩, ⟨1, some (([] : List F).map f32)⟩, ⟨0, none⟩]) 0 2 1 rfl rfl rfl rfl rfl ?_
    refine RunC.ret ?_
    have hq := Option.some.inj h
    obtain ⟨hq0, hq⟩ := Prod.mk.inj hq
    obtain ⟨hq1, hq⟩ := Prod.mk.inj hq
    obtain ⟨hq2, hq⟩ := Prod.mk.inj hq
    subst q0
    subst q1
    subst q2
    subst q3
    exact bodyQ.mk (r' := tup [agg [i64 0, i64 0, oref 1 1 0 (([] : List F).length)], b false]) [(1, 1)] (.inr rfl) rfl (show List.Nodup [1] from by decide) rfl rfl (Res.eq (Res.two rfl (RV.cell agg26 siz26 rfl rfl rfl rfl) (RV.tmp rfl)) (by rw [(show ([] : List F).length = 0 from rfl)] <;> rfl)) (SelL.arr0 (f := f32) (fun _ => rfl) rfl trivial)
  ·refine RunC.regionW ?_
   refine zl (r := (sFc a0)) (LOp.load1 agg24 rfl rfl) ?_
   refine ROps.d (r := b true) (fs := []) (Γ' := [⟨1, some zMx⟩, ⟨0, none⟩, ⟨0, none⟩]) rfl rfl rfl (TOp.eqb (TOp.callB (CallAs.func ent70 rfl rfl) (Bors.cons (Bor.sl (fun _ => rfl)) Bors.nil) rfl rfl (i_IsVector_ok a0 r1 hf1)) hc2) rfl ?_
   refine zl (r := b false) (LOp.eqb (LOp.not rfl rfl) rfl) ?_
   refine zm (r := b false) ?_
   refine zl (r := (sFc a1)) (LOp.load1 agg24 rfl rfl) ?_
   refine ROps.d (r := b false) (fs := []) (Γ' := [⟨1, some zMx⟩, ⟨0, none⟩, ⟨0, none⟩]) rfl rfl rfl (TOp.eqb (TOp.callB (CallAs.func ent70 rfl rfl) (Bors.cons (Bor.sl (fun _ => rfl)) Bors.nil) rfl rfl (i_IsVector_ok a1 r2 hf3)) hc4) rfl ?_
   refine zl (r := b true) (LOp.eqb (LOp.not rfl rfl) rfl) ?_
   refine zl (r := b true) (LOp.pick_false rfl rfl rfl) ?_
   iterate 2 (refine zm (r := b true) ?_; refine ROps.s rfl rfl rfl ?_; refine ROps.s rfl rfl rfl ?_; refine ROps.s rfl rfl rfl ?_; refine ROps.s rfl rfl rfl ?_; refine zl (r := b true) (LOp.pick_true rfl rfl rfl) ?_)
   refine zN ?_
   refine RunC.wl (τ' := [(2, ptr [(sFc a0)]), (3, ptr [(sFc a1)]), (4, optr 0 1 0), (25, b true)]) (Γ' := [⟨1, some zMx⟩, ⟨0, none⟩, ⟨0, none⟩]) ⟨aR, aR, aR, aR, trivial⟩ ⟨⟨rfl, .inr rfl⟩, ⟨rfl, .inr rfl⟩, ⟨rfl, .inr rfl⟩, trivial⟩ ?_
   refine RunC.cond_true rfl rfl ?_
   refine zQ ?_
   refine zl (r := agg zMx) (LOp.build (qs := []) zer26 zok26 und26 plc26 rfl trivial rfl) ?_
   refine ROps.store_le (r := agg zMx) (l' := zMx) (Γ' := [⟨1, some zMx⟩, ⟨0, none⟩, ⟨0, none⟩]) rfl siz26 rfl rfl rfl aR rfl rfl rfl rfl (Nat.le_of_ble_eq_true rfl) rfl rfl ?_
   refine za (r := b false) ?_
   refine zN ?_
   refine RunC.nil_cell (l' := [i64 0, i64 0, oref 1 1 0 0]) (Γ' := [⟨1, some [i64 0, i64 0, oref 1 1 0 0]⟩, ⟨1, some (([] : List F).map f32)⟩, ⟨0, none⟩]) 0 2 1 rfl rfl rfl rfl rfl ?_
   refine RunC.ret ?_
   have hq := Option.some.inj h
   obtain ⟨hq0, hq⟩ := Prod.mk.inj hq
   obtain ⟨hq1, hq⟩ := Prod.mk.inj hq
   obtain ⟨hq2, hq⟩ := Prod.mk.inj hq
   subst q0
   subst q1
   subst q2
   subst q3
   exact bodyQ.mk (r' := tup [agg [i64 0, i64 0, oref 1 1 0 (([] : List F).length)], b false]) [(1, 1)] (.inr rfl) rfl (show List.Nodup [1] from by decide) rfl rfl (Res.eq (Res.two rfl (RV.cell agg26 siz26 rfl rfl rfl rfl) (RV.tmp rfl)) (by rw [(show ([] : List F).length = 0 from rfl)] <;> rfl)) (SelL.arr0 (f := f32) (fun _ => rfl) rfl trivial)
 ·refine RunC.regionW ?_
  refine zl (r := (sFc a0)) (LOp.load1 agg24 rfl rfl) ?_
  refine ROps.d (r := b false) (fs := []) (Γ' := [⟨1, some zMx⟩, ⟨0, none⟩, ⟨0, none⟩]) rfl rfl rfl (TOp.eqb (TOp.callB (CallAs.func ent70 rfl rfl) (Bors.cons (Bor.sl (fun _ => rfl)) Bors.nil) rfl rfl (i_IsVector_ok a0 r1 hf1)) hc2) rfl ?_
  refine zl (r := b true) (LOp.eqb (LOp.not rfl rfl) rfl) ?_
  refine zm (r := b true) ?_
  iterate 2 (refine ROps.s rfl rfl rfl ?_; refine ROps.s rfl rfl rfl ?_; refine ROps.s rfl rfl rfl ?_; refine zl (r := b true) (LOp.pick_true rfl rfl rfl) ?_; refine zm (r := b true) ?_; refine ROps.s rfl rfl rfl ?_)
  iterate 3 (refine ROps.s rfl rfl rfl ?_)
  refine zl (r := b true) (LOp.pick_true rfl rfl rfl) ?_
  refine zN ?_
  refine RunC.wl (τ' := [(2, ptr [(sFc a0)]), (3, ptr [(sFc a1)]), (4, optr 0 1 0), (25, b true)]) (Γ' := [⟨1, some zMx⟩, ⟨0, none⟩, ⟨0, none⟩]) ⟨aR, aR, aR, aR, trivial⟩ ⟨⟨rfl, .inr rfl⟩, ⟨rfl, .inr rfl⟩, ⟨rfl, .inr rfl⟩, trivial⟩ ?_
  refine RunC.cond_true rfl rfl ?_
  refine zQ ?_
  refine zl (r := agg zMx) (LOp.build (qs := []) zer26 zok26 und26 plc26 rfl trivial rfl) ?_
  refine ROps.store_le (r := agg zMx) (l' := zMx) (Γ' := [⟨1, some zMx⟩, ⟨0, none⟩, ⟨0, none⟩]) rfl siz26 rfl rfl rfl aR rfl rfl rfl rfl (Nat.le_of_ble_eq_true rfl) rfl rfl ?_
  refine za (r := b false) ?_
  refine zN ?_
  refine RunC.nil_cell (l' := [i64 0, i64 0, oref 1 1 0 0]) (Γ' := [⟨1, some [i64 0, i64 0, oref 1 1 0 0]⟩, ⟨1, some (([] : List F).map f32)⟩, ⟨0, none⟩]) 0 2 1 rfl rfl rfl rfl rfl ?_
  refine RunC.ret ?_
  have hq := Option.some.inj h
  obtain ⟨hq0, hq⟩ := Prod.mk.inj hq
  obtain ⟨hq1, hq⟩ := Prod.mk.inj hq
  obtain ⟨hq2, hq⟩ := Prod.mk.inj hq
  subst q0
  subst q1
  subst q2
  subst q3
  exact bodyQ.mk (r' := tup [agg [i64 0, i64 0, oref 1 1 0 (([] : List F).length)], b false]) [(1, 1)] (.inr rfl) rfl (show List.Nodup [1] from by decide) rfl rfl (Res.eq (Res.two rfl (RV.cell agg26 siz26 rfl rfl rfl rfl) (RV.tmp rfl)) (by rw [(show ([] : List F).length = 0 from rfl)] <;> rfl)) (SelL.arr0 (f := f32) (fun _ => rfl) rfl trivial)
noncomputable def i_KroneckerMatrix_1 (a0 : Int) (a1 : Int) (a2 : Int) (a3 : Int) (a4 : List F) (a5 : Int) (a6 : Int) (a7 : List F) : Option (F) :=
 need (!decide (a5 = 0)) <|
 olet (IntKind.i64.wrap (a0.tdiv a5)) fun (x1 : Int) =>
 need (!decide (a6 = 0)) <|
 olet (IntKind.i64.wrap (a1.tdiv a6)) fun (x2 : Int) =>
 obind (i_Matrix_at a2 a3 a4 x1 x2) fun (r3 : F) =>
 need (!decide (a5 = 0)) <|
 olet (a0.tmod a5) fun (x4 : Int) =>
 need (!decide (a6 = 0)) <|
 olet (a1.tmod a6) fun (x5 : Int) =>
 obind (i_Matrix_at a5 a6 a7 x4 x5) fun (r6 : F) =>
 obind (i_mul r3 r6) fun (r7 : F) =>
 some r7
theorem i_KroneckerMatrix_1_ok (a0 : Int) (a1 : Int) (a2 : Int) (a3 : Int) (a4 : List F) (a5 : Int) (a6 : Int) (a7 : List F) (q0 : F) (h : i_KroneckerMatrix_1 a0 a1 a2 a3 a4 a5 a6 a7 = some q0) : Ev Try.prog 121 [i64 a0, i64 a1, ptr (mXc a2 a3 a4), ptr (mXc a5 a6 a7)] [] (f32 q0) [] := by
 refine Ev.start Try.func121 rfl rfl 0 (τ := [(0, i64 a0), (1, i64 a1), (2, ptr (mXc a2 a3 a4)), (3, ptr (mXc a5 a6 a7))]) rfl (Γ' := []) rfl (n := 57) rfl (g := 0) rfl (fun _ => rfl) ?_
 unfold i_KroneckerMatrix_1 at h
 refine zQ ?_
 refine zl (r := f32 (some 0)) (LOp.le (LOp.assign rfl rfl) (ALe.fl (by kernel_rfl) (by kernel_rfl))) ?_
 refine zN ?_
 refine RunC.seq ?_
 obtain ⟨hz1, h⟩ := need_some h
 obtain ⟨x1, hx2, h⟩ := olet_some h
 obtain ⟨hz3, h⟩ := need_some h
 obtain ⟨x2, hx4, h⟩ := olet_some h
 obtain ⟨r3, hf5, h⟩ := obind_some h
 obtain ⟨hz6, h⟩ := need_some h
 obtain ⟨x4, hx7, h⟩ := olet_some h
 obtain ⟨hz8, h⟩ := need_some h
 obtain ⟨x5, hx9, h⟩ := olet_some h
 obtain ⟨r6, hf10, h⟩ := obind_some h
 obtain ⟨r7, hf11, h⟩ := obind_some h
 refine RunC.region_draw (Γ' := []) 22 mixed 
  (TR.l (r := agg (mXc a2 a3 a4)) rfl rfl (LOp.loadAgg agg26 siz26 rfl rfl rfl rfl) <|
  (TR.l (r := i64 a0) rfl rfl (LOp.move rfl rfl) <|
  (TR.l (r := ptr (mXc a5 a6 a7)) rfl rfl (LOp.fap und26 rfl siz2 rfl rfl rfl) <|
  (TR.l (r := i64 a5) rfl rfl (LOp.load1 agg2 rfl rfl) <|
  (TR.l (r := i64 x1) rfl rfl (LOp.eqr (LOp.quo rfl rfl rfl (nz hz1)) (congrArg (ik .i64) hx2)) <|
  (TR.l (r := i64 a1) rfl rfl (LOp.move rfl rfl) <|
  (TR.l (r := ptr [i64 a6, (sFc a7)]) rfl rfl (LOp.fap und26 rfl siz2 rfl rfl rfl) <|
  (TR.l (r := i64 a6) rfl rfl (LOp.load1 agg2 rfl rfl) <|
  (TR.l (r := i64 x2) rfl rfl (LOp.eqr (LOp.quo rfl rfl rfl (nz hz3)) (congrArg (ik .i64) hx4)) <|
  (TR.d (r := f32 r3) (fs := []) rfl rfl (TOp.callB (CallAs.func ent76 rfl rfl) (Bors.cons (Bor.agg (Bors.cons (Bor.pure rfl) (Bors.cons (Bor.pure rfl) (Bors.cons (Bor.sl (fun _ => rfl)) Bors.nil)))) (Bors.cons (Bor.pure rfl) (Bors.cons (Bor.pure rfl) Bors.nil))) rfl rfl (i_Matrix_at_ok a2 a3 a4 x1 x2 r3 hf5)) <|
  (TR.l (r := agg (mXc a5 a6 a7)) rfl rfl (LOp.loadAgg agg26 siz26 rfl rfl rfl rfl) <|
  (TR.l (r := i64 a0) rfl rfl (LOp.move rfl rfl) <|
  (TR.l (r := ptr (mXc a5 a6 a7)) rfl rfl (LOp.fap und26 rfl siz2 rfl rfl rfl) <|
  (TR.l (r := i64 a5) rfl rfl (LOp.load1 agg2 rfl rfl) <|
  (TR.l (r := i64 x4) rfl rfl (LOp.eqr (LOp.rem rfl rfl rfl (nz hz6)) (congrArg (ik .i64) hx7)) <|
  (TR.l (r := i64 a1) rfl rfl (LOp.move rfl rfl) <|
  (TR.l (r := ptr [i64 a6, (sFc a7)]) rfl rfl (LOp.fap und26 rfl siz2 rfl rfl rfl) <|
  (TR.l (r := i64 a6) rfl rfl (LOp.load1 agg2 rfl rfl) <|
  (TR.l (r := i64 x5) rfl rfl (LOp.eqr (LOp.rem rfl rfl rfl (nz hz8)) (congrArg (ik .i64) hx9)) <|
  (TR.d (r := f32 r6) (fs := []) rfl rfl (TOp.callB (CallAs.func ent76 rfl rfl) (Bors.cons (Bor.agg (Bors.cons (Bor.pure rfl) (Bors.cons (Bor.pure rfl) (Bors.cons (Bor.sl (fun _ => rfl)) Bors.nil)))) (Bors.cons (Bor.pure rfl) (Bors.cons (Bor.pure rfl) Bors.nil))) rfl rfl (i_Matrix_at_ok a5 a6 a7 x4 x5 r6 hf10)) <|
  (TR.d (r := f32 r7) (fs := []) rfl rfl (TOp.callB (CallAs.func ent109 rfl rfl) (Bors.cons (Bor.pure rfl) (Bors.cons (Bor.pure rfl) Bors.nil)) rfl rfl (i_mul_ok r3 r6 r7 hf11)) <|
  (TR.l (r := f32 r7) rfl rfl (LOp.assign rfl rfl) <|
  TR.nil)))))))))))))))))))))) rfl (by kernel_rfl) rfl fills_nil rfl ?_
 iterate 22 refine ROps.dropS ?_
 refine ROps.drop0 ?_
 refine zN ?_
 refine RunC.ret ?_
 have hq := Option.some.inj h
 subst q0
 exact bodyQ.pure (.inr rfl) rfl (Res.one rfl (RV.tmp rfl))
noncomputable def i_made_2Fi_KroneckerMatrix_1_b2 (a1 : Int) (a2 : Int) (a3 : Int) (a4 : List F) (a5 : Int) (a6 : Int) (a7 : List F) (r1 : Int) (r2 : Int) (r3 : List F) (v6 : Int) (L7 : List F) (v9 : Int) : Option (LR ((List F) × Int) ((List F)) (Int × Int × (List F))) :=
 bsel (decide (v9 < a1)) (
  obind (i_KroneckerMatrix_1 v6 v9 a2 a3 a4 a5 a6 a7) fun (r11 : F) =>
  obind (i_Matrix_set_02o r1 r2 v6 v9 r11 L7) fun (r12 : List F) =>
  need (decide (r12.length = r3.length)) <|
  olet (IntKind.i64.wrap (v9 + 1)) fun (x13 : Int) =>
  some (LR.next (r12, x13))) (
  some (LR.out L7))
noncomputable def i_made_2Fi_KroneckerMatrix_1_s2 (a1 : Int) (a2 : Int) (a3 : Int) (a4 : List F) (a5 : Int) (a6 : Int) (a7 : List F) (r1 : Int) (r2 : Int) (r3 : List F) (v6 : Int) : ((List F) × Int) → Option (LR ((List F) × Int) ((List F)) (Int × Int × (List F))) := fun s => i_made_2Fi_KroneckerMatrix_1_b2 a1 a2 a3 a4 a5 a6 a7 r1 r2 r3 v6 s.1 s.2
noncomputable def i_made_2Fi_KroneckerMatrix_1_k2 (v6 : Int) (L14 : List F) : Option (LR ((List F) × Int) ((List F)) (Int × Int × (List F))) :=
 olet (IntKind.i64.wrap (v6 + 1)) fun (x16 : Int) =>
 some (LR.next (L14, x16))
noncomputable def i_made_2Fi_KroneckerMatrix_1_b3 (a0 : Int) (a1 : Int) (a2 : Int) (a3 : Int) (a4 : List F) (a5 : Int) (a6 : Int) (a7 : List F) (r1 : Int) (r2 : Int) (r3 : List F) (L4 : List F) (v6 : Int) : Option (LR ((List F) × Int) ((List F)) (Int × Int × (List F))) :=
 bsel (decide (v6 < a0)) (
  obind (loopM (i_made_2Fi_KroneckerMatrix_1_s2 a1 a2 a3 a4 a5 a6 a7 r1 r2 r3 v6) (L4, 0)) fun z => osum z (fun e => i_made_2Fi_KroneckerMatrix_1_k2 v6 e) (fun r => some (LR.ret r))) (
  some (LR.out L4))
noncomputable def i_made_2Fi_KroneckerMatrix_1_s3 (a0 : Int) (a1 : Int) (a2 : Int) (a3 : Int) (a4 : List F) (a5 : Int) (a6 : Int) (a7 : List F) (r1 : Int) (r2 : Int) (r3 : List F) : ((List F) × Int) → Option (LR ((List F) × Int) ((List F)) (Int × Int × (List F))) := fun s => i_made_2Fi_KroneckerMatrix_1_b3 a0 a1 a2 a3 a4 a5 a6 a7 r1 r2 r3 s.1 s.2
noncomputable def i_made_2Fi_KroneckerMatrix_1_k3 (r1 : Int) (r2 : Int) (L17 : List F) : Option (Int × Int × (List F)) :=
 some (r1, r2, L17)
noncomputable def i_made_2Fi_KroneckerMatrix_1 (a0 : Int) (a1 : Int) (a2 : Int) (a3 : Int) (a4 : List F) (a5 : Int) (a6 : Int) (a7 : List F) : Option (Int × Int × (List F)) :=
 obind3 (i_newMatrix a0 a1) fun (r1 : Int) (r2 : Int) (r3 : List F) =>
 obind (loopM (i_made_2Fi_KroneckerMatrix_1_s3 a0 a1 a2 a3 a4 a5 a6 a7 r1 r2 r3) (r3, 0)) fun z => osum z (fun e => i_made_2Fi_KroneckerMatrix_1_k3 r1 r2 e) (fun r => some r)
theorem i_made_2Fi_KroneckerMatrix_1_ok (a0 : Int) (a1 : Int) (a2 : Int) (a3 : Int) (a4 : List F) (a5 : Int) (a6 : Int) (a7 : List F) (q0 : Int) (q1 : Int) (q2 : List F) (h : i_made_2Fi_KroneckerMatrix_1 a0 a1 a2 a3 a4 a5 a6 a7 = some (q0, q1, q2)) : Ev Try.prog 60 [i64 a0, i64 a1, fn (.func 121) [] [ptr (mXc a2 a3 a4), ptr (mXc a5 a6 a7)]] [] (agg (oXc q0 q1 0 0 q2.length)) [⟨0, some (q2.map f32)⟩] := by
 refine Ev.start Try.func60 rfl rfl 3 (τ := [(0, i64 a0), (1, i64 a1), (2, fn (.func 121) [] [ptr (mXc a2 a3 a4), ptr (mXc a5 a6 a7)])]) rfl (Γ' := [⟨0, none⟩, ⟨0, none⟩, ⟨0, none⟩]) rfl (n := 65) rfl (g := 0) rfl (fun _ => rfl) ?_
 unfold i_made_2Fi_KroneckerMatrix_1 at h
 refine zQ ?_
 refine ROps.d (r := optr 0 1 0) (fs := [(0, zMx)]) (Γ' := [⟨1, some zMx⟩, ⟨0, none⟩, ⟨0, none⟩]) rfl rfl rfl (TOp.alloc_o (g := ⟨0, none⟩) 0 rfl zer26 zok26 rfl) rfl ?_
 refine zN ?_
 refine RunC.seq ?_
 obtain ⟨r1, r2, r3, hf1, h⟩ := obind3_some h
 refine RunC.regionW ?_
 refine zm (r := i64 a0) ?_
 refine zm (r := i64 a1) ?_
 refine ROps.d (r := agg (oXc r1 r2 1 1 r3.length)) (fs := [(1, (r3.map f32))]) (Γ' := [⟨1, some zMx⟩, ⟨1, some (r3.map f32)⟩, ⟨0, none⟩]) rfl rfl rfl (TOp.callBN (ls := [(r3.map f32)]) [1] (CallAs.func ent126 rfl rfl) (Bors.cons (Bor.pure rfl) (Bors.cons (Bor.pure rfl) Bors.nil)) rfl (i_newMatrix_ok a0 a1 r1 r2 r3 hf1) (and_all (lts0_map (f := f32) (fun _ => rfl) _) rfl) (and_all (noss_map (f := f32) (fun _ => rfl) _) rfl) rfl (by decide) (ns_of ⟨⟨_, rfl⟩, trivial⟩)) rfl ?_
 refine ROps.d (r := optr 2 1 0) (fs := [(2, zMx)]) (Γ' := [⟨1, some zMx⟩, ⟨1, some (r3.map f32)⟩, ⟨1, some zMx⟩]) rfl rfl rfl (TOp.alloc_o (g := ⟨0, none⟩) 2 rfl zer26 zok26 rfl) rfl ?_
 refine ROps.store_le (r := agg (oXc r1 r2 1 1 r3.length)) (l' := (oXc r1 r2 1 1 r3.length)) (Γ' := [⟨1, some zMx⟩, ⟨1, some (r3.map f32)⟩, ⟨1, some (oXc r1 r2 1 1 r3.length)⟩]) rfl siz26 rfl rfl rfl aR rfl rfl rfl rfl (Nat.le_of_ble_eq_true rfl) rfl rfl ?_
 refine zN ?_
 refine RunC.seq ?_
 refine zQ ?_
 refine zm (r := i64 a0) ?_
 refine zm (r := i64 0) ?_
 refine zN ?_
 obtain ⟨z4, hz_4, h⟩ := obind_some h
 refine RunC.cutN (fun τ Γ => ∃ (L17 : List F), L17.length = r3.length ∧ WeakLe τ [(6, optr 0 1 0), (7, optr 2 1 0)] ∧ DeadLe Γ [⟨1, some zMx⟩, ⟨1, some (L17.map f32)⟩, ⟨1, some (oXc r1 r2 1 1 r3.length)⟩] ∧ z4 = .inl L17) ?_ ?_
 ·refine RunC.block (RunC.loop (RunL.loopM (x := z4) (i_made_2Fi_KroneckerMatrix_1_s3 a0 a1 a2 a3 a4 a5 a6 a7 r1 r2 r3) (fun (s : (List F) × Int) τ Γ => s.1.length = r3.length ∧ WeakLe τ [(1, i64 a1), (2, fn (.func 121) [] [ptr (mXc a2 a3 a4), ptr (mXc a5 a6 a7)]), (6, optr 0 1 0), (7, optr 2 1 0), (13, i64 a0), (14, i64 s.2)] ∧ DeadLe Γ [⟨1, some zMx⟩, ⟨1, some (s.1.map f32)⟩, ⟨1, some (oXc r1 r2 1 1 r3.length)⟩]) ?_ _ _ _ hz_4 ⟨rfl, ⟨aR, aR, aR, aR, aR, aR, trivial⟩, ⟨⟨rfl, .inr rfl⟩, ⟨rfl, .inr rfl⟩, ⟨rfl, .inr rfl⟩, trivial⟩⟩))
  rintro ⟨L4, v6⟩ τ4 Γ4 y4_ ⟨hl5, hw4, hd4⟩ h4_ ho4 hr4
  refine RunC.wl (τ' := [(1, i64 a1), (2, fn (.func 121) [] [ptr (mXc a2 a3 a4), ptr (mXc a5 a6 a7)]), (6, optr 0 1 0), (7, optr 2 1 0), (13, i64 a0), (14, i64 v6)]) (Γ' := [⟨1, some zMx⟩, ⟨1, some (L4.map f32)⟩, ⟨1, some (oXc r1 r2 1 1 r3.length)⟩]) hw4 hd4 ?_
  replace hl5 : L4.length = r3.length := hl5
  replace h4_ : i_made_2Fi_KroneckerMatrix_1_b3 a0 a1 a2 a3 a4 a5 a6 a7 r1 r2 r3 L4 v6 = some y4_ := h4_
  unfold i_made_2Fi_KroneckerMatrix_1_b3 at h4_
  refine RunC.seq ?_
  rcases bsel_some h4_ with ⟨hc2, h4_⟩ | ⟨hc2, h4_⟩
  ·refine RunC.regionW ?_
   refine zl (r := b true) (LOp.eqb (LOp.lss rfl rfl rfl) hc2) ?_
   refine zN ?_
   refine RunC.seq ?_
   refine RunC.cond_true rfl rfl ?_
   refine RunC.skip ?_
   refine RunC.seq ?_
   refine RunC.block ?_
   refine zQ ?_
   refine zm (r := i64 v6) ?_
   refine za (r := i64 v6) ?_
   refine zN ?_
   refine zQ ?_
   refine zm (r := i64 a1) ?_
   refine zm (r := i64 0) ?_
   refine zN ?_
   obtain ⟨z5, hz_5, h4_⟩ := obind_some h4_
   refine RunC.cutN (fun τ Γ => ∃ (L14 : List F), L14.length = r3.length ∧ WeakLe τ [(1, i64 a1), (2, fn (.func 121) [] [ptr (mXc a2 a3 a4), ptr (mXc a5 a6 a7)]), (6, optr 0 1 0), (7, optr 2 1 0), (13, i64 a0), (14, i64 v6)] ∧ DeadLe Γ [⟨1, some zMx⟩, ⟨1, some (L14.map f32)⟩, ⟨1, some (oXc r1 r2 1 1 r3.length)⟩] ∧ z5 = .inl L14) ?_ ?_
   ·refine RunC.block (RunC.loop (RunL.loopM (x := z5) (i_made_2Fi_KroneckerMatrix_1_s2 a1 a2 a3 a4 a5 a6 a7 r1 r2 r3 v6) (fun (s : (List F) × Int) τ Γ => s.1.length = r3.length ∧ WeakLe τ [(1, i64 a1), (2, fn (.func 121) [] [ptr (mXc a2 a3 a4), ptr (mXc a5 a6 a7)]), (6, optr 0 1 0), (7, optr 2 1 0), (8, i64 v6), (13, i64 a0), (14, i64 v6), (17, i64 a1), (18, i64 s.2)] ∧ DeadLe Γ [⟨1, some zMx⟩, ⟨1, some (s.1.map f32)⟩, ⟨1, some (oXc r1 r2 1 1 r3.length)⟩]) ?_ _ _ _ hz_5 ⟨hl5, ⟨aR, aR, aR, aR, aR, aR, aR, aR, aR, trivial⟩, ⟨⟨rfl, .inr rfl⟩, ⟨rfl, .inr rfl⟩, ⟨rfl, .inr rfl⟩, trivial⟩⟩))
    rintro ⟨L7, v9⟩ τ5 Γ5 y5_ ⟨hl8, hw5, hd5⟩ h5_ ho5 hr5
    refine RunC.wl (τ' := [(1, i64 a1), (2, fn (.func 121) [] [ptr (mXc a2 a3 a4), ptr (mXc a5 a6 a7)]), (6, optr 0 1 0), (7, optr 2 1 0), (8, i64 v6), (13, i64 a0), (14, i64 v6), (17, i64 a1), (18, i64 v9)]) (Γ' := [⟨1, some zMx⟩, ⟨1, some (L7.map f32)⟩, ⟨1, some (oXc r1 r2 1 1 r3.length)⟩]) hw5 hd5 ?_
    replace hl8 : L7.length = r3.length := hl8
    replace h5_ : i_made_2Fi_KroneckerMatrix_1_b2 a1 a2 a3 a4 a5 a6 a7 r1 r2 r3 v6 L7 v9 = some y5_ := h5_
    unfold i_made_2Fi_KroneckerMatrix_1_b2 at h5_
    refine RunC.seq ?_
    rcases bsel_some h5_ with ⟨hc3, h5_⟩ | ⟨hc3, h5_⟩
    ·refine RunC.regionW ?_
     refine zl (r := b true) (LOp.eqb (LOp.lss rfl rfl rfl) hc3) ?_
     refine zN ?_
     refine RunC.seq ?_
     refine RunC.cond_true rfl rfl ?_
     refine RunC.skip ?_
     refine RunC.seq ?_
     refine RunC.block ?_
     refine zQ ?_
     refine zm (r := i64 v9) ?_
     refine za (r := i64 v9) ?_
     refine zN ?_
     obtain ⟨r11, hf5, h5_⟩ := obind_some h5_
     obtain ⟨r12, hf6, h5_⟩ := obind_some h5_
     obtain ⟨hn7, h5_⟩ := need_some h5_
     refine RunC.region_draw (Γ' := [⟨1, some zMx⟩, ⟨1, some (L7.map f32)⟩, ⟨1, some (oXc r1 r2 1 1 r3.length)⟩]) 7 mixed 
      (TR.d (r := agg (oXc r1 r2 1 1 r3.length)) (fs := []) rfl rfl (TOp.loadAgg_o rfl agg26 siz26 rfl rfl rfl rfl) <|
      (TR.l (r := i64 v6) rfl rfl (LOp.move rfl rfl) <|
      (TR.l (r := i64 v9) rfl rfl (LOp.move rfl rfl) <|
      (TR.l (r := fn (.func 121) [] [ptr (mXc a2 a3 a4), ptr (mXc a5 a6 a7)]) rfl rfl (LOp.move rfl rfl) <|
      (TR.l (r := i64 v6) rfl rfl (LOp.move rfl rfl) <|
      (TR.l (r := i64 v9) rfl rfl (LOp.move rfl rfl) <|
      (TR.d (r := f32 r11) (fs := []) rfl rfl (TOp.callB (CallAs.fn ent121 rfl rfl rfl rfl) (Bors.cons (Bor.pure rfl) (Bors.cons (Bor.pure rfl) (Bors.cons (Bor.ptr (Bors.cons (Bor.pure rfl) (Bors.cons (Bor.pure rfl) (Bors.cons (Bor.sl (fun _ => rfl)) Bors.nil)))) (Bors.cons (Bor.ptr (Bors.cons (Bor.pure rfl) (Bors.cons (Bor.pure rfl) (Bors.cons (Bor.sl (fun _ => rfl)) Bors.nil)))) Bors.nil)))) rfl rfl (i_KroneckerMatrix_1_ok v6 v9 a2 a3 a4 a5 a6 a7 r11 hf5)) <|
      TR.nil))))))) rfl (by kernel_rfl) rfl fills_nil rfl ?_
     iterate 7 refine ROps.dropS ?_
     refine ROps.drop0 ?_
     refine ROps.callO (A := [agg (oXc r1 r2 1 1 r3.length), i64 v6, i64 v9, f32 r11]) (args := [agg (oXc r1 r2 0 0 L7.length), i64 v6, i64 v9, f32 r11]) (Γc := [⟨0, some (L7.map f32)⟩]) (Γc' := [⟨0, some (r12.map f32)⟩]) (r' := tup []) (Γ' := [⟨1, some zMx⟩, ⟨1, some (r12.map f32)⟩, ⟨1, some (oXc r1 r2 1 1 r3.length)⟩]) [(1, 1)] [] rfl (CallAs.func ent78 rfl rfl) rfl rfl (SelOk.of (show List.Nodup [1] from by decide) (SelL.arr0 (f := f32) (fun _ => rfl) rfl trivial)) (live_of ⟨⟨_, _, rfl⟩, trivial⟩) (by simp [ren, rens, sigma, rens_f32, rens_f64, rens_i64, rens_ik, rens_str, rens_cp, hl8]) rfl (i_Matrix_set_02o_ok r1 r2 v6 v9 r11 L7 r12 hf6) rfl (news_of trivial) (show List.Nodup [1] from by decide) (by simp [ren, rens, sigma, of_decide_eq_true hn7]) (by simp [backOb, sigma, ren, rens, rens_f32, rens_f64, rens_i64, rens_ik, rens_str, rens_cp]) ?_
     refine zN ?_
     obtain ⟨x13, hx8, h5_⟩ := olet_some h5_
     refine RunC.regionW ?_
     refine zl (r := i64 x13) (LOp.eqr (LOp.add rfl rfl rfl) (congrArg (ik .i64) hx8)) ?_
     refine zm (r := i64 x13) ?_
     refine zN ?_
     cases Option.some.inj h5_
     exact ⟨_, rfl, (of_decide_eq_true hn7), ⟨aR, aR, aR, aR, aR, aR, aR, aR, aR, trivial⟩, ⟨⟨rfl, .inr rfl⟩, ⟨rfl, .inr rfl⟩, ⟨rfl, .inr rfl⟩, trivial⟩⟩
    ·refine RunC.regionW ?_
     refine zl (r := b false) (LOp.eqb (LOp.lss rfl rfl rfl) hc3) ?_
     refine zN ?_
     refine RunC.seq ?_
     refine RunC.cond_false rfl rfl ?_
     refine RunC.exit ?_
     cases Option.some.inj h5_
     have hx := ho5 _ rfl
     exact ⟨L7, hl8, ⟨aR, aR, aR, aR, aR, aR, trivial⟩, ⟨⟨rfl, .inr rfl⟩, ⟨rfl, .inr rfl⟩, ⟨rfl, .inr rfl⟩, trivial⟩, hx⟩
   ·rintro τ6 Γ6 ⟨L14, hl15, hw6, hd6, rfl⟩
    refine RunC.wl hw6 hd6 ?_
    replace h4_ : i_made_2Fi_KroneckerMatrix_1_k2 v6 L14 = some y4_ := h4_
    unfold i_made_2Fi_KroneckerMatrix_1_k2 at h4_
    obtain ⟨x16, hx9, h4_⟩ := olet_some h4_
    refine RunC.regionW ?_
    refine zl (r := i64 x16) (LOp.eqr (LOp.add rfl rfl rfl) (congrArg (ik .i64) hx9)) ?_
    refine zm (r := i64 x16) ?_
    refine zN ?_
    cases Option.some.inj h4_
    exact ⟨_, rfl, hl15, ⟨aR, aR, aR, aR, aR, aR, trivial⟩, ⟨⟨rfl, .inr rfl⟩, ⟨rfl, .inr rfl⟩, ⟨rfl, .inr rfl⟩, trivial⟩⟩
  ·refine RunC.regionW ?_
   refine zl (r := b false) (LOp.eqb (LOp.lss rfl rfl rfl) hc2) ?_
   refine zN ?_
   refine RunC.seq ?_
   refine RunC.cond_false rfl rfl ?_
   refine RunC.exit ?_
   cases Option.some.inj h4_
   have hx := ho4 _ rfl
   exact ⟨L4, hl5, ⟨aR, aR, trivial⟩, ⟨⟨rfl, .inr rfl⟩, ⟨rfl, .inr rfl⟩, ⟨rfl, .inr rfl⟩, trivial⟩, hx⟩
 ·rintro τ7 Γ7 ⟨L17, hl18, hw7, hd7, rfl⟩
  refine RunC.wl hw7 hd7 ?_
  replace h : i_made_2Fi_KroneckerMatrix_1_k3 r1 r2 L17 = some (q0, q1, q2) := h
  unfold i_made_2Fi_KroneckerMatrix_1_k3 at h
  refine zQ ?_
  refine ROps.d (r := agg (oXc r1 r2 1 1 r3.length)) (fs := []) (Γ' := [⟨1, some zMx⟩, ⟨1, some (L17.map f32)⟩, ⟨1, some (oXc r1 r2 1 1 r3.length)⟩]) rfl rfl rfl (TOp.loadAgg_o rfl agg26 siz26 rfl rfl rfl rfl) rfl ?_
  refine ROps.store_le (r := agg (oXc r1 r2 1 1 r3.length)) (l' := (oXc r1 r2 1 1 r3.length)) (Γ' := [⟨1, some (oXc r1 r2 1 1 r3.length)⟩, ⟨1, some (L17.map f32)⟩, ⟨1, some (oXc r1 r2 1 1 r3.length)⟩]) rfl siz26 rfl rfl rfl aR rfl rfl rfl rfl (Nat.le_of_ble_eq_true rfl) rfl rfl ?_
  refine zN ?_
  refine RunC.ret ?_
  have hq := Option.some.inj h
  obtain ⟨hq0, hq⟩ := Prod.mk.inj hq
  obtain ⟨hq1, hq⟩ := Prod.mk.inj hq
  subst q0
  subst q1
  subst q2
  exact bodyQ.mk (r' := agg (oXc r1 r2 1 1 L17.length)) [(1, 1)] (.inr rfl) rfl (show List.Nodup [1] from by decide) rfl rfl (Res.eq (Res.one rfl (RV.cell agg26 siz26 rfl rfl rfl rfl)) (by rw [(show L17.length = r3.length from hl18)] <;> rfl)) (SelL.arr0 (f := f32) (fun _ => rfl) rfl trivial)
noncomputable def i_KroneckerMatrix (a0 : Int) (a1 : Int) (a2 : List F) (a3 : Int) (a4 : Int) (a5 : List F) : Option (Int × Int × Bool × (List F)) :=
 obind (i_ValidMatrix a0 a1 a2) fun (r1 : Bool) =>
 bsel r1 (
  obind (i_ValidMatrix a3 a4 a5) fun (r2 : Bool) =>
  bsel r2 (
   olet (IntKind.i64.wrap (a0 * a3)) fun (x3 : Int) =>
   obind (i_isSide x3) fun (r4 : Bool) =>
   bsel r4 (
    olet (IntKind.i64.wrap (a1 * a4)) fun (x5 : Int) =>
    obind (i_isSide x5) fun (r6 : Bool) =>
    bsel r6 (
     olet (IntKind.i64.wrap (a0 * a3)) fun (x7 : Int) =>
     olet (IntKind.i64.wrap (a1 * a4)) fun (x8 : Int) =>
     obind3 (i_made_2Fi_KroneckerMatrix_1 x7 x8 a0 a1 a2 a3 a4 a5) fun (r9 : Int) (r10 : Int) (r11 : List F) =>
     obind (i_Matrix_valid_02o r9 r10 r11) (fun z => osum z (fun y => obind4 (some y) fun (r12 : Int) (r13 : Int) (r14 : Bool) (r15 : List F) =>
      need (decide (r15.length = r11.length)) <|
      some (r12, r13, r14, r15)) (fun y => obind5 (some y) fun (r16 : Int) (r17 : Int) (r18 : Bool) (r19 : List F) (r20 : List F) =>
      need (decide (r19.length = r11.length)) <|
      some (r16, r17, r18, r20)))) (
     some (0, 0, false, ([] : List F)))) (
    some (0, 0, false, ([] : List F)))) (
   some (0, 0, false, ([] : List F)))) (
  some (0, 0, false, ([] : List F)))
theorem i_KroneckerMatrix_ok (a0 : Int) (a1 : Int) (a2 : List F) (a3 : Int) (a4 : Int) (a5 : List F) (q0 : Int) (q1 : Int) (q2 : Bool) (q3 : List F) (h : i_KroneckerMatrix a0 a1 a2 a3 a4 a5 = some (q0, q1, q2, q3)) : Ev Try.prog 49 [agg (mXc a0 a1 a2), agg (mXc a3 a4 a5)] [] (tup [agg (oXc q0 q1 0 0 q3.length), b q2]) [⟨0, some (q3.map f32)⟩] := by
 refine Ev.start Try.func49 rfl rfl 3 (τ := [(0, agg (mXc a0 a1 a2)), (1, agg (mXc a3 a4 a5))]) rfl (Γ' := [⟨0, none⟩, ⟨0, none⟩, ⟨0, none⟩]) rfl (n := 97) rfl (g := 0) rfl (fun _ => rfl) ?_
 unfold i_KroneckerMatrix at h
 refine zQ ?_
 refine ROps.d (r := ptr (mXc a0 a1 a2)) (fs := []) (Γ' := [⟨0, none⟩, ⟨0, none⟩, ⟨0, none⟩]) rfl rfl rfl (TOp.box_s rfl rfl rfl) rfl ?_
 refine ROps.d (r := ptr (mXc a3 a4 a5)) (fs := []) (Γ' := [⟨0, none⟩, ⟨0, none⟩, ⟨0, none⟩]) rfl rfl rfl (TOp.box_s rfl rfl rfl) rfl ?_
 refine ROps.d (r := optr 0 1 0) (fs := [(0, zMx)]) (Γ' := [⟨1, some zMx⟩, ⟨0, none⟩, ⟨0, none⟩]) rfl rfl rfl (TOp.alloc_o (g := ⟨0, none⟩) 0 rfl zer26 zok26 rfl) rfl ?_
 refine za (r := b false) ?_
 refine zN ?_
 iterate 2 (refine RunC.seq ?_)
 obtain ⟨r1, hf1, h⟩ := obind_some h
 rcases bsel_some h with ⟨hc2, h⟩ | ⟨hc2, h⟩
 ·obtain ⟨r2, hf3, h⟩ := obind_some h
  rcases bsel_some h with ⟨hc4, h⟩ | ⟨hc4, h⟩
  ·obtain ⟨x3, hx5, h⟩ := olet_some h
   obtain ⟨r4, hf6, h⟩ := obind_some h
   rcases bsel_some h with ⟨hc7, h⟩ | ⟨hc7, h⟩
   ·obtain ⟨x5, hx8, h⟩ := olet_some h
    obtain ⟨r6, hf9, h⟩ := obind_some h
    rcases bsel_some h with ⟨hc10, h⟩ | ⟨hc10, h⟩
    ·refine RunC.regionW ?_
     refine zl (r := agg (mXc a0 a1 a2)) (LOp.loadAgg agg26 siz26 rfl rfl rfl rfl) ?_
     refine ROps.d (r := b true) (fs := []) (Γ' := [⟨1, some zMx⟩, ⟨0, none⟩, ⟨0, none⟩]) rfl rfl rfl (TOp.eqb (TOp.callB (CallAs.func ent66 rfl rfl) (Bors.cons (Bor.agg (Bors.cons (Bor.pure rfl) (Bors.cons (Bor.pure rfl) (Bors.cons (Bor.sl (fun _ => rfl)) Bors.nil)))) Bors.nil) rfl rfl (i_ValidMatrix_ok a0 a1 a2 r1 hf1)) hc2) rfl ?_
     refine zl (r := b false) (LOp.eqb (LOp.not rfl rfl) rfl) ?_
     refine zm (r := b false) ?_
     refine zl (r := agg (mXc a3 a4 a5)) (LOp.loadAgg agg26 siz26 rfl rfl rfl rfl) ?_
     refine ROps.d (r := b true) (fs := []) (Γ' := [⟨1, some zMx⟩, ⟨0, none⟩, ⟨0, none⟩]) rfl rfl rfl (TOp.eqb (TOp.callB (CallAs.func ent66 rfl rfl) (Bors.cons (Bor.agg (Bors.cons (Bor.pure rfl) (Bors.cons (Bor.pure rfl) (Bors.cons (Bor.sl (fun _ => rfl)) Bors.nil)))) Bors.nil) rfl rfl (i_ValidMatrix_ok a3 a4 a5 r2 hf3)) hc4) rfl ?_
     refine zl (r := b false) (LOp.eqb (LOp.not rfl rfl) rfl) ?_
     refine zl (r := b false) (LOp.pick_false rfl rfl rfl) ?_
     refine zm (r := b false) ?_
     refine zl (r := ptr (mXc a0 a1 a2)) (LOp.fap und26 rfl siz2 rfl rfl rfl) ?_
     refine zl (r := i64 a0) (LOp.load1 agg2 rfl rfl) ?_
     refine zl (r := ptr (mXc a3 a4 a5)) (LOp.fap und26 rfl siz2 rfl rfl rfl) ?_
     refine zl (r := i64 a3) (LOp.load1 agg2 rfl rfl) ?_
     refine zl (r := i64 x3) (LOp.eqr (LOp.mul rfl rfl rfl) (congrArg (ik .i64) hx5)) ?_
     refine ROps.d (r := b true) (fs := []) (Γ' := [⟨1, some zMx⟩, ⟨0, none⟩, ⟨0, none⟩]) rfl rfl rfl (TOp.eqb (TOp.callB (CallAs.func ent59 rfl rfl) (Bors.cons (Bor.pure rfl) Bors.nil) rfl rfl (i_isSide_ok x3 r4 hf6)) hc7) rfl ?_
     refine zl (r := b false) (LOp.eqb (LOp.not rfl rfl) rfl) ?_
     refine zl (r := b false) (LOp.pick_false rfl rfl rfl) ?_
     refine zm (r := b false) ?_
     refine zl (r := ptr [i64 a1, (sFc a2)]) (LOp.fap und26 rfl siz2 rfl rfl rfl) ?_
     refine zl (r := i64 a1) (LOp.load1 agg2 rfl rfl) ?_
     refine zl (r := ptr [i64 a4, (sFc a5)]) (LOp.fap und26 rfl siz2 rfl rfl rfl) ?_
     refine zl (r := i64 a4) (LOp.load1 agg2 rfl rfl) ?_
     refine zl (r := i64 x5) (LOp.eqr (LOp.mul rfl rfl rfl) (congrArg (ik .i64) hx8)) ?_
     refine ROps.d (r := b true) (fs := []) (Γ' := [⟨1, some zMx⟩, ⟨0, none⟩, ⟨0, none⟩]) rfl rfl rfl (TOp.eqb (TOp.callB (CallAs.func ent59 rfl rfl) (Bors.cons (Bor.pure rfl) Bors.nil) rfl rfl (i_isSide_ok x5 r6 hf9)) hc10) rfl ?_
     refine zl (r := b false) (LOp.eqb (LOp.not rfl rfl) rfl) ?_
     refine zl (r := b false) (LOp.pick_false rfl rfl rfl) ?_
     refine zN ?_
     refine RunC.wl (τ' := [(2, ptr (mXc a0 a1 a2)), (3, ptr (mXc a3 a4 a5)), (4, optr 0 1 0), (31, b false)]) (Γ' := [⟨1, some zMx⟩, ⟨0, none⟩, ⟨0, none⟩]) ⟨aR, aR, aR, aR, trivial⟩ ⟨⟨rfl, .inr rfl⟩, ⟨rfl, .inr rfl⟩, ⟨rfl, .inr rfl⟩, trivial⟩ ?_
     refine RunC.cond_false rfl rfl ?_
     refine RunC.skip ?_
     refine RunC.seq ?_
     obtain ⟨x7, hx11, h⟩ := olet_some h
     obtain ⟨x8, hx12, h⟩ := olet_some h
     obtain ⟨r9, r10, r11, hf13, h⟩ := obind3_some h
     obtain ⟨z1, hf14, h⟩ := obind_some h
     rcases z1 with z1 | z1
     ·replace h := (osum_inl _ _ _).symm.trans h
      obtain ⟨r12, r13, r14, r15, hz2, h⟩ := obind4_some h
      cases hz2
      obtain ⟨hn15, h⟩ := need_some h
      refine RunC.regionW ?_
      refine zl (r := ptr (mXc a0 a1 a2)) (LOp.fap und26 rfl siz2 rfl rfl rfl) ?_
      refine zl (r := i64 a0) (LOp.load1 agg2 rfl rfl) ?_
      refine zl (r := ptr (mXc a3 a4 a5)) (LOp.fap und26 rfl siz2 rfl rfl rfl) ?_
      refine zl (r := i64 a3) (LOp.load1 agg2 rfl rfl) ?_
      refine zl (r := i64 x7) (LOp.eqr (LOp.mul rfl rfl rfl) (congrArg (ik .i64) hx11)) ?_
      refine zl (r := ptr [i64 a1, (sFc a2)]) (LOp.fap und26 rfl siz2 rfl rfl rfl) ?_
      refine zl (r := i64 a1) (LOp.load1 agg2 rfl rfl) ?_
      refine zl (r := ptr [i64 a4, (sFc a5)]) (LOp.fap und26 rfl siz2 rfl rfl rfl) ?_
      refine zl (r := i64 a4) (LOp.load1 agg2 rfl rfl) ?_
      refine zl (r := i64 x8) (LOp.eqr (LOp.mul rfl rfl rfl) (congrArg (ik .i64) hx12)) ?_
      refine zl (r := fn (.func 121) [] [ptr (mXc a0 a1 a2), ptr (mXc a3 a4 a5)]) (LOp.makeFunc rfl rfl) ?_
      refine ROps.d (r := agg (oXc r9 r10 1 1 r11.length)) (fs := [(1, (r11.map f32))]) (Γ' := [⟨1, some zMx⟩, ⟨1, some (r11.map f32)⟩, ⟨0, none⟩]) rfl rfl rfl (TOp.callBN (ls := [(r11.map f32)]) [1] (CallAs.func ent60 rfl rfl) (Bors.cons (Bor.pure rfl) (Bors.cons (Bor.pure rfl) (Bors.cons (Bor.fn Bors.nil (Bors.cons (Bor.ptr (Bors.cons (Bor.pure rfl) (Bors.cons (Bor.pure rfl) (Bors.cons (Bor.sl (fun _ => rfl)) Bors.nil)))) (Bors.cons (Bor.ptr (Bors.cons (Bor.pure rfl) (Bors.cons (Bor.pure rfl) (Bors.cons (Bor.sl (fun _ => rfl)) Bors.nil)))) Bors.nil))) Bors.nil))) rfl (i_made_2Fi_KroneckerMatrix_1_ok x7 x8 a0 a1 a2 a3 a4 a5 r9 r10 r11 hf13) (and_all (lts0_map (f := f32) (fun _ => rfl) _) rfl) (and_all (noss_map (f := f32) (fun _ => rfl) _) rfl) rfl (by decide) (ns_of ⟨⟨_, rfl⟩, trivial⟩)) rfl ?_
      refine ROps.callO (A := [agg (oXc r9 r10 1 1 r11.length)]) (args := [agg (oXc r9 r10 0 0 r11.length)]) (Γc := [⟨0, some (r11.map f32)⟩]) (Γc' := [⟨0, some (r15.map f32)⟩]) (r' := tup [agg (oXc r12 r13 1 1 r11.length), b r14]) (Γ' := [⟨1, some zMx⟩, ⟨1, some (r15.map f32)⟩, ⟨0, none⟩]) [(1, 1)] [] rfl (CallAs.func ent58 rfl rfl) rfl rfl (SelOk.of (show List.Nodup [1] from by decide) (SelL.arr0 (f := f32) (fun _ => rfl) rfl trivial)) (live_of ⟨⟨_, _, rfl⟩, trivial⟩) (by simp [ren, rens, sigma, rens_f32, rens_f64, rens_i64, rens_ik, rens_str, rens_cp]) rfl (i_Matrix_valid_02o_ok0 r9 r10 r11 r12 r13 r14 r15 hf14) rfl (news_of trivial) (show List.Nodup [1] from by decide) (by simp [ren, rens, sigma, of_decide_eq_true hn15]) (by simp [backOb, sigma, ren, rens, rens_f32, rens_f64, rens_i64, rens_ik, rens_str, rens_cp]) ?_
      refine zl (r := agg (oXc r12 r13 1 1 r11.length)) (LOp.extract rfl rfl rfl) ?_
      refine zl (r := b r14) (LOp.extract rfl rfl rfl) ?_
      refine ROps.store_le (r := agg (oXc r12 r13 1 1 r11.length)) (l' := (oXc r12 r13 1 1 r11.length)) (Γ' := [⟨1, some (oXc r12 r13 1 1 r11.length)⟩, ⟨1, some (r15.map f32)⟩, ⟨0, none⟩]) rfl siz26 rfl rfl rfl aR rfl rfl rfl rfl (Nat.le_of_ble_eq_true rfl) rfl rfl ?_
      refine za (r := b r14) ?_
      refine zN ?_
      refine RunC.ret ?_
      have hq := Option.some.inj h
      obtain ⟨hq0, hq⟩ := Prod.mk.inj hq
      obtain ⟨hq1, hq⟩ := Prod.mk.inj hq
      obtain ⟨hq2, hq⟩ := Prod.mk.inj hq
      subst q0
      subst q1
      subst q2
      subst q3
      exact bodyQ.mk (r' := tup [agg (oXc r12 r13 1 1 r15.length), b r14]) [(1, 1)] (.inr rfl) rfl (show List.Nodup [1] from by decide) rfl rfl (Res.eq (Res.two rfl (RV.cell agg26 siz26 rfl rfl rfl rfl) (RV.tmp rfl)) (by rw [(show r15.length = r11.length from (of_decide_eq_true hn15))] <;> rfl)) (SelL.arr0 (f := f32) (fun _ => rfl) rfl trivial)
     ·replace h := (osum_inr _ _ _).symm.trans h
      obtain ⟨r16, r17, r18, r19, r20, hz3, h⟩ := obind5_some h
      cases hz3
      obtain ⟨hn16, h⟩ := need_some h
      refine RunC.regionW ?_
      refine zl (r := ptr (mXc a0 a1 a2)) (LOp.fap und26 rfl siz2 rfl rfl rfl) ?_
      refine zl (r := i64 a0) (LOp.load1 agg2 rfl rfl) ?_
      refine zl (r := ptr (mXc a3 a4 a5)) (LOp.fap und26 rfl siz2 rfl rfl rfl) ?_
      refine zl (r := i64 a3) (LOp.load1 agg2 rfl rfl) ?_
      refine zl (r := i64 x7) (LOp.eqr (LOp.mul rfl rfl rfl) (congrArg (ik .i64) hx11)) ?_
      refine zl (r := ptr [i64 a1, (sFc a2)]) (LOp.fap und26 rfl siz2 rfl rfl rfl) ?_
      refine zl (r := i64 a1) (LOp.load1 agg2 rfl rfl) ?_
      refine zl (r := ptr [i64 a4, (sFc a5)]) (LOp.fap und26 rfl siz2 rfl rfl rfl) ?_
      refine zl (r := i64 a4) (LOp.load1 agg2 rfl rfl) ?_
      refine zl (r := i64 x8) (LOp.eqr (LOp.mul rfl rfl rfl) (congrArg (ik .i64) hx12)) ?_
      refine zl (r := fn (.func 121) [] [ptr (mXc a0 a1 a2), ptr (mXc a3 a4 a5)]) (LOp.makeFunc rfl rfl) ?_
      refine ROps.d (r := agg (oXc r9 r10 1 1 r11.length)) (fs := [(1, (r11.map f32))]) (Γ' := [⟨1, some zMx⟩, ⟨1, some (r11.map f32)⟩, ⟨0, none⟩]) rfl rfl rfl (TOp.callBN (ls := [(r11.map f32)]) [1] (CallAs.func ent60 rfl rfl) (Bors.cons (Bor.pure rfl) (Bors.cons (Bor.pure rfl) (Bors.cons (Bor.fn Bors.nil (Bors.cons (Bor.ptr (Bors.cons (Bor.pure rfl) (Bors.cons (Bor.pure rfl) (Bors.cons (Bor.sl (fun _ => rfl)) Bors.nil)))) (Bors.cons (Bor.ptr (Bors.cons (Bor.pure rfl) (Bors.cons (Bor.pure rfl) (Bors.cons (Bor.sl (fun _ => rfl)) Bors.nil)))) Bors.nil))) Bors.nil))) rfl (i_made_2Fi_KroneckerMatrix_1_ok x7 x8 a0 a1 a2 a3 a4 a5 r9 r10 r11 hf13) (and_all (lts0_map (f := f32) (fun _ => rfl) _) rfl) (and_all (noss_map (f := f32) (fun _ => rfl) _) rfl) rfl (by decide) (ns_of ⟨⟨_, rfl⟩, trivial⟩)) rfl ?_
      refine ROps.callO (A := [agg (oXc r9 r10 1 1 r11.length)]) (args := [agg (oXc r9 r10 0 0 r11.length)]) (Γc := [⟨0, some (r11.map f32)⟩]) (Γc' := [⟨0, some (r19.map f32)⟩, ⟨0, some (r20.map f32)⟩]) (r' := tup [agg (oXc r16 r17 2 1 r20.length), b r18]) (Γ' := [⟨1, some zMx⟩, ⟨1, some (r19.map f32)⟩, ⟨1, some (r20.map f32)⟩]) [(1, 1)] [(2, 1)] rfl (CallAs.func ent58 rfl rfl) rfl rfl (SelOk.of (show List.Nodup [1] from by decide) (SelL.arr0 (f := f32) (fun _ => rfl) rfl trivial)) (live_of ⟨⟨_, _, rfl⟩, trivial⟩) (by simp [ren, rens, sigma, rens_f32, rens_f64, rens_i64, rens_ik, rens_str, rens_cp]) rfl (i_Matrix_valid_02o_ok1 r9 r10 r11 r16 r17 r18 r19 r20 hf14) rfl (news_of ⟨⟨_, rfl, rfl⟩, trivial⟩) (show List.Nodup [1, 2] from by decide) (by simp [ren, rens, sigma, of_decide_eq_true hn16]) (by simp [backOb, sigma, ren, rens, rens_f32, rens_f64, rens_i64, rens_ik, rens_str, rens_cp]) ?_
      refine zl (r := agg (oXc r16 r17 2 1 r20.length)) (LOp.extract rfl rfl rfl) ?_
      refine zl (r := b r18) (LOp.extract rfl rfl rfl) ?_
      refine ROps.store_le (r := agg (oXc r16 r17 2 1 r20.length)) (l' := (oXc r16 r17 2 1 r20.length)) (Γ' := [⟨1, some (oXc r16 r17 2 1 r20.length)⟩, ⟨1, some (r19.map f32)⟩, ⟨1, some (r20.map f32)⟩]) rfl siz26 rfl rfl rfl aR rfl rfl rfl rfl (Nat.le_of_ble_eq_true rfl) rfl rfl ?_
      refine za (r := b r18) ?_
      refine zN ?_
      refine RunC.ret ?_
      have hq := Option.some.inj h
      obtain ⟨hq0, hq⟩ := Prod.mk.inj hq
      obtain ⟨hq1, hq⟩ := Prod.mk.inj hq
      obtain ⟨hq2, hq⟩ := Prod.mk.inj hq
      subst q0
      subst q1
      subst q2
      subst q3
      exact bodyQ.mk (r' := tup [agg (oXc r16 r17 2 1 r20.length), b r18]) [(2, 1)] (.inr rfl) rfl (show List.Nodup [2] from by decide) rfl rfl (Res.two rfl (RV.cell agg26 siz26 rfl rfl rfl rfl) (RV.tmp rfl)) (SelL.arr0 (f := f32) (fun _ => rfl) rfl trivial)
    ·refine RunC.regionW ?_
     refine zl (r := agg (mXc a0 a1 a2)) (LOp.loadAgg agg26 siz26 rfl rfl rfl rfl) ?_
     refine ROps.d (r := b true) (fs := []) (Γ' := [⟨1, some zMx⟩, ⟨0, none⟩, ⟨0, none⟩]) rfl rfl rfl (TOp.eqb (TOp.callB (CallAs.func ent66 rfl rfl) (Bors.cons (Bor.agg (Bors.cons (Bor.pure rfl) (Bors.cons (Bor.pure rfl) (Bors.cons (Bor.sl (fun _ => rfl)) Bors.nil)))) Bors.nil) rfl rfl (i_ValidMatrix_ok a0 a1 a2 r1 hf1)) hc2) rfl ?_
     refine zl (r := b false) (LOp.eqb (LOp.not rfl rfl) rfl) ?_
     refine zm (r := b false) ?_
     refine zl (r := agg (mXc a3 a4 a5)) (LOp.loadAgg agg26 siz26 rfl rfl rfl rfl) ?_
     refine ROps.d (r := b true) (fs := []) (Γ' := [⟨1, some zMx⟩, ⟨0, none⟩, ⟨0, none⟩]) rfl rfl rfl (TOp.eqb (TOp.callB (CallAs.func ent66 rfl rfl) (Bors.cons (Bor.agg (Bors.cons (Bor.pure rfl) (Bors.cons (Bor.pure rfl) (Bors.cons (Bor.sl (fun _ => rfl)) Bors.nil)))) Bors.nil) rfl rfl (i_ValidMatrix_ok a3 a4 a5 r2 hf3)) hc4) rfl ?_
     refine zl (r := b false) (LOp.eqb (LOp.not rfl rfl) rfl) ?_
     refine zl (r := b false) (LOp.pick_false rfl rfl rfl) ?_
     refine zm (r := b false) ?_
     refine zl (r := ptr (mXc a0 a1 a2)) (LOp.fap und26 rfl siz2 rfl rfl rfl) ?_
     refine zl (r := i64 a0) (LOp.load1 agg2 rfl rfl) ?_
     refine zl (r := ptr (mXc a3 a4 a5)) (LOp.fap und26 rfl siz2 rfl rfl rfl) ?_
     refine zl (r := i64 a3) (LOp.load1 agg2 rfl rfl) ?_
     refine zl (r := i64 x3) (LOp.eqr (LOp.mul rfl rfl rfl) (congrArg (ik .i64) hx5)) ?_
     refine ROps.d (r := b true) (fs := []) (Γ' := [⟨1, some zMx⟩, ⟨0, none⟩, ⟨0, none⟩]) rfl rfl rfl (TOp.eqb (TOp.callB (CallAs.func ent59 rfl rfl) (Bors.cons (Bor.pure rfl) Bors.nil) rfl rfl (i_isSide_ok x3 r4 hf6)) hc7) rfl ?_
     refine zl (r := b false) (LOp.eqb (LOp.not rfl rfl) rfl) ?_
     refine zl (r := b false) (LOp.pick_false rfl rfl rfl) ?_
     refine zm (r := b false) ?_
     refine zl (r := ptr [i64 a1, (sFc a2)]) (LOp.fap und26 rfl siz2 rfl rfl rfl) ?_
     refine zl (r := i64 a1) (LOp.load1 agg2 rfl rfl) ?_
     refine zl (r := ptr [i64 a4, (sFc a5)]) (LOp.fap und26 rfl siz2 rfl rfl rfl) ?_
     refine zl (r := i64 a4) (LOp.load1 agg2 rfl rfl) ?_
     refine zl (r := i64 x5) (LOp.eqr (LOp.mul rfl rfl rfl) (congrArg (ik .i64) hx8)) ?_
     refine ROps.d (r := b false) (fs := []) (Γ' := [⟨1, some zMx⟩, ⟨0, none⟩, ⟨0, none⟩]) rfl rfl rfl (TOp.eqb (TOp.callB (CallAs.func ent59 rfl rfl) (Bors.cons (Bor.pure rfl) Bors.nil) rfl rfl (i_isSide_ok x5 r6 hf9)) hc10) rfl ?_
     refine zl (r := b true) (LOp.eqb (LOp.not rfl rfl) rfl) ?_
     refine zl (r := b true) (LOp.pick_false rfl rfl rfl) ?_
     refine zN ?_
     refine RunC.wl (τ' := [(2, ptr (mXc a0 a1 a2)), (3, ptr (mXc a3 a4 a5)), (4, optr 0 1 0), (31, b true)]) (Γ' := [⟨1, some zMx⟩, ⟨0, none⟩, ⟨0, none⟩]) ⟨aR, aR, aR, aR, trivial⟩ ⟨⟨rfl, .inr rfl⟩, ⟨rfl, .inr rfl⟩, ⟨rfl, .inr rfl⟩, trivial⟩ ?_
     refine RunC.cond_true rfl rfl ?_
     refine zQ ?_
     refine zl (r := agg zMx) (LOp.build (qs := []) zer26 zok26 und26 plc26 rfl trivial rfl) ?_
     refine ROps.store_le (r := agg zMx) (l' := zMx) (Γ' := [⟨1, some zMx⟩, ⟨0, none⟩, ⟨0, none⟩]) rfl siz26 rfl rfl rfl aR rfl rfl rfl rfl (Nat.le_of_ble_eq_true rfl) rfl rfl ?_
     refine za (r := b false) ?_
     refine zN ?_
     refine RunC.nil_cell (l' := [i64 0, i64 0, oref 1 1 0 0]) (Γ' := [⟨1, some [i64 0, i64 0, oref 1 1 0 0]⟩, ⟨1, some (([] : List F).map f32)⟩, ⟨0, none⟩]) 0 2 1 rfl rfl rfl rfl rfl ?_
     refine RunC.ret ?_
     have hq := Option.some.inj h
     obtain ⟨hq0, hq⟩ := Prod.mk.inj hq
     obtain ⟨hq1, hq⟩ := Prod.mk.inj hq
     obtain ⟨hq2, hq⟩ := Prod.mk.inj hq
     subst q0
     subst q1
     subst q2
     subst q3
     exact bodyQ.mk (r' := tup [agg [i64 0, i64 0, oref 1 1 0 (([] : List F).length)], b false]) [(1, 1)] (.inr rfl) rfl (show List.Nodup [1] from by decide) rfl rfl (Res.eq (Res.two rfl (RV.cell agg26 siz26 rfl rfl rfl rfl) (RV.tmp rfl)) (by rw [(show ([] : List F).length = 0 from rfl)] <;> rfl)) (SelL.arr0 (f := f32) (fun _ => rfl) rfl trivial)
   ·refine RunC.regionW ?_
    refine zl (r := agg (mXc a0 a1 a2)) (LOp.loadAgg agg26 siz26 rfl rfl rfl rfl) ?_
    refine ROps.d (r := b true) (fs := []) (Γ' := [⟨1, some zMx⟩, ⟨0, none⟩, ⟨0, none⟩]) rfl rfl rfl (TOp.eqb (TOp.callB (CallAs.func ent66 rfl rfl) (Bors.cons (Bor.agg (Bors.cons (Bor.pure rfl) (Bors.cons (Bor.pure rfl) (Bors.cons (Bor.sl (fun _ => rfl)) Bors.nil)))) Bors.nil) rfl rfl (i_ValidMatrix_ok a0 a1 a2 r1 hf1)) hc2) rfl ?_
    refine zl (r := b false) (LOp.eqb (LOp.not rfl rfl) rfl) ?_
    refine zm (r := b false) ?_
    refine zl (r := agg (mXc a3 a4 a5)) (LOp.loadAgg agg26 siz26 rfl rfl rfl rfl) ?_
    refine ROps.d (r := b true) (fs := []) (Γ' := [⟨1, some zMx⟩, ⟨0, none⟩, ⟨0, none⟩]) rfl rfl rfl (TOp.eqb (TOp.callB (CallAs.func ent66 rfl rfl) (Bors.cons (Bor.agg (Bors.cons (Bor.pure rfl) (Bors.cons (Bor.pure rfl) (Bors.cons (Bor.sl (fun _ => rfl)) Bors.nil)))) Bors.nil) rfl rfl (i_ValidMatrix_ok a3 a4 a5 r2 hf3)) hc4) rfl ?_
    refine zl (r := b false) (LOp.eqb (LOp.not rfl rfl) rfl) ?_
    refine zl (r := b false) (LOp.pick_false rfl rfl rfl) ?_
    refine zm (r := b false) ?_
    refine zl (r := ptr (mXc a0 a1 a2)) (LOp.fap und26 rfl siz2 rfl rfl rfl) ?_
    refine zl (r := i64 a0) (LOp.load1 agg2 rfl rfl) ?_
    refine zl (r := ptr (mXc a3 a4 a5)) (LOp.fap und26 rfl siz2 rfl rfl rfl) ?_
    refine zl (r := i64 a3) (LOp.load1 agg2 rfl rfl) ?_
    refine zl (r := i64 x3) (LOp.eqr (LOp.mul rfl rfl rfl) (congrArg (ik .i64) hx5)) ?_
    refine ROps.d (r := b false) (fs := []) (Γ' := [⟨1, some zMx⟩, ⟨0, none⟩, ⟨0, none⟩]) rfl rfl rfl (TOp.eqb (TOp.callB (CallAs.func ent59 rfl rfl) (Bors.cons (Bor.pure rfl) Bors.nil) rfl rfl (i_isSide_ok x3 r4 hf6)) hc7) rfl ?_
    refine zl (r := b true) (LOp.eqb (LOp.not rfl rfl) rfl) ?_
    refine zl (r := b true) (LOp.pick_false rfl rfl rfl) ?_
    refine zm (r := b true) ?_
    iterate 7 (refine ROps.s rfl rfl rfl ?_)
    refine zl (r := b true) (LOp.pick_true rfl rfl rfl) ?_
    refine zN ?_
    refine RunC.wl (τ' := [(2, ptr (mXc a0 a1 a2)), (3, ptr (mXc a3 a4 a5)), (4, optr 0 1 0), (31, b true)]) (Γ' := [⟨1, some zMx⟩, ⟨0, none⟩, ⟨0, none⟩]) ⟨aR, aR, aR, aR, trivial⟩ ⟨⟨rfl, .inr rfl⟩, ⟨rfl, .inr rfl⟩, ⟨rfl, .inr rfl⟩, trivial⟩ ?_
    refine RunC.cond_true rfl rfl ?_
    refine zQ ?_
    refine zl (r := agg zMx) (LOp.build (qs := []) zer26 zok26 und26 plc26 rfl trivial rfl) ?_
    refine ROps.store_le (r := agg zMx) (l' := zMx) (Γ' := [⟨1, some zMx⟩, ⟨0, none⟩, ⟨0, none⟩]) rfl siz26 rfl rfl rfl aR rfl rfl rfl rfl (Nat.le_of_ble_eq_true rfl) rfl rfl ?_
    refine za (r := b false) ?_
    refine zN ?_
    refine RunC.nil_cell (l' := [i64 0, i64 0, oref 1 1 0 0]) (Γ' := [⟨1, some [i64 0, i64 0, oref 1 1 0 0]⟩, ⟨1, some (([] : List F).map f32)⟩, ⟨0, none⟩]) 0 2 1 rfl rfl rfl rfl rfl ?_
    refine RunC.ret ?_
    have hq := Option.some.inj h
    obtain ⟨hq0, hq⟩ := Prod.mk.inj hq
    obtain ⟨hq1, hq⟩ := Prod.mk.inj hq
    obtain ⟨hq2, hq⟩ := Prod.mk.inj hq
    subst q0
    subst q1
    subst q2
    subst q3
    exact bodyQ.mk (r' := tup [agg [i64 0, i64 0, oref 1 1 0 (([] : List F).length)], b false]) [(1, 1)] (.inr rfl) rfl (show List.Nodup [1] from by decide) rfl rfl (Res.eq (Res.two rfl (RV.cell agg26 siz26 rfl rfl rfl rfl) (RV.tmp rfl)) (by rw [(show ([] : List F).length = 0 from rfl)] <;> rfl)) (SelL.arr0 (f := f32) (fun _ => rfl) rfl trivial)
  ·refine RunC.regionW ?_
   refine zl (r := agg (mXc a0 a1 a2)) (LOp.loadAgg agg26 siz26 rfl rfl rfl rfl) ?_
   refine ROps.d (r := b true) (fs := []) (Γ' := [⟨1, some zMx⟩, ⟨0, none⟩, ⟨0, none⟩]) rfl rfl rfl (TOp.eqb (TOp.callB (CallAs.func ent66 rfl rfl) (Bors.cons (Bor.agg (Bors.cons (Bor.pure rfl) (Bors.cons (Bor.pure rfl) (Bors.cons (Bor.sl (fun _ => rfl)) Bors.nil)))) Bors.nil) rfl rfl (i_ValidMatrix_ok a0 a1 a2 r1 hf1)) hc2) rfl ?_
   refine zl (r := b false) (LOp.eqb (LOp.not rfl rfl) rfl) ?_
   refine zm (r := b false) ?_
   refine zl (r := agg (mXc a3 a4 a5)) (LOp.loadAgg agg26 siz26 rfl rfl rfl rfl) ?_
   refine ROps.d (r := b false) (fs := []) (Γ' := [⟨1, some zMx⟩, ⟨0, none⟩, ⟨0, none⟩]) rfl rfl rfl (TOp.eqb (TOp.callB (CallAs.func ent66 rfl rfl) (Bors.cons (Bor.agg (Bors.cons (Bor.pure rfl) (Bors.cons (Bor.pure rfl) (Bors.cons (Bor.sl (fun _ => rfl)) Bors.nil)))) Bors.nil) rfl rfl (i_ValidMatrix_ok a3 a4 a5 r2 hf3)) hc4) rfl ?_
   refine zl (r := b true) (LOp.eqb (LOp.not rfl rfl) rfl) ?_
   refine zl (r := b true) (LOp.pick_false rfl rfl rfl) ?_
   refine zm (r := b true) ?_
   iterate 7 (refine ROps.s rfl rfl rfl ?_)
   refine zl (r := b true) (LOp.pick_true rfl rfl rfl) ?_
   refine zm (r := b true) ?_
   iterate 7 (refine ROps.s rfl rfl rfl ?_)
   refine zl (r := b true) (LOp.pick_true rfl rfl rfl) ?_
   refine zN ?_
   refine RunC.wl (τ' := [(2, ptr (mXc a0 a1 a2)), (3, ptr (mXc a3 a4 a5)), (4, optr 0 1 0), (31, b true)]) (Γ' := [⟨1, some zMx⟩, ⟨0, none⟩, ⟨0, none⟩]) ⟨aR, aR, aR, aR, trivial⟩ ⟨⟨rfl, .inr rfl⟩, ⟨rfl, .inr rfl⟩, ⟨rfl, .inr rfl⟩, trivial⟩ ?_
   refine RunC.cond_true rfl rfl ?_
   refine zQ ?_
   refine zl (r := agg zMx) (LOp.build (qs := []) zer26 zok26 und26 plc26 rfl trivial rfl) ?_
   refine ROps.store_le (r := agg zMx) (l' := zMx) (Γ' := [⟨1, some zMx⟩, ⟨0, none⟩, ⟨0, none⟩]) rfl siz26 rfl rfl rfl aR rfl rfl rfl rfl (Nat.le_of_ble_eq_true rfl) rfl rfl ?_
   refine za (r := b false) ?_
   refine zN ?_
   refine RunC.nil_cell (l' := [i64 0, i64 0, oref 1 1 0 0]) (Γ' := [⟨1, some [i64 0, i64 0, oref 1 1 0 0]⟩, ⟨1, some (([] : List F).map f32)⟩, ⟨0, none⟩]) 0 2 1 rfl rfl rfl rfl rfl ?_
   refine RunC.ret ?_
   have hq := Option.some.inj h
   obtain ⟨hq0, hq⟩ := Prod.mk.inj hq
   obtain ⟨hq1, hq⟩ := Prod.mk.inj hq
   obtain ⟨hq2, hq⟩ := Prod.mk.inj hq
   subst q0
   subst q1
   subst q2
   subst q3
   exact bodyQ.mk (r' := tup [agg [i64 0, i64 0, oref 1 1 0 (([] : List F).length)], b false]) [(1, 1)] (.inr rfl) rfl (show List.Nodup [1] from by decide) rfl rfl (Res.eq (Res.two rfl (RV.cell agg26 siz26 rfl rfl rfl rfl) (RV.tmp rfl)) (by rw [(show ([] : List F).length = 0 from rfl)] <;> rfl)) (SelL.arr0 (f := f32) (fun _ => rfl) rfl trivial)
 ·refine RunC.regionW ?_
  refine zl (r := agg (mXc a0 a1 a2)) (LOp.loadAgg agg26 siz26 rfl rfl rfl rfl) ?_
  refine ROps.d (r := b false) (fs := []) (Γ' := [⟨1, some zMx⟩, ⟨0, none⟩, ⟨0, none⟩]) rfl rfl rfl (TOp.eqb (TOp.callB (CallAs.func ent66 rfl rfl) (Bors.cons (Bor.agg (Bors.cons (Bor.pure rfl) (Bors.cons (Bor.pure rfl) (Bors.cons (Bor.sl (fun _ => rfl)) Bors.nil)))) Bors.nil) rfl rfl (i_ValidMatrix_ok a0 a1 a2 r1 hf1)) hc2) rfl ?_
  refine zl (r := b true) (LOp.eqb (LOp.not rfl rfl) rfl) ?_
  refine zm (r := b true) ?_
  iterate 3 (refine ROps.s rfl rfl rfl ?_)
  refine zl (r := b true) (LOp.pick_true rfl rfl rfl) ?_
  refine zm (r := b true) ?_
  iterate 7 (refine ROps.s rfl rfl rfl ?_)
  refine zl (r := b true) (LOp.pick_true rfl rfl rfl) ?_
  refine zm (r := b true) ?_
  iterate 7 (refine ROps.s rfl rfl rfl ?_)
  refine zl (r := b true) (LOp.pick_true rfl rfl rfl) ?_
  refine zN ?_
  refine RunC.wl (τ' := [(2, ptr (mXc a0 a1 a2)), (3, ptr (mXc a3 a4 a5)), (4, optr 0 1 0), (31, b true)]) (Γ' := [⟨1, some zMx⟩, ⟨0, none⟩, ⟨0, none⟩]) ⟨aR, aR, aR, aR, trivial⟩ ⟨⟨rfl, .inr rfl⟩, ⟨rfl, .inr rfl⟩, ⟨rfl, .inr rfl⟩, trivial⟩ ?_
  refine RunC.cond_true rfl rfl ?_
  refine zQ ?_
  refine zl (r := agg zMx) (LOp.build (qs := []) zer26 zok26 und26 plc26 rfl trivial rfl) ?_
  refine ROps.store_le (r := agg zMx) (l' := zMx) (Γ' := [⟨1, some zMx⟩, ⟨0, none⟩, ⟨0, none⟩]) rfl siz26 rfl rfl rfl aR rfl rfl rfl rfl (Nat.le_of_ble_eq_true rfl) rfl rfl ?_
  refine za (r := b false) ?_
  refine zN ?_
  refine RunC.nil_cell (l' := [i64 0, i64 0, oref 1 1 0 0]) (Γ' := [⟨1, some [i64 0, i64 0, oref 1 1 0 0]⟩, ⟨1, some (([] : List F).map f32)⟩, ⟨0, none⟩]) 0 2 1 rfl rfl rfl rfl rfl ?_
  refine RunC.ret ?_
  have hq := Option.some.inj h
  obtain ⟨hq0, hq⟩ := Prod.mk.inj hq
  obtain ⟨hq1, hq⟩ := Prod.mk.inj hq
  obtain ⟨hq2, hq⟩ := Prod.mk.inj hq
  subst q0
  subst q1
  subst q2
  subst q3
  exact bodyQ.mk (r' := tup [agg [i64 0, i64 0, oref 1 1 0 (([] : List F).length)], b false]) [(1, 1)] (.inr rfl) rfl (show List.Nodup [1] from by decide) rfl rfl (Res.eq (Res.two rfl (RV.cell agg26 siz26 rfl rfl rfl rfl) (RV.tmp rfl)) (by rw [(show ([] : List F).length = 0 from rfl)] <;> rfl)) (SelL.arr0 (f := f32) (fun _ => rfl) rfl trivial)
noncomputable def i_areVectors (a0 : List F) (a1 : List F) : Option (Bool) :=
 obind (i_IsVector a0) fun (r1 : Bool) =>
 bsel r1 (
  obind (i_IsVector a1) fun (r2 : Bool) =>
  bsel r2 (
   some (decide ((a0.length : Int) = (a1.length : Int)))) (
   some false)) (
  some false)
theorem i_areVectors_ok (a0 : List F) (a1 : List F) (q0 : Bool) (h : i_areVectors a0 a1 = some q0) : Ev Try.prog 122 [(sFc a0), (sFc a1)] [] (b q0) [] := by
 refine Ev.start Try.func122 rfl rfl 0 (τ := [(0, (sFc a0)), (1, (sFc a1))]) rfl (Γ' := []) rfl (n := 37) rfl (g := 0) rfl (fun _ => rfl) ?_
 unfold i_areVectors at h
 refine zQ ?_
 refine za (r := b false) ?_
 refine zN ?_
 refine RunC.seq ?_
 obtain ⟨r1, hf1, h⟩ := obind_some h
 rcases bsel_some h with ⟨hc2, h⟩ | ⟨hc2, h⟩
 ·obtain ⟨r2, hf3, h⟩ := obind_some h
  rcases bsel_some h with ⟨hc4, h⟩ | ⟨hc4, h⟩
  ·refine RunC.regionW ?_
   refine zm (r := (sFc a0)) ?_
   refine ROps.d (r := b true) (fs := []) (Γ' := []) rfl rfl rfl (TOp.eqb (TOp.callB (CallAs.func ent70 rfl rfl) (Bors.cons (Bor.sl (fun _ => rfl)) Bors.nil) rfl rfl (i_IsVector_ok a0 r1 hf1)) hc2) rfl ?_
   refine zm (r := b true) ?_
   refine zm (r := (sFc a1)) ?_
   refine ROps.d (r := b true) (fs := []) (Γ' := []) rfl rfl rfl (TOp.eqb (TOp.callB (CallAs.func ent70 rfl rfl) (Bors.cons (Bor.sl (fun _ => rfl)) Bors.nil) rfl rfl (i_IsVector_ok a1 r2 hf3)) hc4) rfl ?_
   refine zl (r := b true) (LOp.pick_true rfl rfl rfl) ?_
   refine zm (r := b true) ?_
   refine zm (r := (sFc a0)) ?_
   refine zl (r := i64 (a0.length : Int)) (LOp.len_sl und24 rfl rfl) ?_
   refine zm (r := (sFc a1)) ?_
   refine zl (r := i64 (a1.length : Int)) (LOp.len_sl und24 rfl rfl) ?_
   refine zl (r := b (decide ((a0.length : Int) = (a1.length : Int)))) (LOp.eql rfl rfl rfl) ?_
   refine zl (r := b (decide ((a0.length : Int) = (a1.length : Int)))) (LOp.pick_true rfl rfl rfl) ?_
   refine za (r := b (decide ((a0.length : Int) = (a1.length : Int)))) ?_
   refine zN ?_
   refine RunC.ret ?_
   have hq := Option.some.inj h
   subst q0
   exact bodyQ.pure (.inr rfl) rfl (Res.one rfl (RV.tmp rfl))
  ·refine RunC.regionW ?_
   refine zm (r := (sFc a0)) ?_
   refine ROps.d (r := b true) (fs := []) (Γ' := []) rfl rfl rfl (TOp.eqb (TOp.callB (CallAs.func ent70 rfl rfl) (Bors.cons (Bor.sl (fun _ => rfl)) Bors.nil) rfl rfl (i_IsVector_ok a0 r1 hf1)) hc2) rfl ?_
   refine zm (r := b true) ?_
   refine zm (r := (sFc a1)) ?_
   refine ROps.d (r := b false) (fs := []) (Γ' := []) rfl rfl rfl (TOp.eqb (TOp.callB (CallAs.func ent70 rfl rfl) (Bors.cons (Bor.sl (fun _ => rfl)) Bors.nil) rfl rfl (i_IsVector_ok a1 r2 hf3)) hc4) rfl ?_
   refine zl (r := b false) (LOp.pick_true rfl rfl rfl) ?_
   refine zm (r := b false) ?_
   iterate 5 (refine ROps.s rfl rfl rfl ?_)
   refine zl (r := b false) (LOp.pick_false rfl rfl rfl) ?_
   refine za (r := b false) ?_
   refine zN ?_
   refine RunC.ret ?_
   have hq := Option.some.inj h
   subst q0
   exact bodyQ.pure (.inr rfl) rfl (Res.one rfl (RV.tmp rfl))
 ·refine RunC.regionW ?_
  refine zm (r := (sFc a0)) ?_
  refine ROps.d (r := b false) (fs := []) (Γ' := []) rfl rfl rfl (TOp.eqb (TOp.callB (CallAs.func ent70 rfl rfl) (Bors.cons (Bor.sl (fun _ => rfl)) Bors.nil) rfl rfl (i_IsVector_ok a0 r1 hf1)) hc2) rfl ?_
  refine zm (r := b false) ?_
  iterate 2 (refine ROps.s rfl rfl rfl ?_)
  refine zl (r := b false) (LOp.pick_false rfl rfl rfl) ?_
  refine zm (r := b false) ?_
  iterate 5 (refine ROps.s rfl rfl rfl ?_)
  refine zl (r := b false) (LOp.pick_false rfl rfl rfl) ?_
  refine za (r := b false) ?_
  refine zN ?_
  refine RunC.ret ?_
  have hq := Option.some.inj h
  subst q0
  exact bodyQ.pure (.inr rfl) rfl (Res.one rfl (RV.tmp rfl))
noncomputable def i_DotVectors (a0 : List F) (a1 : List F) : Option (F × Bool) :=
 obind (i_areVectors a0 a1) fun (r1 : Bool) =>
 bsel r1 (
  obind (i_dot a0 a1) fun (r2 : F) =>
  obind2 (i_finite r2) fun (r3 : F) (r4 : Bool) =>
  some (r3, r4)) (
  some (some 0, false))
theorem i_DotVectors_ok (a0 : List F) (a1 : List F) (q0 : F) (q1 : Bool) (h : i_DotVectors a0 a1 = some (q0, q1)) : Ev Try.prog 50 [(sFc a0), (sFc a1)] [] (tup [f32 q0, b q1]) [] := by
 refine Ev.start Try.func50 rfl rfl 0 (τ := [(0, (sFc a0)), (1, (sFc a1))]) rfl (Γ' := []) rfl (n := 33) rfl (g := 0) rfl (fun _ => rfl) ?_
 unfold i_DotVectors at h
 refine zQ ?_
 refine zl (r := f32 (some 0)) (LOp.le (LOp.assign rfl rfl) (ALe.fl (by kernel_rfl) (by kernel_rfl))) ?_
 refine za (r := b false) ?_
 refine zN ?_
 iterate 2 (refine RunC.seq ?_)
 obtain ⟨r1, hf1, h⟩ := obind_some h
 rcases bsel_some h with ⟨hc2, h⟩ | ⟨hc2, h⟩
 ·refine RunC.regionW ?_
  refine zm (r := (sFc a0)) ?_
  refine zm (r := (sFc a1)) ?_
  refine ROps.d (r := b true) (fs := []) (Γ' := []) rfl rfl rfl (TOp.eqb (TOp.callB (CallAs.func ent122 rfl rfl) (Bors.cons (Bor.sl (fun _ => rfl)) (Bors.cons (Bor.sl (fun _ => rfl)) Bors.nil)) rfl rfl (i_areVectors_ok a0 a1 r1 hf1)) hc2) rfl ?_
  refine zl (r := b false) (LOp.eqb (LOp.not rfl rfl) rfl) ?_
  refine zN ?_
  refine RunC.cond_false rfl rfl ?_
  refine RunC.skip ?_
  refine RunC.seq ?_
  obtain ⟨r2, hf3, h⟩ := obind_some h
  obtain ⟨r3, r4, hf4, h⟩ := obind2_some h
  refine RunC.regionW ?_
  refine zm (r := (sFc a0)) ?_
  refine zm (r := (sFc a1)) ?_
  refine ROps.d (r := f32 r2) (fs := []) (Γ' := []) rfl rfl rfl (TOp.callB (CallAs.func ent64 rfl rfl) (Bors.cons (Bor.sl (fun _ => rfl)) (Bors.cons (Bor.sl (fun _ => rfl)) Bors.nil)) rfl rfl (i_dot_ok a0 a1 r2 hf3)) rfl ?_
  refine ROps.d (r := tup [f32 r3, b r4]) (fs := []) (Γ' := []) rfl rfl rfl (TOp.callB (CallAs.func ent117 rfl rfl) (Bors.cons (Bor.pure rfl) Bors.nil) rfl rfl (i_finite_ok r2 r3 r4 hf4)) rfl ?_
  refine zl (r := f32 r3) (LOp.extract rfl rfl rfl) ?_
  refine zl (r := b r4) (LOp.extract rfl rfl rfl) ?_
  refine za (r := f32 r3) ?_
  refine za (r := b r4) ?_
  refine zN ?_
  refine RunC.ret ?_
  have hq := Option.some.inj h
  obtain ⟨hq0, hq⟩ := Prod.mk.inj hq
  subst q0
  subst q1
  exact bodyQ.pure (.inr rfl) rfl (Res.two rfl (RV.tmp rfl) (RV.tmp rfl))
 ·refine RunC.regionW ?_
  refine zm (r := (sFc a0)) ?_
  refine zm (r := (sFc a1)) ?_
  refine ROps.d (r := b false) (fs := []) (Γ' := []) rfl rfl rfl (TOp.eqb (TOp.callB (CallAs.func ent122 rfl rfl) (Bors.cons (Bor.sl (fun _ => rfl)) (Bors.cons (Bor.sl (fun _ => rfl)) Bors.nil)) rfl rfl (i_areVectors_ok a0 a1 r1 hf1)) hc2) rfl ?_
  refine zl (r := b true) (LOp.eqb (LOp.not rfl rfl) rfl) ?_
  refine zN ?_
  refine RunC.cond_true rfl rfl ?_
  refine zQ ?_
  refine zl (r := f32 (some 0)) (LOp.le (LOp.assign rfl rfl) (ALe.fl (by kernel_rfl) (by kernel_rfl))) ?_
  refine za (r := b false) ?_
  refine zN ?_
  refine RunC.ret ?_
  have hq := Option.some.inj h
  obtain ⟨hq0, hq⟩ := Prod.mk.inj hq
  subst q0
  subst q1
  exact bodyQ.pure (.inr rfl) rfl (Res.two rfl (RV.tmp rfl) (RV.tmp rfl))
noncomputable def i_mul64 (a0 : F) (a1 : F) : Option (F) :=
 olet (fop .mul .f64 a0 a1) fun (x1 : F) =>
 some x1
theorem i_mul64_ok (a0 : F) (a1 : F) (q0 : F) (h : i_mul64 a0 a1 = some q0) : Ev Try.prog 123 [f64 a0, f64 a1] [] (f64 q0) [] := by
 refine Ev.start Try.func123 rfl rfl 0 (τ := [(0, f64 a0), (1, f64 a1)]) rfl (Γ' := []) rfl (n := 17) rfl (g := 0) rfl (fun _ => rfl) ?_
 unfold i_mul64 at h
 refine zQ ?_
 refine zl (r := f64 (some 0)) (LOp.le (LOp.assign rfl rfl) (ALe.fl (by kernel_rfl) (by kernel_rfl))) ?_
 refine zN ?_
 refine RunC.seq ?_
 obtain ⟨x1, hx1, h⟩ := olet_some h
 refine RunC.regionW ?_
 refine zm (r := f64 a0) ?_
 refine zm (r := f64 a1) ?_
 refine ROps.d (r := f64 x1) (fs := []) (Γ' := []) rfl rfl rfl (TOp.eqr (TOp.fop (.inr (.inr (.inl rfl))) rfl (OpF.tmp rfl) (OpF.tmp rfl)) (congrArg (f .f64) hx1)) rfl ?_
 refine za (r := f64 x1) ?_
 refine zN ?_
 refine RunC.ret ?_
 have hq := Option.some.inj h
 subst q0
 exact bodyQ.pure (.inr rfl) rfl (Res.one rfl (RV.tmp rfl))
noncomputable def i_LongDot_b1 (a0 : List F) (a1 : List F) (y2 : F) (v3 : Int) : Option (LR (F × Int) (F) (F × Bool)) :=
 bsel (decide (v3 < (a0.length : Int))) (
  obind (at? a0 v3) fun (e4 : F) =>
  olet (fwiden e4) fun (x5 : F) =>
  obind (at? a1 v3) fun (e6 : F) =>
  olet (fwiden e6) fun (x7 : F) =>
  obind (i_mul64 x5 x7) fun (r8 : F) =>
  olet (fop .add .f64 y2 r8) fun (x9 : F) =>
  olet (IntKind.i64.wrap (v3 + 1)) fun (x10 : Int) =>
  some (LR.next (x9, x10))) (
  some (LR.out y2))
noncomputable def i_LongDot_s1 (a0 : List F) (a1 : List F) : (F × Int) → Option (LR (F × Int) (F) (F × Bool)) := fun s => i_LongDot_b1 a0 a1 s.1 s.2
noncomputable def i_LongDot_k1 (y11 : F) : Option (F × Bool) :=
 obind (fnarrow y11) fun (y12 : F) =>
 obind2 (i_finite y12) fun (r13 : F) (r14 : Bool) =>
 some (r13, r14)
noncomputable def i_LongDot (a0 : List F) (a1 : List F) : Option (F × Bool) :=
 obind (i_areVectors a0 a1) fun (r1 : Bool) =>
 bsel r1 (
  obind (loopM (i_LongDot_s1 a0 a1) (some 0, 0)) fun z => osum z (fun e => i_LongDot_k1 e) (fun r => some r)) (
  some (some 0, false))
theorem i_LongDot_ok (a0 : List F) (a1 : List F) (q0 : F) (q1 : Bool) (h : i_LongDot a0 a1 = some (q0, q1)) : Ev Try.prog 51 [(sFc a0), (sFc a1)] [] (tup [f32 q0, b q1]) [] := by
 refine Ev.start Try.func51 rfl rfl 0 (τ := [(0, (sFc a0)), (1, (sFc a1))]) rfl (Γ' := []) rfl (n := 73) rfl (g := 0) rfl (fun _ => rfl) ?_
 unfold i_LongDot at h
 refine zQ ?_
 refine zl (r := f32 (some 0)) (LOp.le (LOp.assign rfl rfl) (ALe.fl (by kernel_rfl) (by kernel_rfl))) ?_
 refine za (r := b false) ?_
 refine zN ?_
 iterate 2 (refine RunC.seq ?_)
 obtain ⟨r1, hf1, h⟩ := obind_some h
 rcases bsel_some h with ⟨hc2, h⟩ | ⟨hc2, h⟩
 ·refine RunC.regionW ?_
  refine zm (r := (sFc a0)) ?_
  refine zm (r := (sFc a1)) ?_
  refine ROps.d (r := b true) (fs := []) (Γ' := []) rfl rfl rfl (TOp.eqb (TOp.callB (CallAs.func ent122 rfl rfl) (Bors.cons (Bor.sl (fun _ => rfl)) (Bors.cons (Bor.sl (fun _ => rfl)) Bors.nil)) rfl rfl (i_areVectors_ok a0 a1 r1 hf1)) hc2) rfl ?_
  refine zl (r := b false) (LOp.eqb (LOp.not rfl rfl) rfl) ?_
  refine zN ?_
  refine RunC.cond_false rfl rfl ?_
  refine RunC.skip ?_
  refine zQ ?_
  refine zl (r := f64 (some 0)) (LOp.le (LOp.assign rfl rfl) (ALe.fl (by kernel_rfl) (by kernel_rfl))) ?_
  refine zN ?_
  refine RunC.seq ?_
  refine zQ ?_
  refine zm (r := (sFc a0)) ?_
  refine zl (r := i64 (a0.length : Int)) (LOp.len_sl und24 rfl rfl) ?_
  refine zm (r := i64 0) ?_
  refine zN ?_
  obtain ⟨z2, hz_2, h⟩ := obind_some h
  refine RunC.cutN (fun τ Γ => ∃ (y11 : F), WeakLe τ [(6, f64 y11)] ∧ DeadLe Γ [] ∧ z2 = .inl y11) ?_ ?_
  ·refine RunC.block (RunC.loop (RunL.loopM (x := z2) (i_LongDot_s1 a0 a1) (fun (s : F × Int) τ Γ => WeakLe τ [(1, (sFc a1)), (6, f64 s.1), (13, (sFc a0)), (14, i64 (a0.length : Int)), (15, i64 s.2)] ∧ DeadLe Γ []) ?_ _ _ _ hz_2 ⟨⟨aR, aR, aR, aR, aR, trivial⟩, trivial⟩))
   rintro ⟨y2, v3⟩ τ2 Γ2 y2_ ⟨hw2, hd2⟩ h2_ ho2 hr2
   refine RunC.wl (τ' := [(1, (sFc a1)), (6, f64 y2), (13, (sFc a0)), (14, i64 (a0.length : Int)), (15, i64 v3)]) (Γ' := []) hw2 hd2 ?_
   replace h2_ : i_LongDot_b1 a0 a1 y2 v3 = some y2_ := h2_
   unfold i_LongDot_b1 at h2_
   refine RunC.seq ?_
   rcases bsel_some h2_ with ⟨hc3, h2_⟩ | ⟨hc3, h2_⟩
   ·refine RunC.regionW ?_
    refine zl (r := b true) (LOp.eqb (LOp.lss rfl rfl rfl) hc3) ?_
    refine zN ?_
    refine RunC.seq ?_
    refine RunC.cond_true rfl rfl ?_
    refine RunC.skip ?_
    refine RunC.seq ?_
    refine RunC.block ?_
    refine RunC.seq ?_
    obtain ⟨e4, he4, h2_⟩ := obind_some h2_
    refine RunC.regionW ?_
    refine zm (r := i64 v3) ?_
    refine zl (r := ptr [f32 e4]) (LOp.le (LOp.ix (f := f32) und24 siz36 rfl rfl rfl rfl he4) ALe.ptr) ?_
    refine zl (r := f32 e4) (LOp.load1 agg36 rfl rfl) ?_
    refine za (r := i64 v3) ?_
    refine za (r := f32 e4) ?_
    refine zN ?_
    obtain ⟨x5, hx5, h2_⟩ := olet_some h2_
    obtain ⟨e6, he6, h2_⟩ := obind_some h2_
    obtain ⟨x7, hx7, h2_⟩ := olet_some h2_
    obtain ⟨r8, hf8, h2_⟩ := obind_some h2_
    obtain ⟨x9, hx9, h2_⟩ := olet_some h2_
    refine RunC.regionW ?_
    refine zm (r := f64 y2) ?_
    refine zm (r := f32 e4) ?_
    refine ROps.d (r := f64 x5) (fs := []) (Γ' := []) rfl rfl rfl (TOp.eqr (TOp.widen (src := 36) (dst := 37) ⟨_, pun36⟩ pun37 rfl (OpF.tmp rfl)) (congrArg (f .f64) hx5)) rfl ?_
    refine zm (r := (sFc a1)) ?_
    refine zm (r := i64 v3) ?_
    refine zl (r := ptr [f32 e6]) (LOp.le (LOp.ix (f := f32) und24 siz36 rfl rfl rfl rfl he6) ALe.ptr) ?_
    refine zl (r := f32 e6) (LOp.load1 agg36 rfl rfl) ?_
    refine ROps.d (r := f64 x7) (fs := []) (Γ' := []) rfl rfl rfl (TOp.eqr (TOp.widen (src := 36) (dst := 37) ⟨_, pun36⟩ pun37 rfl (OpF.tmp rfl)) (congrArg (f .f64) hx7)) rfl ?_
    refine ROps.d (r := f64 r8) (fs := []) (Γ' := []) rfl rfl rfl (TOp.callB (CallAs.func ent123 rfl rfl) (Bors.cons (Bor.pure rfl) (Bors.cons (Bor.pure rfl) Bors.nil)) rfl rfl (i_mul64_ok x5 x7 r8 hf8)) rfl ?_
    refine ROps.d (r := f64 x9) (fs := []) (Γ' := []) rfl rfl rfl (TOp.eqr (TOp.fop (.inl rfl) rfl (OpF.tmp rfl) (OpF.tmp rfl)) (congrArg (f .f64) hx9)) rfl ?_
    refine za (r := f64 x9) ?_
    refine zN ?_
    refine RunC.wl (τ' := [(1, (sFc a1)), (6, f64 x9), (13, (sFc a0)), (14, i64 (a0.length : Int)), (15, i64 v3)]) (Γ' := []) ⟨aR, aR, aR, aR, aR, trivial⟩ trivial ?_
    obtain ⟨x10, hx10, h2_⟩ := olet_some h2_
    refine RunC.regionW ?_
    refine zl (r := i64 x10) (LOp.eqr (LOp.add rfl rfl rfl) (congrArg (ik .i64) hx10)) ?_
    refine zm (r := i64 x10) ?_
    refine zN ?_
    cases Option.some.inj h2_
    exact ⟨_, rfl, ⟨aR, aR, aR, aR, aR, trivial⟩, trivial⟩
   ·refine RunC.regionW ?_
    refine zl (r := b false) (LOp.eqb (LOp.lss rfl rfl rfl) hc3) ?_
    refine zN ?_
    refine RunC.seq ?_
    refine RunC.cond_false rfl rfl ?_
    refine RunC.exit ?_
    cases Option.some.inj h2_
    have hx := ho2 _ rfl
    exact ⟨y2, ⟨aR, trivial⟩, trivial, hx⟩
  ·rintro τ3 Γ3 ⟨y11, hw3, hd3, rfl⟩
   refine RunC.wl hw3 hd3 ?_
   replace h : i_LongDot_k1 y11 = some (q0, q1) := h
   unfold i_LongDot_k1 at h
   refine RunC.seq ?_
   obtain ⟨y12, hy11, h⟩ := obind_some h
   obtain ⟨r13, r14, hf12, h⟩ := obind2_some h
   refine RunC.regionW ?_
   refine zm (r := f64 y11) ?_
   refine ROps.d (r := f32 y12) (fs := []) (Γ' := []) rfl rfl rfl (TOp.narrow (src := 37) (dst := 36) ⟨_, pun37⟩ pun36 rfl (OpF.tmp rfl) hy11) rfl ?_
   refine ROps.d (r := tup [f32 r13, b r14]) (fs := []) (Γ' := []) rfl rfl rfl (TOp.callB (CallAs.func ent117 rfl rfl) (Bors.cons (Bor.pure rfl) Bors.nil) rfl rfl (i_finite_ok y12 r13 r14 hf12)) rfl ?_
   refine zl (r := f32 r13) (LOp.extract rfl rfl rfl) ?_
   refine zl (r := b r14) (LOp.extract rfl rfl rfl) ?_
   refine za (r := f32 r13) ?_
   refine za (r := b r14) ?_
   refine zN ?_
   refine RunC.ret ?_
   have hq := Option.some.inj h
   obtain ⟨hq0, hq⟩ := Prod.mk.inj hq
   subst q0
   subst q1
   exact bodyQ.pure (.inr rfl) rfl (Res.two rfl (RV.tmp rfl) (RV.tmp rfl))
 ·refine RunC.regionW ?_
  refine zm (r := (sFc a0)) ?_
  refine zm (r := (sFc a1)) ?_
  refine ROps.d (r := b false) (fs := []) (Γ' := []) rfl rfl rfl (TOp.eqb (TOp.callB (CallAs.func ent122 rfl rfl) (Bors.cons (Bor.sl (fun _ => rfl)) (Bors.cons (Bor.sl (fun _ => rfl)) Bors.nil)) rfl rfl (i_areVectors_ok a0 a1 r1 hf1)) hc2) rfl ?_
  refine zl (r := b true) (LOp.eqb (LOp.not rfl rfl) rfl) ?_
  refine zN ?_
  refine RunC.cond_true rfl rfl ?_
  refine zQ ?_
  refine zl (r := f32 (some 0)) (LOp.le (LOp.assign rfl rfl) (ALe.fl (by kernel_rfl) (by kernel_rfl))) ?_
  refine za (r := b false) ?_
  refine zN ?_
  refine RunC.ret ?_
  have hq := Option.some.inj h
  obtain ⟨hq0, hq⟩ := Prod.mk.inj hq
  subst q0
  subst q1
  exact bodyQ.pure (.inr rfl) rfl (Res.two rfl (RV.tmp rfl) (RV.tmp rfl))
noncomputable def i_CarrySum_b1 (a0 : List F) (y2 : F) (y3 : F) (v4 : Int) : Option (LR (F × F × Int) (F × F) (F × F × Bool)) :=
 bsel (decide (v4 < (a0.length : Int))) (
  obind (at? a0 v4) fun (e5 : F) =>
  olet (fop .sub .f32 e5 y3) fun (x6 : F) =>
  olet (fop .add .f32 y2 x6) fun (x7 : F) =>
  olet (fop .sub .f32 x7 y2) fun (x8 : F) =>
  olet (fop .sub .f32 x8 x6) fun (x9 : F) =>
  olet (IntKind.i64.wrap (v4 + 1)) fun (x10 : Int) =>
  some (LR.next (x7, x9, x10))) (
  some (LR.out (y2, y3)))
noncomputable def i_CarrySum_s1 (a0 : List F) : (F × F × Int) → Option (LR (F × F × Int) (F × F) (F × F × Bool)) := fun s => i_CarrySum_b1 a0 s.1 s.2.1 s.2.2
noncomputable def i_CarrySum_k1 (y11 : F) (y12 : F) : Option (F × F × Bool) :=
 obind (i_areFinite ([y11, y12] : List F)) fun (r13 : Bool) =>
 bsel r13 (
  some (y11, y12, true)) (
  some (some 0, some 0, false))
noncomputable def i_CarrySum (a0 : List F) : Option (F × F × Bool) :=
 obind (i_IsVector a0) fun (r1 : Bool) =>
 bsel r1 (
  obind (loopM (i_CarrySum_s1 a0) (some 0, some 0, 0)) fun z => osum z (fun e => i_CarrySum_k1 e.1 e.2) (fun r => some r)) (
  some (some 0, some 0, false))
theorem i_CarrySum_ok (a0 : List F) (q0 : F) (q1 : F) (q2 : Bool) (h : i_CarrySum a0 = some (q0, q1, q2)) : Ev Try.prog 52 [(sFc a0)] [] (tup [f32 q0, f32 q1, b q2]) [] := by
 refine Ev.start Try.func52 rfl rfl 1 (τ := [(0, (sFc a0))]) rfl (Γ' := [⟨0, none⟩]) rfl (n := 81) rfl (g := 0) rfl (fun _ => rfl) ?_
 unfold i_CarrySum at h
 refine zQ ?_
 iterate 2 (refine zl (r := f32 (some 0)) (LOp.le (LOp.assign rfl rfl) (ALe.fl (by kernel_rfl) (by kernel_rfl))) ?_)
 refine za (r := b false) ?_
 refine zN ?_
 iterate 2 (refine RunC.seq ?_)
 obtain ⟨r1, hf1, h⟩ := obind_some h
 rcases bsel_some h with ⟨hc2, h⟩ | ⟨hc2, h⟩
 ·refine RunC.regionW ?_
  refine zm (r := (sFc a0)) ?_
  refine ROps.d (r := b true) (fs := []) (Γ' := [⟨0, none⟩]) rfl rfl rfl (TOp.eqb (TOp.callB (CallAs.func ent70 rfl rfl) (Bors.cons (Bor.sl (fun _ => rfl)) Bors.nil) rfl rfl (i_IsVector_ok a0 r1 hf1)) hc2) rfl ?_
  refine zl (r := b false) (LOp.eqb (LOp.not rfl rfl) rfl) ?_
  refine zN ?_
  refine RunC.cond_false rfl rfl ?_
  refine RunC.skip ?_
  refine zQ ?_
  iterate 2 (refine zl (r := f32 (some 0)) (LOp.le (LOp.assign rfl rfl) (ALe.fl (by kernel_rfl) (by kernel_rfl))) ?_)
  refine zN ?_
  refine RunC.seq ?_
  refine zQ ?_
  refine zm (r := (sFc a0)) ?_
  refine zl (r := i64 (a0.length : Int)) (LOp.len_sl und24 rfl rfl) ?_
  refine zm (r := i64 0) ?_
  refine zN ?_
  obtain ⟨z2, hz_2, h⟩ := obind_some h
  refine RunC.cutN (fun τ Γ => ∃ (y11 : F) (y12 : F), WeakLe τ [(5, f32 y11), (6, f32 y12)] ∧ DeadLe Γ [⟨0, none⟩] ∧ z2 = .inl (y11, y12)) ?_ ?_
  ·refine RunC.block (RunC.loop (RunL.loopM (x := z2) (i_CarrySum_s1 a0) (fun (s : F × F × Int) τ Γ => WeakLe τ [(5, f32 s.1), (6, f32 s.2.1), (14, (sFc a0)), (15, i64 (a0.length : Int)), (16, i64 s.2.2)] ∧ DeadLe Γ [⟨0, none⟩]) ?_ _ _ _ hz_2 ⟨⟨aR, aR, aR, aR, aR, trivial⟩, ⟨⟨rfl, .inr rfl⟩, trivial⟩⟩))
   rintro ⟨y2, y3, v4⟩ τ2 Γ2 y2_ ⟨hw2, hd2⟩ h2_ ho2 hr2
   refine RunC.wl (τ' := [(5, f32 y2), (6, f32 y3), (14, (sFc a0)), (15, i64 (a0.length : Int)), (16, i64 v4)]) (Γ' := [⟨0, none⟩]) hw2 hd2 ?_
   replace h2_ : i_CarrySum_b1 a0 y2 y3 v4 = some y2_ := h2_
   unfold i_CarrySum_b1 at h2_
   refine RunC.seq ?_
   rcases bsel_some h2_ with ⟨hc3, h2_⟩ | ⟨hc3, h2_⟩
   ·refine RunC.regionW ?_
    refine zl (r := b true) (LOp.eqb (LOp.lss rfl rfl rfl) hc3) ?_
    refine zN ?_
    refine RunC.seq ?_
    refine RunC.cond_true rfl rfl ?_
    refine RunC.skip ?_
    refine RunC.seq ?_
    refine RunC.block ?_
    refine RunC.seq ?_
    obtain ⟨e5, he4, h2_⟩ := obind_some h2_
    refine RunC.regionW ?_
    refine zl (r := ptr [f32 e5]) (LOp.le (LOp.ix (f := f32) und24 siz36 rfl rfl rfl rfl he4) ALe.ptr) ?_
    refine zl (r := f32 e5) (LOp.load1 agg36 rfl rfl) ?_
    refine za (r := f32 e5) ?_
    refine zN ?_
    refine RunC.seq ?_
    obtain ⟨x6, hx5, h2_⟩ := olet_some h2_
    refine RunC.regionW ?_
    refine zm (r := f32 e5) ?_
    refine zm (r := f32 y3) ?_
    refine ROps.d (r := f32 x6) (fs := []) (Γ' := [⟨0, none⟩]) rfl rfl rfl (TOp.eqr (TOp.fop (.inr (.inl rfl)) rfl (OpF.tmp rfl) (OpF.tmp rfl)) (congrArg (f .f32) hx5)) rfl ?_
    refine za (r := f32 x6) ?_
    refine zN ?_
    refine RunC.seq ?_
    obtain ⟨x7, hx6, h2_⟩ := olet_some h2_
    refine RunC.regionW ?_
    refine zm (r := f32 y2) ?_
    refine zm (r := f32 x6) ?_
    refine ROps.d (r := f32 x7) (fs := []) (Γ' := [⟨0, none⟩]) rfl rfl rfl (TOp.eqr (TOp.fop (.inl rfl) rfl (OpF.tmp rfl) (OpF.tmp rfl)) (congrArg (f .f32) hx6)) rfl ?_
    refine za (r := f32 x7) ?_
    refine zN ?_
    refine RunC.seq ?_
    obtain ⟨x8, hx7, h2_⟩ := olet_some h2_
    obtain ⟨x9, hx8, h2_⟩ := olet_some h2_
    refine RunC.regionW ?_
    refine zm (r := f32 x7) ?_
    refine zm (r := f32 y2) ?_
    refine ROps.d (r := f32 x8) (fs := []) (Γ' := [⟨0, none⟩]) rfl rfl rfl (TOp.eqr (TOp.fop (.inr (.inl rfl)) rfl (OpF.tmp rfl) (OpF.tmp rfl)) (congrArg (f .f32) hx7)) rfl ?_
    refine zm (r := f32 x6) ?_
    refine ROps.d (r := f32 x9) (fs := []) (Γ' := [⟨0, none⟩]) rfl rfl rfl (TOp.eqr (TOp.fop (.inr (.inl rfl)) rfl (OpF.tmp rfl) (OpF.tmp rfl)) (congrArg (f .f32) hx8)) rfl ?_
    refine za (r := f32 x9) ?_
    refine zN ?_
    refine RunC.wl (τ' := [(6, f32 x9), (10, f32 x7), (14, (sFc a0)), (15, i64 (a0.length : Int)), (16, i64 v4)]) (Γ' := [⟨0, none⟩]) ⟨aR, aR, aR, aR, aR, trivial⟩ ⟨⟨rfl, .inr rfl⟩, trivial⟩ ?_
    refine RunC.regionW ?_
    refine zm (r := f32 x7) ?_
    refine za (r := f32 x7) ?_
    refine zN ?_
    obtain ⟨x10, hx9, h2_⟩ := olet_some h2_
    refine RunC.regionW ?_
    refine zl (r := i64 x10) (LOp.eqr (LOp.add rfl rfl rfl) (congrArg (ik .i64) hx9)) ?_
    refine zm (r := i64 x10) ?_
    refine zN ?_
    cases Option.some.inj h2_
    exact ⟨_, rfl, ⟨aR, aR, aR, aR, aR, trivial⟩, ⟨⟨rfl, .inr rfl⟩, trivial⟩⟩
   ·refine RunC.regionW ?_
    refine zl (r := b false) (LOp.eqb (LOp.lss rfl rfl rfl) hc3) ?_
    refine zN ?_
    refine RunC.seq ?_
    refine RunC.cond_false rfl rfl ?_
    refine RunC.exit ?_
    cases Option.some.inj h2_
    have hx := ho2 _ rfl
    exact ⟨y2, y3, ⟨aR, aR, trivial⟩, ⟨⟨rfl, .inr rfl⟩, trivial⟩, hx⟩
  ·rintro τ3 Γ3 ⟨y11, y12, hw3, hd3, rfl⟩
   refine RunC.wl hw3 hd3 ?_
   replace h : i_CarrySum_k1 y11 y12 = some (q0, q1, q2) := h
   unfold i_CarrySum_k1 at h
   iterate 2 (refine RunC.seq ?_)
   obtain ⟨r13, hf10, h⟩ := obind_some h
   rcases bsel_some h with ⟨hc11, h⟩ | ⟨hc11, h⟩
   ·refine RunC.regionW ?_
    refine zm (r := f32 y11) ?_
    refine zm (r := f32 y12) ?_
    refine ROps.d (r := oref 0 1 0 2) (fs := [(0, (([y11, y12] : List F).map f32))]) (Γ' := [⟨1, some (([y11, y12] : List F).map f32)⟩]) rfl rfl rfl (TOp.buildSlice_o (g := ⟨0, none⟩) (za := f32 (some 0)) (qs := [(0, [f32 y11]), (1, [f32 y12])]) 0 rfl und24 siz36 zer36 rfl zel36 rfl rfl ⟨rfl, ⟨_, ALe.refl _, rfl⟩, ⟨rfl, ⟨_, ALe.refl _, rfl⟩, trivial⟩⟩ rfl) rfl ?_
    refine ROps.d (r := b true) (fs := []) (Γ' := [⟨1, some (([y11, y12] : List F).map f32)⟩]) rfl rfl rfl (TOp.eqb (TOp.callB (CallAs.func ent79 rfl rfl) (Bors.cons (Bor.own (f := f32) (n := 2) (l := ([y11, y12] : List F)) (fun _ => rfl) rfl rfl) Bors.nil) rfl rfl (i_areFinite_ok ([y11, y12] : List F) r13 hf10)) hc11) rfl ?_
    refine zl (r := b false) (LOp.eqb (LOp.not rfl rfl) rfl) ?_
    refine zN ?_
    refine RunC.wl (τ' := [(5, f32 y11), (6, f32 y12), (37, b false)]) (Γ' := [⟨1, none⟩]) ⟨aR, aR, aR, trivial⟩ ⟨⟨rfl, .inl rfl⟩, trivial⟩ ?_
    refine RunC.cond_false rfl rfl ?_
    refine RunC.skip ?_
    refine zQ ?_
    refine zm (r := f32 y11) ?_
    refine zm (r := f32 y12) ?_
    refine za (r := f32 y11) ?_
    refine za (r := f32 y12) ?_
    refine za (r := b true) ?_
    refine zN ?_
    refine RunC.ret ?_
    have hq := Option.some.inj h
    obtain ⟨hq0, hq⟩ := Prod.mk.inj hq
    obtain ⟨hq1, hq⟩ := Prod.mk.inj hq
    subst q0
    subst q1
    subst q2
    exact bodyQ.pure (.inr rfl) rfl (Res.three rfl (RV.tmp rfl) (RV.tmp rfl) (RV.tmp rfl))
   ·refine RunC.regionW ?_
    refine zm (r := f32 y11) ?_
    refine zm (r := f32 y12) ?_
    refine ROps.d (r := oref 0 1 0 2) (fs := [(0, (([y11, y12] : List F).map f32))]) (Γ' := [⟨1, some (([y11, y12] : List F).map f32)⟩]) rfl rfl rfl (TOp.buildSlice_o (g := ⟨0, none⟩) (za := f32 (some 0)) (qs := [(0, [f32 y11]), (1, [f32 y12])]) 0 rfl und24 siz36 zer36 rfl zel36 rfl rfl ⟨rfl, ⟨_, ALe.refl _, rfl⟩, ⟨rfl, ⟨_, ALe.refl _, rfl⟩, trivial⟩⟩ rfl) rfl ?_
    refine ROps.d (r := b false) (fs := []) (Γ' := [⟨1, some (([y11, y12] : List F).map f32)⟩]) rfl rfl rfl (TOp.eqb (TOp.callB (CallAs.func ent79 rfl rfl) (Bors.cons (Bor.own (f := f32) (n := 2) (l := ([y11, y12] : List F)) (fun _ => rfl) rfl rfl) Bors.nil) rfl rfl (i_areFinite_ok ([y11, y12] : List F) r13 hf10)) hc11) rfl ?_
    refine zl (r := b true) (LOp.eqb (LOp.not rfl rfl) rfl) ?_
    refine zN ?_
    refine RunC.wl (τ' := [(5, f32 y11), (6, f32 y12), (37, b true)]) (Γ' := [⟨1, none⟩]) ⟨aR, aR, aR, trivial⟩ ⟨⟨rfl, .inl rfl⟩, trivial⟩ ?_
    refine RunC.cond_true rfl rfl ?_
    refine zQ ?_
    iterate 2 (refine zl (r := f32 (some 0)) (LOp.le (LOp.assign rfl rfl) (ALe.fl (by kernel_rfl) (by kernel_rfl))) ?_)
    refine za (r := b false) ?_
    refine zN ?_
    refine RunC.ret ?_
    have hq := Option.some.inj h
    obtain ⟨hq0, hq⟩ := Prod.mk.inj hq
    obtain ⟨hq1, hq⟩ := Prod.mk.inj hq
    subst q0
    subst q1
    subst q2
    exact bodyQ.pure (.inr rfl) rfl (Res.three rfl (RV.tmp rfl) (RV.tmp rfl) (RV.tmp rfl))
 ·refine RunC.regionW ?_
  refine zm (r := (sFc a0)) ?_
  refine ROps.d (r := b false) (fs := []) (Γ' := [⟨0, none⟩]) rfl rfl rfl (TOp.eqb (TOp.callB (CallAs.func ent70 rfl rfl) (Bors.cons (Bor.sl (fun _ => rfl)) Bors.nil) rfl rfl (i_IsVector_ok a0 r1 hf1)) hc2) rfl ?_
  refine zl (r := b true) (LOp.eqb (LOp.not rfl rfl) rfl) ?_
  refine zN ?_
  refine RunC.cond_true rfl rfl ?_
  refine zQ ?_
  iterate 2 (refine zl (r := f32 (some 0)) (LOp.le (LOp.assign rfl rfl) (ALe.fl (by kernel_rfl) (by kernel_rfl))) ?_)
  refine za (r := b false) ?_
  refine zN ?_
  refine RunC.ret ?_
  have hq := Option.some.inj h
  obtain ⟨hq0, hq⟩ := Prod.mk.inj hq
  obtain ⟨hq1, hq⟩ := Prod.mk.inj hq
  subst q0
  subst q1
  subst q2
  exact bodyQ.pure (.inr rfl) rfl (Res.three rfl (RV.tmp rfl) (RV.tmp rfl) (RV.tmp rfl))
end Go.Proofs.Ytcjbfpoaidjpaaa
