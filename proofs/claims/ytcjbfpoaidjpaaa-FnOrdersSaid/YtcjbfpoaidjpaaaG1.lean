/- Generated. -/
import Derived.Test.YtcjbfpoaidjpaaaG0
namespace Go.Proofs.Ytcjbfpoaidjpaaa
open Go Go.AM Go.AM.AV
set_option maxRecDepth 20000
set_option maxHeartbeats 4000000
set_option linter.unusedVariables false
set_option linter.unusedSimpArgs false
noncomputable def i_Matrix_at (a0 : Int) (a1 : Int) (a2 : List F) (a3 : Int) (a4 : Int) : Option (F) :=
 olet (IntKind.i64.wrap (a3 * a1)) fun (x1 : Int) =>
 olet (IntKind.i64.wrap (x1 + a4)) fun (x2 : Int) =>
 obind (at? a2 x2) fun (e3 : F) =>
 some e3
theorem i_Matrix_at_ok (a0 : Int) (a1 : Int) (a2 : List F) (a3 : Int) (a4 : Int) (q0 : F) (h : i_Matrix_at a0 a1 a2 a3 a4 = some q0) : Ev Try.prog 76 [agg (mXc a0 a1 a2), i64 a3, i64 a4] [] (f32 q0) [] := by
 refine Ev.start Try.func76 rfl rfl 0 (τ := [(0, agg (mXc a0 a1 a2)), (1, i64 a3), (2, i64 a4)]) rfl (Γ' := []) rfl (n := 35) rfl (g := 0) rfl (fun _ => rfl) ?_
 unfold i_Matrix_at at h
 refine zQ ?_
 refine ROps.d (r := ptr (mXc a0 a1 a2)) (fs := []) (Γ' := []) rfl rfl rfl (TOp.box_s rfl rfl rfl) rfl ?_
 refine zl (r := f32 (some 0)) (LOp.le (LOp.assign rfl rfl) (ALe.fl (by kernel_rfl) (by kernel_rfl))) ?_
 refine zN ?_
 refine RunC.seq ?_
 obtain ⟨x1, hx1, h⟩ := olet_some h
 obtain ⟨x2, hx2, h⟩ := olet_some h
 obtain ⟨e3, he3, h⟩ := obind_some h
 refine RunC.regionW ?_
 refine zl (r := ptr [(sFc a2)]) (LOp.fap und26 rfl siz24 rfl rfl rfl) ?_
 refine zl (r := (sFc a2)) (LOp.load1 agg24 rfl rfl) ?_
 refine zm (r := i64 a3) ?_
 refine zl (r := ptr [i64 a1, (sFc a2)]) (LOp.fap und26 rfl siz2 rfl rfl rfl) ?_
 refine zl (r := i64 a1) (LOp.load1 agg2 rfl rfl) ?_
 refine zl (r := i64 x1) (LOp.eqr (LOp.mul rfl rfl rfl) (congrArg (ik .i64) hx1)) ?_
 refine zm (r := i64 a4) ?_
 refine zl (r := i64 x2) (LOp.eqr (LOp.add rfl rfl rfl) (congrArg (ik .i64) hx2)) ?_
 refine zl (r := ptr [f32 e3]) (LOp.le (LOp.ix (f := f32) und24 siz36 rfl rfl rfl rfl he3) ALe.ptr) ?_
 refine zl (r := f32 e3) (LOp.load1 agg36 rfl rfl) ?_
 refine za (r := f32 e3) ?_
 refine zN ?_
 refine RunC.ret ?_
 have hq := Option.some.inj h
 subst q0
 exact bodyQ.pure (.inr rfl) rfl (Res.one rfl (RV.tmp rfl))
noncomputable def i_OrderRows_1 (a0 : Int) (a1 : Int) (a2 : Int) (a3 : Int) (a4 : List F) (a5 : List Int) : Option (F) :=
 obind (at? a5 a0) fun (e1 : Int) =>
 obind (i_Matrix_at a2 a3 a4 e1 a1) fun (r2 : F) =>
 some r2
theorem i_OrderRows_1_ok (a0 : Int) (a1 : Int) (a2 : Int) (a3 : Int) (a4 : List F) (a5 : List Int) (q0 : F) (h : i_OrderRows_1 a0 a1 a2 a3 a4 a5 = some q0) : Ev Try.prog 113 [i64 a0, i64 a1, ptr (mXc a2 a3 a4), ptr [sl a5.length (a5.map i64)]] [] (f32 q0) [] := by
 refine Ev.start Try.func113 rfl rfl 0 (τ := [(0, i64 a0), (1, i64 a1), (2, ptr (mXc a2 a3 a4)), (3, ptr [sl a5.length (a5.map i64)])]) rfl (Γ' := []) rfl (n := 29) rfl (g := 0) rfl (fun _ => rfl) ?_
 unfold i_OrderRows_1 at h
 refine zQ ?_
 refine zl (r := f32 (some 0)) (LOp.le (LOp.assign rfl rfl) (ALe.fl (by kernel_rfl) (by kernel_rfl))) ?_
 refine zN ?_
 refine RunC.seq ?_
 obtain ⟨e1, he1, h⟩ := obind_some h
 obtain ⟨r2, hf2, h⟩ := obind_some h
 refine RunC.region_draw (Γ' := []) 8 mixed 
  (TR.l (r := agg (mXc a2 a3 a4)) rfl rfl (LOp.loadAgg agg26 siz26 rfl rfl rfl rfl) <|
  (TR.l (r := sl a5.length (a5.map i64)) rfl rfl (LOp.load1 agg44 rfl rfl) <|
  (TR.l (r := i64 a0) rfl rfl (LOp.move rfl rfl) <|
  (TR.l (r := ptr [i64 e1]) rfl rfl (LOp.le (LOp.ix (f := i64) und44 siz2 rfl rfl rfl rfl he1) ALe.ptr) <|
  (TR.l (r := i64 e1) rfl rfl (LOp.load1 agg2 rfl rfl) <|
  (TR.l (r := i64 a1) rfl rfl (LOp.move rfl rfl) <|
  (TR.d (r := f32 r2) (fs := []) rfl rfl (TOp.callB (CallAs.func ent76 rfl rfl) (Bors.cons (Bor.agg (Bors.cons (Bor.pure rfl) (Bors.cons (Bor.pure rfl) (Bors.cons (Bor.sl (fun _ => rfl)) Bors.nil)))) (Bors.cons (Bor.pure rfl) (Bors.cons (Bor.pure rfl) Bors.nil))) rfl rfl (i_Matrix_at_ok a2 a3 a4 e1 a1 r2 hf2)) <|
  (TR.l (r := f32 r2) rfl rfl (LOp.assign rfl rfl) <|
  TR.nil)))))))) rfl (by kernel_rfl) rfl fills_nil rfl ?_
 iterate 8 refine ROps.dropS ?_
 refine ROps.drop0 ?_
 refine zN ?_
 refine RunC.ret ?_
 have hq := Option.some.inj h
 subst q0
 exact bodyQ.pure (.inr rfl) rfl (Res.one rfl (RV.tmp rfl))
noncomputable def i_Matrix_set_02o (a0 : Int) (a1 : Int) (a2 : Int) (a3 : Int) (a4 : F) (a5 : List F) : Option ((List F)) :=
 olet (IntKind.i64.wrap (a2 * a1)) fun (x1 : Int) =>
 olet (IntKind.i64.wrap (x1 + a3)) fun (x2 : Int) =>
 obind (setAt? a5 x2 a4) fun (L3 : List F) =>
 some L3
theorem i_Matrix_set_02o_ok (a0 : Int) (a1 : Int) (a2 : Int) (a3 : Int) (a4 : F) (a5 : List F) (q0 : List F) (h : i_Matrix_set_02o a0 a1 a2 a3 a4 a5 = some q0) : Ev Try.prog 78 [agg (oXc a0 a1 0 0 a5.length), i64 a2, i64 a3, f32 a4] [⟨0, some (a5.map f32)⟩] (tup []) [⟨0, some (q0.map f32)⟩] := by
 refine Ev.start Try.func78 rfl rfl 0 (τ := [(0, agg (oXc a0 a1 0 0 a5.length)), (1, i64 a2), (2, i64 a3), (3, f32 a4)]) rfl (Γ' := [⟨0, some (a5.map f32)⟩]) rfl (n := 36) rfl (g := 1) rfl (by decide) ?_
 unfold i_Matrix_set_02o at h
 refine zQ ?_
 refine ROps.d (r := ptr (oXc a0 a1 0 0 a5.length)) (fs := []) (Γ' := [⟨0, some (a5.map f32)⟩]) rfl rfl rfl (TOp.box_s rfl rfl rfl) rfl ?_
 refine zN ?_
 obtain ⟨x1, hx1, h⟩ := olet_some h
 obtain ⟨x2, hx2, h⟩ := olet_some h
 obtain ⟨L3, he3, h⟩ := obind_some h
 refine RunC.regionW ?_
 refine zl (r := ptr [oref 0 0 0 a5.length]) (LOp.fap und26 rfl siz24 rfl rfl rfl) ?_
 refine zl (r := oref 0 0 0 a5.length) (LOp.load1 agg24 rfl rfl) ?_
 refine zm (r := i64 a2) ?_
 refine zl (r := ptr [i64 a1, oref 0 0 0 a5.length]) (LOp.fap und26 rfl siz2 rfl rfl rfl) ?_
 refine zl (r := i64 a1) (LOp.load1 agg2 rfl rfl) ?_
 refine zl (r := i64 x1) (LOp.eqr (LOp.mul rfl rfl rfl) (congrArg (ik .i64) hx1)) ?_
 refine zm (r := i64 a3) ?_
 refine zl (r := i64 x2) (LOp.eqr (LOp.add rfl rfl rfl) (congrArg (ik .i64) hx2)) ?_
 refine zm (r := f32 a4) ?_
 refine ROps.d (r := optr 0 0 x2.toNat) (fs := []) (Γ' := [⟨0, some (a5.map f32)⟩]) rfl rfl rfl (TOp.ixo und24 siz36 rfl rfl rfl (set_in he3 rfl) rfl) rfl ?_
 refine ROps.st (f := f32) (i := x2) (Γ' := [⟨0, some (L3.map f32)⟩]) rfl siz36 rfl rfl rfl aR rfl rfl rfl he3 rfl ?_
 refine zN ?_
 have hq := Option.some.inj h
 subst q0
 exact bodyQ.mk (r' := tup []) [(0, 0)] (.inl rfl) rfl (show List.Nodup [0] from by decide) rfl rfl (Res.zero rfl) (SelL.arr (f := f32) (fun _ => rfl) rfl trivial)
noncomputable def i_made_2Fi_OrderRows_1_b2 (a1 : Int) (a2 : Int) (a3 : Int) (a4 : List F) (a5 : List Int) (r1 : Int) (r2 : Int) (r3 : List F) (v6 : Int) (L7 : List F) (v9 : Int) : Option (LR ((List F) × Int) ((List F)) (Int × Int × (List F))) :=
 bsel (decide (v9 < a1)) (
  obind (i_OrderRows_1 v6 v9 a2 a3 a4 a5) fun (r11 : F) =>
  obind (i_Matrix_set_02o r1 r2 v6 v9 r11 L7) fun (r12 : List F) =>
  need (decide (r12.length = r3.length)) <|
  olet (IntKind.i64.wrap (v9 + 1)) fun (x13 : Int) =>
  some (LR.next (r12, x13))) (
  some (LR.out L7))
noncomputable def i_made_2Fi_OrderRows_1_s2 (a1 : Int) (a2 : Int) (a3 : Int) (a4 : List F) (a5 : List Int) (r1 : Int) (r2 : Int) (r3 : List F) (v6 : Int) : ((List F) × Int) → Option (LR ((List F) × Int) ((List F)) (Int × Int × (List F))) := fun s => i_made_2Fi_OrderRows_1_b2 a1 a2 a3 a4 a5 r1 r2 r3 v6 s.1 s.2
noncomputable def i_made_2Fi_OrderRows_1_k2 (v6 : Int) (L14 : List F) : Option (LR ((List F) × Int) ((List F)) (Int × Int × (List F))) :=
 olet (IntKind.i64.wrap (v6 + 1)) fun (x16 : Int) =>
 some (LR.next (L14, x16))
noncomputable def i_made_2Fi_OrderRows_1_b3 (a0 : Int) (a1 : Int) (a2 : Int) (a3 : Int) (a4 : List F) (a5 : List Int) (r1 : Int) (r2 : Int) (r3 : List F) (L4 : List F) (v6 : Int) : Option (LR ((List F) × Int) ((List F)) (Int × Int × (List F))) :=
 bsel (decide (v6 < a0)) (
  obind (loopM (i_made_2Fi_OrderRows_1_s2 a1 a2 a3 a4 a5 r1 r2 r3 v6) (L4, 0)) fun z => osum z (fun e => i_made_2Fi_OrderRows_1_k2 v6 e) (fun r => some (LR.ret r))) (
  some (LR.out L4))
noncomputable def i_made_2Fi_OrderRows_1_s3 (a0 : Int) (a1 : Int) (a2 : Int) (a3 : Int) (a4 : List F) (a5 : List Int) (r1 : Int) (r2 : Int) (r3 : List F) : ((List F) × Int) → Option (LR ((List F) × Int) ((List F)) (Int × Int × (List F))) := fun s => i_made_2Fi_OrderRows_1_b3 a0 a1 a2 a3 a4 a5 r1 r2 r3 s.1 s.2
noncomputable def i_made_2Fi_OrderRows_1_k3 (r1 : Int) (r2 : Int) (L17 : List F) : Option (Int × Int × (List F)) :=
 some (r1, r2, L17)
noncomputable def i_made_2Fi_OrderRows_1 (a0 : Int) (a1 : Int) (a2 : Int) (a3 : Int) (a4 : List F) (a5 : List Int) : Option (Int × Int × (List F)) :=
 obind3 (i_newMatrix a0 a1) fun (r1 : Int) (r2 : Int) (r3 : List F) =>
 obind (loopM (i_made_2Fi_OrderRows_1_s3 a0 a1 a2 a3 a4 a5 r1 r2 r3) (r3, 0)) fun z => osum z (fun e => i_made_2Fi_OrderRows_1_k3 r1 r2 e) (fun r => some r)
theorem i_made_2Fi_OrderRows_1_ok (a0 : Int) (a1 : Int) (a2 : Int) (a3 : Int) (a4 : List F) (a5 : List Int) (q0 : Int) (q1 : Int) (q2 : List F) (h : i_made_2Fi_OrderRows_1 a0 a1 a2 a3 a4 a5 = some (q0, q1, q2)) : Ev Try.prog 60 [i64 a0, i64 a1, fn (.func 113) [] [ptr (mXc a2 a3 a4), ptr [sl a5.length (a5.map i64)]]] [] (agg (oXc q0 q1 0 0 q2.length)) [⟨0, some (q2.map f32)⟩] := by
 refine Ev.start Try.func60 rfl rfl 3 (τ := [(0, i64 a0), (1, i64 a1), (2, fn (.func 113) [] [ptr (mXc a2 a3 a4), ptr [sl a5.length (a5.map i64)]])]) rfl (Γ' := [⟨0, none⟩, ⟨0, none⟩, ⟨0, none⟩]) rfl (n := 65) rfl (g := 0) rfl (fun _ => rfl) ?_
 unfold i_made_2Fi_OrderRows_1 at h
 refine zQ ?_
 refine ROps.d (r := optr 0 1 0) (fs := [(0, zMx)]) (Γ' := [⟨1, some zMx⟩, ⟨0, none⟩, ⟨0, none⟩]) rfl rfl rfl (TOp.alloc_o (g := ⟨0, none⟩) 0 rfl zer26 zok26 rfl) rfl ?_
 refine zN ?_
 refine RunC.seq ?_
 obtain ⟨r1, r2, r3, hf1, h⟩ := obind3_some h
 refine RunC.regionW ?_
 refine zm (r := i64 a0) ?_
 refine zm (r := i64 a1) ?_
 refine ROps.d (r := agg (oXc r1 r2 1 1 r3.length)) (fs := [(1, (r3.map f32))]) (Γ' := [⟨1, some zMx⟩, ⟨1, some (r3.map f32)⟩, ⟨0, none⟩]) rfl rfl rfl (TOp.callBN (ls := [(r3.map f32)]) [1] (CallAs.func ent126 rfl rfl) (Bors.cons (Bor.pure rfl) (Bors.cons (Bor.pure rfl) Bors.nil)) rfl (i_newMatrix_ok a0 a1 r1 r2 r3 hf1) (and_all (lts0_map (f := f32) (fun _ => rfl) _) rfl) (and_all (noss_map (f := f32) (fun _ => rfl) _) rfl) rfl (by decide) (ns_of ⟨⟨_, rfl⟩, trivial⟩)) rfl ?_
 refine ROps.d (r := optr 2 1 0) (fs := [(2, zMx)]) (Γ' := [⟨1, some zMx⟩, ⟨1, some (r3.map f32)⟩, ⟨1, some zMx⟩]) rfl rfl rfl (TOp.alloc_o (g := ⟨0, none⟩) 2 rfl zer26 zok26 rfl) rfl ?_
 refine ROps.store_le (r := agg (oXc r1 r2 1 1 r3.length)) (l' := (oXc r1 r2 1 1 r3.length)) (Γ' := [⟨1, some zMx⟩, ⟨1, some (r3.map f32)⟩, ⟨1, some (oXc r1 r2 1 1 r3.length)⟩]) rfl siz26 rfl rfl rfl aR rfl rfl rfl rfl (Nat.le_of_ble_eq_true rfl) rfl rfl ?_
 refine zN ?_
 refine RunC.seq ?_
 refine zQ ?_
 refine zm (r := i64 a0) ?_
 refine zm (r := i64 0) ?_
 refine zN ?_
 obtain ⟨z4, hz_4, h⟩ := obind_some h
 refine RunC.cutN (fun τ Γ => ∃ (L17 : List F), L17.length = r3.length ∧ WeakLe τ [(6, optr 0 1 0), (7, optr 2 1 0)] ∧ DeadLe Γ [⟨1, some zMx⟩, ⟨1, some (L17.map f32)⟩, ⟨1, some (oXc r1 r2 1 1 r3.length)⟩] ∧ z4 = .inl L17) ?_ ?_
 ·refine RunC.block (RunC.loop (RunL.loopM (x := z4) (i_made_2Fi_OrderRows_1_s3 a0 a1 a2 a3 a4 a5 r1 r2 r3) (fun (s : (List F) × Int) τ Γ => s.1.length = r3.length ∧ WeakLe τ [(1, i64 a1), (2, fn (.func 113) [] [ptr (mXc a2 a3 a4), ptr [sl a5.length (a5.map i64)]]), (6, optr 0 1 0), (7, optr 2 1 0), (13, i64 a0), (14, i64 s.2)] ∧ DeadLe Γ [⟨1, some zMx⟩, ⟨1, some (s.1.map f32)⟩, ⟨1, some (oXc r1 r2 1 1 r3.length)⟩]) ?_ _ _ _ hz_4 ⟨rfl, ⟨aR, aR, aR, aR, aR, aR, trivial⟩, ⟨⟨rfl, .inr rfl⟩, ⟨rfl, .inr rfl⟩, ⟨rfl, .inr rfl⟩, trivial⟩⟩))
  rintro ⟨L4, v6⟩ τ4 Γ4 y4_ ⟨hl5, hw4, hd4⟩ h4_ ho4 hr4
  refine RunC.wl (τ' := [(1, i64 a1), (2, fn (.func 113) [] [ptr (mXc a2 a3 a4), ptr [sl a5.length (a5.map i64)]]), (6, optr 0 1 0), (7, optr 2 1 0), (13, i64 a0), (14, i64 v6)]) (Γ' := [⟨1, some zMx⟩, ⟨1, some (L4.map f32)⟩, ⟨1, some (oXc r1 r2 1 1 r3.length)⟩]) hw4 hd4 ?_
  replace hl5 : L4.length = r3.length := hl5
  replace h4_ : i_made_2Fi_OrderRows_1_b3 a0 a1 a2 a3 a4 a5 r1 r2 r3 L4 v6 = some y4_ := h4_
  unfold i_made_2Fi_OrderRows_1_b3 at h4_
  refine RunC.seq ?_
  rcases bsel_some h4_ with ⟨hc2, h4_⟩ | ⟨hc2, h4_⟩
  ·refine RunC.regionW ?_
   refine zl (r := b true) (LOp.eqb (LOp.lss rfl rfl rfl) hc2) ?_
   refine zN ?_
   refine RunC.seq ?_
   refine RunC.cond_true rfl rfl ?_
   refine RunC.skip ?_
   refine RunC.seq ?_
   refine RunC.block ?_
   refine zQ ?_
   refine zm (r := i64 v6) ?_
   refine za (r := i64 v6) ?_
   refine zN ?_
   refine zQ ?_
   refine zm (r := i64 a1) ?_
   refine zm (r := i64 0) ?_
   refine zN ?_
   obtain ⟨z5, hz_5, h4_⟩ := obind_some h4_
   refine RunC.cutN (fun τ Γ => ∃ (L14 : List F), L14.length = r3.length ∧ WeakLe τ [(1, i64 a1), (2, fn (.func 113) [] [ptr (mXc a2 a3 a4), ptr [sl a5.length (a5.map i64)]]), (6, optr 0 1 0), (7, optr 2 1 0), (13, i64 a0), (14, i64 v6)] ∧ DeadLe Γ [⟨1, some zMx⟩, ⟨1, some (L14.map f32)⟩, ⟨1, some (oXc r1 r2 1 1 r3.length)⟩] ∧ z5 = .inl L14) ?_ ?_
   ·refine RunC.block (RunC.loop (RunL.loopM (x := z5) (i_made_2Fi_OrderRows_1_s2 a1 a2 a3 a4 a5 r1 r2 r3 v6) (fun (s : (List F) × Int) τ Γ => s.1.length = r3.length ∧ WeakLe τ [(1, i64 a1), (2, fn (.func 113) [] [ptr (mXc a2 a3 a4), ptr [sl a5.length (a5.map i64)]]), (6, optr 0 1 0), (7, optr 2 1 0), (8, i64 v6), (13, i64 a0), (14, i64 v6), (17, i64 a1), (18, i64 s.2)] ∧ DeadLe Γ [⟨1, some zMx⟩, ⟨1, some (s.1.map f32)⟩, ⟨1, some (oXc r1 r2 1 1 r3.length)⟩]) ?_ _ _ _ hz_5 ⟨hl5, ⟨aR, aR, aR, aR, aR, aR, aR, aR, aR, trivial⟩, ⟨⟨rfl, .inr rfl⟩, ⟨rfl, .inr rfl⟩, ⟨rfl, .inr rfl⟩, trivial⟩⟩))
    rintro ⟨L7, v9⟩ τ5 Γ5 y5_ ⟨hl8, hw5, hd5⟩ h5_ ho5 hr5
    refine RunC.wl (τ' := [(1, i64 a1), (2, fn (.func 113) [] [ptr (mXc a2 a3 a4), ptr [sl a5.length (a5.map i64)]]), (6, optr 0 1 0), (7, optr 2 1 0), (8, i64 v6), (13, i64 a0), (14, i64 v6), (17, i64 a1), (18, i64 v9)]) (Γ' := [⟨1, some zMx⟩, ⟨1, some (L7.map f32)⟩, ⟨1, some (oXc r1 r2 1 1 r3.length)⟩]) hw5 hd5 ?_
    replace hl8 : L7.length = r3.length := hl8
    replace h5_ : i_made_2Fi_OrderRows_1_b2 a1 a2 a3 a4 a5 r1 r2 r3 v6 L7 v9 = some y5_ := h5_
    unfold i_made_2Fi_OrderRows_1_b2 at h5_
    refine RunC.seq ?_
    rcases bsel_some h5_ with ⟨hc3, h5_⟩ | ⟨hc3, h5_⟩
    ·refine RunC.regionW ?_
     refine zl (r := b true) (LOp.eqb (LOp.lss rfl rfl rfl) hc3) ?_
     refine zN ?_
     refine RunC.seq ?_
     refine RunC.cond_true rfl rfl ?_
     refine RunC.skip ?_
     refine RunC.seq ?_
     refine RunC.block ?_
     refine zQ ?_
     refine zm (r := i64 v9) ?_
     refine za (r := i64 v9) ?_
     refine zN ?_
     obtain ⟨r11, hf5, h5_⟩ := obind_some h5_
     obtain ⟨r12, hf6, h5_⟩ := obind_some h5_
     obtain ⟨hn7, h5_⟩ := need_some h5_
     refine RunC.region_draw (Γ' := [⟨1, some zMx⟩, ⟨1, some (L7.map f32)⟩, ⟨1, some (oXc r1 r2 1 1 r3.length)⟩]) 7 mixed 
      (TR.d (r := agg (oXc r1 r2 1 1 r3.length)) (fs := []) rfl rfl (TOp.loadAgg_o rfl agg26 siz26 rfl rfl rfl rfl) <|
      (TR.l (r := i64 v6) rfl rfl (LOp.move rfl rfl) <|
      (TR.l (r := i64 v9) rfl rfl (LOp.move rfl rfl) <|
      (TR.l (r := fn (.func 113) [] [ptr (mXc a2 a3 a4), ptr [sl a5.length (a5.map i64)]]) rfl rfl (LOp.move rfl rfl) <|
      (TR.l (r := i64 v6) rfl rfl (LOp.move rfl rfl) <|
      (TR.l (r := i64 v9) rfl rfl (LOp.move rfl rfl) <|
      (TR.d (r := f32 r11) (fs := []) rfl rfl (TOp.callB (CallAs.fn ent113 rfl rfl rfl rfl) (Bors.cons (Bor.pure rfl) (Bors.cons (Bor.pure rfl) (Bors.cons (Bor.ptr (Bors.cons (Bor.pure rfl) (Bors.cons (Bor.pure rfl) (Bors.cons (Bor.sl (fun _ => rfl)) Bors.nil)))) (Bors.cons (Bor.ptr (Bors.cons (Bor.sl (fun _ => rfl)) Bors.nil)) Bors.nil)))) rfl rfl (i_OrderRows_1_ok v6 v9 a2 a3 a4 a5 r11 hf5)) <|
      TR.nil))))))) rfl (by kernel_rfl) rfl fills_nil rfl ?_
     iterate 7 refine ROps.dropS ?_
     refine ROps.drop0 ?_
     refine ROps.callO (A := [agg (oXc r1 r2 1 1 r3.length), i64 v6, i64 v9, f32 r11]) (args := [agg (oXc r1 r2 0 0 L7.length), i64 v6, i64 v9, f32 r11]) (Γc := [⟨0, some (L7.map f32)⟩]) (Γc' := [⟨0, some (r12.map f32)⟩]) (r' := tup []) (Γ' := [⟨1, some zMx⟩, ⟨1, some (r12.map f32)⟩, ⟨1, some (oXc r1 r2 1 1 r3.length)⟩]) [(1, 1)] [] rfl (CallAs.func ent78 rfl rfl) rfl rfl (SelOk.of (show List.Nodup [1] from by decide) (SelL.arr0 (f := f32) (fun _ => rfl) rfl trivial)) (live_of ⟨⟨_, _, rfl⟩, trivial⟩) (by simp [ren, rens, sigma, rens_f32, rens_f64, rens_i64, rens_ik, rens_str, rens_cp, hl8]) rfl (i_Matrix_set_02o_ok r1 r2 v6 v9 r11 L7 r12 hf6) rfl (news_of trivial) (show List.Nodup [1] from by decide) (by simp [ren, rens, sigma, of_decide_eq_true hn7]) (by simp [backOb, sigma, ren, rens, rens_f32, rens_f64, rens_i64, rens_ik, rens_str, rens_cp]) ?_
     refine zN ?_
     obtain ⟨x13, hx8, h5_⟩ := olet_some h5_
     refine RunC.regionW ?_
     refine zl (r := i64 x13) (LOp.eqr (LOp.add rfl rfl rfl) (congrArg (ik .i64) hx8)) ?_
     refine zm (r := i64 x13) ?_
     refine zN ?_
     cases Option.some.inj h5_
     exact ⟨_, rfl, (of_decide_eq_true hn7), ⟨aR, aR, aR, aR, aR, aR, aR, aR, aR, trivial⟩, ⟨⟨rfl, .inr rfl⟩, ⟨rfl, .inr rfl⟩, ⟨rfl, .inr rfl⟩, trivial⟩⟩
    ·refine RunC.regionW ?_
     refine zl (r := b false) (LOp.eqb (LOp.lss rfl rfl rfl) hc3) ?_
     refine zN ?_
     refine RunC.seq ?_
     refine RunC.cond_false rfl rfl ?_
     refine RunC.exit ?_
     cases Option.some.inj h5_
     have hx := ho5 _ rfl
     exact ⟨L7, hl8, ⟨aR, aR, aR, aR, aR, aR, trivial⟩, ⟨⟨rfl, .inr rfl⟩, ⟨rfl, .inr rfl⟩, ⟨rfl, .inr rfl⟩, trivial⟩, hx⟩
   ·rintro τ6 Γ6 ⟨L14, hl15, hw6, hd6, rfl⟩
    refine RunC.wl hw6 hd6 ?_
    replace h4_ : i_made_2Fi_OrderRows_1_k2 v6 L14 = some y4_ := h4_
    unfold i_made_2Fi_OrderRows_1_k2 at h4_
    obtain ⟨x16, hx9, h4_⟩ := olet_some h4_
    refine RunC.regionW ?_
    refine zl (r := i64 x16) (LOp.eqr (LOp.add rfl rfl rfl) (congrArg (ik .i64) hx9)) ?_
    refine zm (r := i64 x16) ?_
    refine zN ?_
    cases Option.some.inj h4_
    exact ⟨_, rfl, hl15, ⟨aR, aR, aR, aR, aR, aR, trivial⟩, ⟨⟨rfl, .inr rfl⟩, ⟨rfl, .inr rfl⟩, ⟨rfl, .inr rfl⟩, trivial⟩⟩
  ·refine RunC.regionW ?_
   refine zl (r := b false) (LOp.eqb (LOp.lss rfl rfl rfl) hc2) ?_
   refine zN ?_
   refine RunC.seq ?_
   refine RunC.cond_false rfl rfl ?_
   refine RunC.exit ?_
   cases Option.some.inj h4_
   have hx := ho4 _ rfl
   exact ⟨L4, hl5, ⟨aR, aR, trivial⟩, ⟨⟨rfl, .inr rfl⟩, ⟨rfl, .inr rfl⟩, ⟨rfl, .inr rfl⟩, trivial⟩, hx⟩
 ·rintro τ7 Γ7 ⟨L17, hl18, hw7, hd7, rfl⟩
  refine RunC.wl hw7 hd7 ?_
  replace h : i_made_2Fi_OrderRows_1_k3 r1 r2 L17 = some (q0, q1, q2) := h
  unfold i_made_2Fi_OrderRows_1_k3 at h
  refine zQ ?_
  refine ROps.d (r := agg (oXc r1 r2 1 1 r3.length)) (fs := []) (Γ' := [⟨1, some zMx⟩, ⟨1, some (L17.map f32)⟩, ⟨1, some (oXc r1 r2 1 1 r3.length)⟩]) rfl rfl rfl (TOp.loadAgg_o rfl agg26 siz26 rfl rfl rfl rfl) rfl ?_
  refine ROps.store_le (r := agg (oXc r1 r2 1 1 r3.length)) (l' := (oXc r1 r2 1 1 r3.length)) (Γ' := [⟨1, some (oXc r1 r2 1 1 r3.length)⟩, ⟨1, some (L17.map f32)⟩, ⟨1, some (oXc r1 r2 1 1 r3.length)⟩]) rfl siz26 rfl rfl rfl aR rfl rfl rfl rfl (Nat.le_of_ble_eq_true rfl) rfl rfl ?_
  refine zN ?_
  refine RunC.ret ?_
  have hq := Option.some.inj h
  obtain ⟨hq0, hq⟩ := Prod.mk.inj hq
  obtain ⟨hq1, hq⟩ := Prod.mk.inj hq
  subst q0
  subst q1
  subst q2
  exact bodyQ.mk (r' := agg (oXc r1 r2 1 1 L17.length)) [(1, 1)] (.inr rfl) rfl (show List.Nodup [1] from by decide) rfl rfl (Res.eq (Res.one rfl (RV.cell agg26 siz26 rfl rfl rfl rfl)) (by rw [(show L17.length = r3.length from hl18)] <;> rfl)) (SelL.arr0 (f := f32) (fun _ => rfl) rfl trivial)
noncomputable def i_OrderRows (a0 : Int) (a1 : Int) (a2 : List F) (a3 : List Int) : Option (Int × Int × Bool × (List F)) :=
 obind (i_ValidMatrix a0 a1 a2) fun (r1 : Bool) =>
 bsel r1 (
  obind (i_IsOrder a3) fun (r2 : Bool) =>
  bsel r2 (
   obind (i_length_int64 a3) fun (r3 : Int) =>
   bsel (!decide (r3 = a0)) (
    some (0, 0, false, ([] : List F))) (
    obind3 (i_made_2Fi_OrderRows_1 a0 a1 a0 a1 a2 a3) fun (r4 : Int) (r5 : Int) (r6 : List F) =>
    some (r4, r5, true, r6))) (
   some (0, 0, false, ([] : List F)))) (
  some (0, 0, false, ([] : List F)))
theorem i_OrderRows_ok (a0 : Int) (a1 : Int) (a2 : List F) (a3 : List Int) (q0 : Int) (q1 : Int) (q2 : Bool) (q3 : List F) (h : i_OrderRows a0 a1 a2 a3 = some (q0, q1, q2, q3)) : Ev Try.prog 42 [agg (mXc a0 a1 a2), sl a3.length (a3.map i64)] [] (tup [agg (oXc q0 q1 0 0 q3.length), b q2]) [⟨0, some (q3.map f32)⟩] := by
 refine Ev.start Try.func42 rfl rfl 2 (τ := [(0, agg (mXc a0 a1 a2)), (1, sl a3.length (a3.map i64))]) rfl (Γ' := [⟨0, none⟩, ⟨0, none⟩]) rfl (n := 57) rfl (g := 0) rfl (fun _ => rfl) ?_
 unfold i_OrderRows at h
 refine zQ ?_
 refine ROps.d (r := ptr (mXc a0 a1 a2)) (fs := []) (Γ' := [⟨0, none⟩, ⟨0, none⟩]) rfl rfl rfl (TOp.box_s rfl rfl rfl) rfl ?_
 refine ROps.d (r := ptr [sl a3.length (a3.map i64)]) (fs := []) (Γ' := [⟨0, none⟩, ⟨0, none⟩]) rfl rfl rfl (TOp.box_s rfl rfl rfl) rfl ?_
 refine ROps.d (r := optr 0 1 0) (fs := [(0, zMx)]) (Γ' := [⟨1, some zMx⟩, ⟨0, none⟩]) rfl rfl rfl (TOp.alloc_o (g := ⟨0, none⟩) 0 rfl zer26 zok26 rfl) rfl ?_
 refine za (r := b false) ?_
 refine zN ?_
 iterate 2 (refine RunC.seq ?_)
 obtain ⟨r1, hf1, h⟩ := obind_some h
 rcases bsel_some h with ⟨hc2, h⟩ | ⟨hc2, h⟩
 ·obtain ⟨r2, hf3, h⟩ := obind_some h
  rcases bsel_some h with ⟨hc4, h⟩ | ⟨hc4, h⟩
  ·obtain ⟨r3, hf5, h⟩ := obind_some h
   rcases bsel_some h with ⟨hc6, h⟩ | ⟨hc6, h⟩
   ·refine RunC.region_draw (Γ' := [⟨1, some zMx⟩, ⟨0, none⟩]) 15 mixed 
     (TR.l (r := agg (mXc a0 a1 a2)) rfl rfl (LOp.loadAgg agg26 siz26 rfl rfl rfl rfl) <|
     (TR.d (r := b true) (fs := []) rfl rfl (TOp.eqb (TOp.callB (CallAs.func ent66 rfl rfl) (Bors.cons (Bor.agg (Bors.cons (Bor.pure rfl) (Bors.cons (Bor.pure rfl) (Bors.cons (Bor.sl (fun _ => rfl)) Bors.nil)))) Bors.nil) rfl rfl (i_ValidMatrix_ok a0 a1 a2 r1 hf1)) hc2) <|
     (TR.l (r := b false) rfl rfl (LOp.eqb (LOp.not rfl rfl) rfl) <|
     (TR.l (r := b false) rfl rfl (LOp.move rfl rfl) <|
     (TR.l (r := sl a3.length (a3.map i64)) rfl rfl (LOp.load1 agg44 rfl rfl) <|
     (TR.d (r := b true) (fs := []) rfl rfl (TOp.eqb (TOp.callB (CallAs.func ent44 rfl rfl) (Bors.cons (Bor.sl (fun _ => rfl)) Bors.nil) rfl rfl (i_IsOrder_ok a3 r2 hf3)) hc4) <|
     (TR.l (r := b false) rfl rfl (LOp.eqb (LOp.not rfl rfl) rfl) <|
     (TR.l (r := b false) rfl rfl (LOp.pick_false rfl rfl rfl) <|
     (TR.l (r := b false) rfl rfl (LOp.move rfl rfl) <|
     (TR.l (r := sl a3.length (a3.map i64)) rfl rfl (LOp.load1 agg44 rfl rfl) <|
     (TR.d (r := i64 r3) (fs := []) rfl rfl (TOp.callB (CallAs.func ent101 rfl rfl) (Bors.cons (Bor.sl (fun _ => rfl)) Bors.nil) rfl rfl (i_length_int64_ok a3 r3 hf5)) <|
     (TR.l (r := ptr (mXc a0 a1 a2)) rfl rfl (LOp.fap und26 rfl siz2 rfl rfl rfl) <|
     (TR.l (r := i64 a0) rfl rfl (LOp.load1 agg2 rfl rfl) <|
     (TR.l (r := b true) rfl rfl (LOp.eqb (LOp.neq rfl rfl rfl) hc6) <|
     (TR.l (r := b true) rfl rfl (LOp.pick_false rfl rfl rfl) <|
     TR.nil))))))))))))))) rfl (by kernel_rfl) rfl fills_nil rfl ?_
    iterate 15 refine ROps.dropS ?_
    refine ROps.drop0 ?_
    refine zN ?_
    refine RunC.wl (τ' := [(2, ptr (mXc a0 a1 a2)), (3, ptr [sl a3.length (a3.map i64)]), (4, optr 0 1 0), (20, b true)]) (Γ' := [⟨1, some zMx⟩, ⟨0, none⟩]) ⟨aR, aR, aR, aR, trivial⟩ ⟨⟨rfl, .inr rfl⟩, ⟨rfl, .inr rfl⟩, trivial⟩ ?_
    refine RunC.cond_true rfl rfl ?_
    refine zQ ?_
    refine zl (r := agg zMx) (LOp.build (qs := []) zer26 zok26 und26 plc26 rfl trivial rfl) ?_
    refine ROps.store_le (r := agg zMx) (l' := zMx) (Γ' := [⟨1, some zMx⟩, ⟨0, none⟩]) rfl siz26 rfl rfl rfl aR rfl rfl rfl rfl (Nat.le_of_ble_eq_true rfl) rfl rfl ?_
    refine za (r := b false) ?_
    refine zN ?_
    refine RunC.nil_cell (l' := [i64 0, i64 0, oref 1 1 0 0]) (Γ' := [⟨1, some [i64 0, i64 0, oref 1 1 0 0]⟩, ⟨1, some (([] : List F).map f32)⟩]) 0 2 1 rfl rfl rfl rfl rfl ?_
    refine RunC.ret ?_
    have hq := Option.some.inj h
    obtain ⟨hq0, hq⟩ := Prod.mk.inj hq
    obtain ⟨hq1, hq⟩ := Prod.mk.inj hq
    obtain ⟨hq2, hq⟩ := Prod.mk.inj hq
    subst q0
    subst q1
    subst q2
    subst q3
    exact bodyQ.mk (r' := tup [agg [i64 0, i64 0, oref 1 1 0 (([] : List F).length)], b false]) [(1, 1)] (.inr rfl) rfl (show List.Nodup [1] from by decide) rfl rfl (Res.eq (Res.two rfl (RV.cell agg26 siz26 rfl rfl rfl rfl) (RV.tmp rfl)) (by rw [(show ([] : List F).length = 0 from rfl)] <;> rfl)) (SelL.arr0 (f := f32) (fun _ => rfl) rfl trivial)
   ·refine RunC.region_draw (Γ' := [⟨1, some zMx⟩, ⟨0, none⟩]) 15 mixed 
     (TR.l (r := agg (mXc a0 a1 a2)) rfl rfl (LOp.loadAgg agg26 siz26 rfl rfl rfl rfl) <|
     (TR.d (r := b true) (fs := []) rfl rfl (TOp.eqb (TOp.callB (CallAs.func ent66 rfl rfl) (Bors.cons (Bor.agg (Bors.cons (Bor.pure rfl) (Bors.cons (Bor.pure rfl) (Bors.cons (Bor.sl (fun _ => rfl)) Bors.nil)))) Bors.nil) rfl rfl (i_ValidMatrix_ok a0 a1 a2 r1 hf1)) hc2) <|
     (TR.l (r := b false) rfl rfl (LOp.eqb (LOp.not rfl rfl) rfl) <|
     (TR.l (r := b false) rfl rfl (LOp.move rfl rfl) <|
     (TR.l (r := sl a3.length (a3.map i64)) rfl rfl (LOp.load1 agg44 rfl rfl) <|
     (TR.d (r := b true) (fs := []) rfl rfl (TOp.eqb (TOp.callB (CallAs.func ent44 rfl rfl) (Bors.cons (Bor.sl (fun _ => rfl)) Bors.nil) rfl rfl (i_IsOrder_ok a3 r2 hf3)) hc4) <|
     (TR.l (r := b false) rfl rfl (LOp.eqb (LOp.not rfl rfl) rfl) <|
     (TR.l (r := b false) rfl rfl (LOp.pick_false rfl rfl rfl) <|
     (TR.l (r := b false) rfl rfl (LOp.move rfl rfl) <|
     (TR.l (r := sl a3.length (a3.map i64)) rfl rfl (LOp.load1 agg44 rfl rfl) <|
     (TR.d (r := i64 r3) (fs := []) rfl rfl (TOp.callB (CallAs.func ent101 rfl rfl) (Bors.cons (Bor.sl (fun _ => rfl)) Bors.nil) rfl rfl (i_length_int64_ok a3 r3 hf5)) <|
     (TR.l (r := ptr (mXc a0 a1 a2)) rfl rfl (LOp.fap und26 rfl siz2 rfl rfl rfl) <|
     (TR.l (r := i64 a0) rfl rfl (LOp.load1 agg2 rfl rfl) <|
     (TR.l (r := b false) rfl rfl (LOp.eqb (LOp.neq rfl rfl rfl) hc6) <|
     (TR.l (r := b false) rfl rfl (LOp.pick_false rfl rfl rfl) <|
     TR.nil))))))))))))))) rfl (by kernel_rfl) rfl fills_nil rfl ?_
    iterate 15 refine ROps.dropS ?_
    refine ROps.drop0 ?_
    refine zN ?_
    refine RunC.wl (τ' := [(2, ptr (mXc a0 a1 a2)), (3, ptr [sl a3.length (a3.map i64)]), (4, optr 0 1 0), (20, b false)]) (Γ' := [⟨1, some zMx⟩, ⟨0, none⟩]) ⟨aR, aR, aR, aR, trivial⟩ ⟨⟨rfl, .inr rfl⟩, ⟨rfl, .inr rfl⟩, trivial⟩ ?_
    refine RunC.cond_false rfl rfl ?_
    refine RunC.skip ?_
    refine RunC.seq ?_
    obtain ⟨r4, r5, r6, hf7, h⟩ := obind3_some h
    refine RunC.regionW ?_
    refine zl (r := ptr (mXc a0 a1 a2)) (LOp.fap und26 rfl siz2 rfl rfl rfl) ?_
    refine zl (r := i64 a0) (LOp.load1 agg2 rfl rfl) ?_
    refine zl (r := ptr [i64 a1, (sFc a2)]) (LOp.fap und26 rfl siz2 rfl rfl rfl) ?_
    refine zl (r := i64 a1) (LOp.load1 agg2 rfl rfl) ?_
    refine zl (r := fn (.func 113) [] [ptr (mXc a0 a1 a2), ptr [sl a3.length (a3.map i64)]]) (LOp.makeFunc rfl rfl) ?_
    refine ROps.d (r := agg (oXc r4 r5 1 1 r6.length)) (fs := [(1, (r6.map f32))]) (Γ' := [⟨1, some zMx⟩, ⟨1, some (r6.map f32)⟩]) rfl rfl rfl (TOp.callBN (ls := [(r6.map f32)]) [1] (CallAs.func ent60 rfl rfl) (Bors.cons (Bor.pure rfl) (Bors.cons (Bor.pure rfl) (Bors.cons (Bor.fn Bors.nil (Bors.cons (Bor.ptr (Bors.cons (Bor.pure rfl) (Bors.cons (Bor.pure rfl) (Bors.cons (Bor.sl (fun _ => rfl)) Bors.nil)))) (Bors.cons (Bor.ptr (Bors.cons (Bor.sl (fun _ => rfl)) Bors.nil)) Bors.nil))) Bors.nil))) rfl (i_made_2Fi_OrderRows_1_ok a0 a1 a0 a1 a2 a3 r4 r5 r6 hf7) (and_all (lts0_map (f := f32) (fun _ => rfl) _) rfl) (and_all (noss_map (f := f32) (fun _ => rfl) _) rfl) rfl (by decide) (ns_of ⟨⟨_, rfl⟩, trivial⟩)) rfl ?_
    refine ROps.store_le (r := agg (oXc r4 r5 1 1 r6.length)) (l' := (oXc r4 r5 1 1 r6.length)) (Γ' := [⟨1, some (oXc r4 r5 1 1 r6.length)⟩, ⟨1, some (r6.map f32)⟩]) rfl siz26 rfl rfl rfl aR rfl rfl rfl rfl (Nat.le_of_ble_eq_true rfl) rfl rfl ?_
    refine za (r := b true) ?_
    refine zN ?_
    refine RunC.ret ?_
    have hq := Option.some.inj h
    obtain ⟨hq0, hq⟩ := Prod.mk.inj hq
    obtain ⟨hq1, hq⟩ := Prod.mk.inj hq
    obtain ⟨hq2, hq⟩ := Prod.mk.inj hq
    subst q0
    subst q1
    subst q2
    subst q3
    exact bodyQ.mk (r' := tup [agg (oXc r4 r5 1 1 r6.length), b true]) [(1, 1)] (.inr rfl) rfl (show List.Nodup [1] from by decide) rfl rfl (Res.two rfl (RV.cell agg26 siz26 rfl rfl rfl rfl) (RV.tmp rfl)) (SelL.arr0 (f := f32) (fun _ => rfl) rfl trivial)
  ·refine RunC.region_draw (Γ' := [⟨1, some zMx⟩, ⟨0, none⟩]) 15 mixed 
    (TR.l (r := agg (mXc a0 a1 a2)) rfl rfl (LOp.loadAgg agg26 siz26 rfl rfl rfl rfl) <|
    (TR.d (r := b true) (fs := []) rfl rfl (TOp.eqb (TOp.callB (CallAs.func ent66 rfl rfl) (Bors.cons (Bor.agg (Bors.cons (Bor.pure rfl) (Bors.cons (Bor.pure rfl) (Bors.cons (Bor.sl (fun _ => rfl)) Bors.nil)))) Bors.nil) rfl rfl (i_ValidMatrix_ok a0 a1 a2 r1 hf1)) hc2) <|
    (TR.l (r := b false) rfl rfl (LOp.eqb (LOp.not rfl rfl) rfl) <|
    (TR.l (r := b false) rfl rfl (LOp.move rfl rfl) <|
    (TR.l (r := sl a3.length (a3.map i64)) rfl rfl (LOp.load1 agg44 rfl rfl) <|
    (TR.d (r := b false) (fs := []) rfl rfl (TOp.eqb (TOp.callB (CallAs.func ent44 rfl rfl) (Bors.cons (Bor.sl (fun _ => rfl)) Bors.nil) rfl rfl (i_IsOrder_ok a3 r2 hf3)) hc4) <|
    (TR.l (r := b true) rfl rfl (LOp.eqb (LOp.not rfl rfl) rfl) <|
    (TR.l (r := b true) rfl rfl (LOp.pick_false rfl rfl rfl) <|
    (TR.l (r := b true) rfl rfl (LOp.move rfl rfl) <|
    (TR.s rfl rfl <|
    (TR.s rfl rfl <|
    (TR.s rfl rfl <|
    (TR.s rfl rfl <|
    (TR.s rfl rfl <|
    (TR.l (r := b true) rfl rfl (LOp.pick_true rfl rfl rfl) <|
    TR.nil))))))))))))))) rfl (by kernel_rfl) rfl fills_nil rfl ?_
   iterate 15 refine ROps.dropS ?_
   refine ROps.drop0 ?_
   refine zN ?_
   refine RunC.wl (τ' := [(2, ptr (mXc a0 a1 a2)), (3, ptr [sl a3.length (a3.map i64)]), (4, optr 0 1 0), (20, b true)]) (Γ' := [⟨1, some zMx⟩, ⟨0, none⟩]) ⟨aR, aR, aR, aR, trivial⟩ ⟨⟨rfl, .inr rfl⟩, ⟨rfl, .inr rfl⟩, trivial⟩ ?_
   refine RunC.cond_true rfl rfl ?_
   refine zQ ?_
   refine zl (r := agg zMx) (LOp.build (qs := []) zer26 zok26 und26 plc26 rfl trivial rfl) ?_
   refine ROps.store_le (r := agg zMx) (l' := zMx) (Γ' := [⟨1, some zMx⟩, ⟨0, none⟩]) rfl siz26 rfl rfl rfl aR rfl rfl rfl rfl (Nat.le_of_ble_eq_true rfl) rfl rfl ?_
   refine za (r := b false) ?_
   refine zN ?_
   refine RunC.nil_cell (l' := [i64 0, i64 0, oref 1 1 0 0]) (Γ' := [⟨1, some [i64 0, i64 0, oref 1 1 0 0]⟩, ⟨1, some (([] : List F).map f32)⟩]) 0 2 1 rfl rfl rfl rfl rfl ?_
   refine RunC.ret ?_
   have hq := Option.some.inj h
   obtain ⟨hq0, hq⟩ := Prod.mk.inj hq
   obtain ⟨hq1, hq⟩ := Prod.mk.inj hq
   obtain ⟨hq2, hq⟩ := Prod.mk.inj hq
   subst q0
   subst q1
   subst q2
   subst q3
   exact bodyQ.mk (r' := tup [agg [i64 0, i64 0, oref 1 1 0 (([] : List F).length)], b false]) [(1, 1)] (.inr rfl) rfl (show List.Nodup [1] from by decide) rfl rfl (Res.eq (Res.two rfl (RV.cell agg26 siz26 rfl rfl rfl rfl) (RV.tmp rfl)) (by rw [(show ([] : List F).length = 0 from rfl)] <;> rfl)) (SelL.arr0 (f := f32) (fun _ => rfl) rfl trivial)
 ·refine RunC.region_draw (Γ' := [⟨1, some zMx⟩, ⟨0, none⟩]) 15 mixed 
   (TR.l (r := agg (mXc a0 a1 a2)) rfl rfl (LOp.loadAgg agg26 siz26 rfl rfl rfl rfl) <|
   (TR.d (r := b false) (fs := []) rfl rfl (TOp.eqb (TOp.callB (CallAs.func ent66 rfl rfl) (Bors.cons (Bor.agg (Bors.cons (Bor.pure rfl) (Bors.cons (Bor.pure rfl) (Bors.cons (Bor.sl (fun _ => rfl)) Bors.nil)))) Bors.nil) rfl rfl (i_ValidMatrix_ok a0 a1 a2 r1 hf1)) hc2) <|
   (TR.l (r := b true) rfl rfl (LOp.eqb (LOp.not rfl rfl) rfl) <|
   (TR.l (r := b true) rfl rfl (LOp.move rfl rfl) <|
   (TR.s rfl rfl <|
   (TR.s rfl rfl <|
   (TR.s rfl rfl <|
   (TR.l (r := b true) rfl rfl (LOp.pick_true rfl rfl rfl) <|
   (TR.l (r := b true) rfl rfl (LOp.move rfl rfl) <|
   (TR.s rfl rfl <|
   (TR.s rfl rfl <|
   (TR.s rfl rfl <|
   (TR.s rfl rfl <|
   (TR.s rfl rfl <|
   (TR.l (r := b true) rfl rfl (LOp.pick_true rfl rfl rfl) <|
   TR.nil))))))))))))))) rfl (by kernel_rfl) rfl fills_nil rfl ?_
  iterate 15 refine ROps.dropS ?_
  refine ROps.drop0 ?_
  refine zN ?_
  refine RunC.wl (τ' := [(2, ptr (mXc a0 a1 a2)), (3, ptr [sl a3.length (a3.map i64)]), (4, optr 0 1 0), (20, b true)]) (Γ' := [⟨1, some zMx⟩, ⟨0, none⟩]) ⟨aR, aR, aR, aR, trivial⟩ ⟨⟨rfl, .inr rfl⟩, ⟨rfl, .inr rfl⟩, trivial⟩ ?_
  refine RunC.cond_true rfl rfl ?_
  refine zQ ?_
  refine zl (r := agg zMx) (LOp.build (qs := []) zer26 zok26 und26 plc26 rfl trivial rfl) ?_
  refine ROps.store_le (r := agg zMx) (l' := zMx) (Γ' := [⟨1, some zMx⟩, ⟨0, none⟩]) rfl siz26 rfl rfl rfl aR rfl rfl rfl rfl (Nat.le_of_ble_eq_true rfl) rfl rfl ?_
  refine za (r := b false) ?_
  refine zN ?_
  refine RunC.nil_cell (l' := [i64 0, i64 0, oref 1 1 0 0]) (Γ' := [⟨1, some [i64 0, i64 0, oref 1 1 0 0]⟩, ⟨1, some (([] : List F).map f32)⟩]) 0 2 1 rfl rfl rfl rfl rfl ?_
  refine RunC.ret ?_
  have hq := Option.some.inj h
  obtain ⟨hq0, hq⟩ := Prod.mk.inj hq
  obtain ⟨hq1, hq⟩ := Prod.mk.inj hq
  obtain ⟨hq2, hq⟩ := Prod.mk.inj hq
  subst q0
  subst q1
  subst q2
  subst q3
  exact bodyQ.mk (r' := tup [agg [i64 0, i64 0, oref 1 1 0 (([] : List F).length)], b false]) [(1, 1)] (.inr rfl) rfl (show List.Nodup [1] from by decide) rfl rfl (Res.eq (Res.two rfl (RV.cell agg26 siz26 rfl rfl rfl rfl) (RV.tmp rfl)) (by rw [(show ([] : List F).length = 0 from rfl)] <;> rfl)) (SelL.arr0 (f := f32) (fun _ => rfl) rfl trivial)
noncomputable def i_orderSign_k5 (v7 : Int) (v10 : Int) : Option (LR (Int × Int) (Int) (Int)) :=
 olet (IntKind.i64.wrap (v7 + 1)) fun (x11 : Int) =>
 some (LR.next (v10, x11))
noncomputable def i_orderSign_b6 (e3 : Int) (l5 : List Int) (v6 : Int) (v7 : Int) : Option (LR (Int × Int) (Int) (Int)) :=
 bsel (decide (v7 < (l5.length : Int))) (
  obind (at? l5 v7) fun (e8 : Int) =>
  bsel (decide (e8 < e3)) (
   olet (IntKind.i64.wrap (0 - v6)) fun (x9 : Int) =>
   i_orderSign_k5 v7 x9) (
   i_orderSign_k5 v7 v6)) (
  some (LR.out v6))
noncomputable def i_orderSign_s6 (e3 : Int) (l5 : List Int) : (Int × Int) → Option (LR (Int × Int) (Int) (Int)) := fun s => i_orderSign_b6 e3 l5 s.1 s.2
noncomputable def i_orderSign_k6 (v2 : Int) (v12 : Int) : Option (LR (Int × Int) (Int) (Int)) :=
 olet (IntKind.i64.wrap (v2 + 1)) fun (x13 : Int) =>
 some (LR.next (v12, x13))
noncomputable def i_orderSign_b7 (a0 : List Int) (v1 : Int) (v2 : Int) : Option (LR (Int × Int) (Int) (Int)) :=
 bsel (decide (v2 < (a0.length : Int))) (
  obind (at? a0 v2) fun (e3 : Int) =>
  olet (IntKind.i64.wrap (v2 + 1)) fun (x4 : Int) =>
  obind (sub? a0 x4 (a0.length : Int)) fun (l5 : List Int) =>
  obind (loopM (i_orderSign_s6 e3 l5) (v1, 0)) fun z => osum z (fun e => i_orderSign_k6 v2 e) (fun r => some (LR.ret r))) (
  some (LR.out v1))
noncomputable def i_orderSign_s7 (a0 : List Int) : (Int × Int) → Option (LR (Int × Int) (Int) (Int)) := fun s => i_orderSign_b7 a0 s.1 s.2
noncomputable def i_orderSign_k7 (v14 : Int) : Option (Int) :=
 some v14
noncomputable def i_orderSign (a0 : List Int) : Option (Int) :=
 obind (loopM (i_orderSign_s7 a0) (1, 0)) fun z => osum z (fun e => i_orderSign_k7 e) (fun r => some r)
theorem i_orderSign_ok (a0 : List Int) (q0 : Int) (h : i_orderSign a0 = some q0) : Ev Try.prog 114 [sl a0.length (a0.map i64)] [] (i64 q0) [] := by
 refine Ev.start Try.func114 rfl rfl 0 (τ := [(0, sl a0.length (a0.map i64))]) rfl (Γ' := []) rfl (n := 65) rfl (g := 0) rfl (fun _ => rfl) ?_
 unfold i_orderSign at h
 refine zQ ?_
 refine za (r := i64 0) ?_
 refine zN ?_
 refine zQ ?_
 refine za (r := i64 1) ?_
 refine zN ?_
 refine RunC.seq ?_
 refine zQ ?_
 refine zm (r := sl a0.length (a0.map i64)) ?_
 refine zl (r := i64 (a0.length : Int)) (LOp.len_sl und44 rfl rfl) ?_
 refine zm (r := i64 0) ?_
 refine zN ?_
 obtain ⟨z8, hz_8, h⟩ := obind_some h
 refine RunC.cutN (fun τ Γ => ∃ (v14 : Int), WeakLe τ [(3, i64 v14)] ∧ DeadLe Γ [] ∧ z8 = .inl v14) ?_ ?_
 ·refine RunC.block (RunC.loop (RunL.loopM (x := z8) (i_orderSign_s7 a0) (fun (s : Int × Int) τ Γ => WeakLe τ [(0, sl a0.length (a0.map i64)), (3, i64 s.1), (8, sl a0.length (a0.map i64)), (9, i64 (a0.length : Int)), (10, i64 s.2)] ∧ DeadLe Γ []) ?_ _ _ _ hz_8 ⟨⟨aR, aR, aR, aR, aR, trivial⟩, trivial⟩))
  rintro ⟨v1, v2⟩ τ8 Γ8 y8_ ⟨hw8, hd8⟩ h8_ ho8 hr8
  refine RunC.wl (τ' := [(0, sl a0.length (a0.map i64)), (3, i64 v1), (8, sl a0.length (a0.map i64)), (9, i64 (a0.length : Int)), (10, i64 v2)]) (Γ' := []) hw8 hd8 ?_
  replace h8_ : i_orderSign_b7 a0 v1 v2 = some y8_ := h8_
  unfold i_orderSign_b7 at h8_
  refine RunC.seq ?_
  rcases bsel_some h8_ with ⟨hc1, h8_⟩ | ⟨hc1, h8_⟩
  ·refine RunC.regionW ?_
   refine zl (r := b true) (LOp.eqb (LOp.lss rfl rfl rfl) hc1) ?_
   refine zN ?_
   refine RunC.seq ?_
   refine RunC.cond_true rfl rfl ?_
   refine RunC.skip ?_
   refine RunC.seq ?_
   refine RunC.block ?_
   refine RunC.seq ?_
   obtain ⟨e3, he2, h8_⟩ := obind_some h8_
   refine RunC.regionW ?_
   refine zm (r := i64 v2) ?_
   refine zl (r := ptr [i64 e3]) (LOp.le (LOp.ix (f := i64) und44 siz2 rfl rfl rfl rfl he2) ALe.ptr) ?_
   refine zl (r := i64 e3) (LOp.load1 agg2 rfl rfl) ?_
   refine za (r := i64 v2) ?_
   refine za (r := i64 e3) ?_
   refine zN ?_
   refine RunC.seq ?_
   obtain ⟨x4, hx3, h8_⟩ := olet_some h8_
   obtain ⟨l5, hs4, h8_⟩ := obind_some h8_
   refine RunC.regionW ?_
   refine zm (r := sl a0.length (a0.map i64)) ?_
   refine zm (r := i64 v2) ?_
   refine zl (r := i64 x4) (LOp.eqr (LOp.add rfl rfl rfl) (congrArg (ik .i64) hx3)) ?_
   refine zl (r := sl l5.length (l5.map i64)) (LOp.slice_lo (f := i64) und44 siz2 rfl rfl rfl rfl hs4) ?_
   refine zl (r := i64 (l5.length : Int)) (LOp.len_sl und44 rfl rfl) ?_
   refine zm (r := i64 0) ?_
   refine zN ?_
   obtain ⟨z9, hz_9, h8_⟩ := obind_some h8_
   refine RunC.cutN (fun τ Γ => ∃ (v12 : Int), WeakLe τ [(0, sl a0.length (a0.map i64)), (3, i64 v12), (8, sl a0.length (a0.map i64)), (9, i64 (a0.length : Int)), (10, i64 v2)] ∧ DeadLe Γ [] ∧ z9 = .inl v12) ?_ ?_
   ·refine RunC.block (RunC.loop (RunL.loopM (x := z9) (i_orderSign_s6 e3 l5) (fun (s : Int × Int) τ Γ => WeakLe τ [(0, sl a0.length (a0.map i64)), (3, i64 s.1), (5, i64 e3), (8, sl a0.length (a0.map i64)), (9, i64 (a0.length : Int)), (10, i64 v2), (18, sl l5.length (l5.map i64)), (19, i64 (l5.length : Int)), (20, i64 s.2)] ∧ DeadLe Γ []) ?_ _ _ _ hz_9 ⟨⟨aR, aR, aR, aR, aR, aR, aR, aR, aR, trivial⟩, trivial⟩))
    rintro ⟨v6, v7⟩ τ9 Γ9 y9_ ⟨hw9, hd9⟩ h9_ ho9 hr9
    refine RunC.wl (τ' := [(0, sl a0.length (a0.map i64)), (3, i64 v6), (5, i64 e3), (8, sl a0.length (a0.map i64)), (9, i64 (a0.length : Int)), (10, i64 v2), (18, sl l5.length (l5.map i64)), (19, i64 (l5.length : Int)), (20, i64 v7)]) (Γ' := []) hw9 hd9 ?_
    replace h9_ : i_orderSign_b6 e3 l5 v6 v7 = some y9_ := h9_
    unfold i_orderSign_b6 at h9_
    refine RunC.seq ?_
    rcases bsel_some h9_ with ⟨hc5, h9_⟩ | ⟨hc5, h9_⟩
    ·refine RunC.regionW ?_
     refine zl (r := b true) (LOp.eqb (LOp.lss rfl rfl rfl) hc5) ?_
     refine zN ?_
     refine RunC.seq ?_
     refine RunC.cond_true rfl rfl ?_
     refine RunC.skip ?_
     refine RunC.seq ?_
     refine RunC.cutN (fun τ Γ => ∃ (v10 : Int), WeakLe τ [(0, sl a0.length (a0.map i64)), (3, i64 v10), (5, i64 e3), (8, sl a0.length (a0.map i64)), (9, i64 (a0.length : Int)), (10, i64 v2), (18, sl l5.length (l5.map i64)), (19, i64 (l5.length : Int)), (20, i64 v7)] ∧ DeadLe Γ [] ∧ i_orderSign_k5 v7 v10 = some y9_) ?_ ?_
     ·refine RunC.block ?_
      refine RunC.seq ?_
      obtain ⟨e8, he6, h9_⟩ := obind_some h9_
      refine RunC.regionW ?_
      refine zl (r := ptr [i64 e8]) (LOp.le (LOp.ix (f := i64) und44 siz2 rfl rfl rfl rfl he6) ALe.ptr) ?_
      refine zl (r := i64 e8) (LOp.load1 agg2 rfl rfl) ?_
      refine za (r := i64 e8) ?_
      refine zN ?_
      refine RunC.seq ?_
      rcases bsel_some h9_ with ⟨hc7, h9_⟩ | ⟨hc7, h9_⟩
      ·refine RunC.regionW ?_
       refine zm (r := i64 e3) ?_
       refine zm (r := i64 e8) ?_
       refine zl (r := b true) (LOp.eqb (LOp.gtr rfl rfl rfl) hc7) ?_
       refine zN ?_
       refine RunC.cond_true rfl rfl ?_
       obtain ⟨x9, hx8, h9_⟩ := olet_some h9_
       refine RunC.regionW ?_
       refine zm (r := i64 v6) ?_
       refine zl (r := i64 x9) (LOp.eqr (LOp.neg_int rfl rfl) (congrArg (ik .i64) hx8)) ?_
       refine za (r := i64 x9) ?_
       refine zN ?_
       exact ⟨x9, ⟨aR, aR, aR, aR, aR, aR, aR, aR, aR, trivial⟩, trivial, h9_⟩
      ·refine RunC.regionW ?_
       refine zm (r := i64 e3) ?_
       refine zm (r := i64 e8) ?_
       refine zl (r := b false) (LOp.eqb (LOp.gtr rfl rfl rfl) hc7) ?_
       refine zN ?_
       refine RunC.cond_false rfl rfl ?_
       refine RunC.skip ?_
       exact ⟨v6, ⟨aR, aR, aR, aR, aR, aR, aR, aR, aR, trivial⟩, trivial, h9_⟩
     ·rintro τ10 Γ10 ⟨v10, hw10, hd10, h9_⟩
      refine RunC.wl hw10 hd10 ?_
      unfold i_orderSign_k5 at h9_
      obtain ⟨x11, hx9, h9_⟩ := olet_some h9_
      refine RunC.regionW ?_
      refine zl (r := i64 x11) (LOp.eqr (LOp.add rfl rfl rfl) (congrArg (ik .i64) hx9)) ?_
      refine zm (r := i64 x11) ?_
      refine zN ?_
      cases Option.some.inj h9_
      exact ⟨_, rfl, ⟨aR, aR, aR, aR, aR, aR, aR, aR, aR, trivial⟩, trivial⟩
    ·refine RunC.regionW ?_
     refine zl (r := b false) (LOp.eqb (LOp.lss rfl rfl rfl) hc5) ?_
     refine zN ?_
     refine RunC.seq ?_
     refine RunC.cond_false rfl rfl ?_
     refine RunC.exit ?_
     cases Option.some.inj h9_
     have hx := ho9 _ rfl
     exact ⟨v6, ⟨aR, aR, aR, aR, aR, trivial⟩, trivial, hx⟩
   ·rintro τ11 Γ11 ⟨v12, hw11, hd11, rfl⟩
    refine RunC.wl hw11 hd11 ?_
    replace h8_ : i_orderSign_k6 v2 v12 = some y8_ := h8_
    unfold i_orderSign_k6 at h8_
    obtain ⟨x13, hx10, h8_⟩ := olet_some h8_
    refine RunC.regionW ?_
    refine zl (r := i64 x13) (LOp.eqr (LOp.add rfl rfl rfl) (congrArg (ik .i64) hx10)) ?_
    refine zm (r := i64 x13) ?_
    refine zN ?_
    cases Option.some.inj h8_
    exact ⟨_, rfl, ⟨aR, aR, aR, aR, aR, trivial⟩, trivial⟩
  ·refine RunC.regionW ?_
   refine zl (r := b false) (LOp.eqb (LOp.lss rfl rfl rfl) hc1) ?_
   refine zN ?_
   refine RunC.seq ?_
   refine RunC.cond_false rfl rfl ?_
   refine RunC.exit ?_
   cases Option.some.inj h8_
   have hx := ho8 _ rfl
   exact ⟨v1, ⟨aR, trivial⟩, trivial, hx⟩
 ·rintro τ12 Γ12 ⟨v14, hw12, hd12, rfl⟩
  refine RunC.wl hw12 hd12 ?_
  replace h : i_orderSign_k7 v14 = some q0 := h
  unfold i_orderSign_k7 at h
  refine zQ ?_
  refine zm (r := i64 v14) ?_
  refine za (r := i64 v14) ?_
  refine zN ?_
  refine RunC.ret ?_
  have hq := Option.some.inj h
  subst q0
  exact bodyQ.pure (.inr rfl) rfl (Res.one rfl (RV.tmp rfl))
noncomputable def i_OrderSign (a0 : List Int) : Option (Int × Bool) :=
 obind (i_IsOrder a0) fun (r1 : Bool) =>
 bsel r1 (
  obind (i_orderSign a0) fun (r2 : Int) =>
  some (r2, true)) (
  some (0, false))
theorem i_OrderSign_ok (a0 : List Int) (q0 : Int) (q1 : Bool) (h : i_OrderSign a0 = some (q0, q1)) : Ev Try.prog 43 [sl a0.length (a0.map i64)] [] (tup [i64 q0, b q1]) [] := by
 refine Ev.start Try.func43 rfl rfl 0 (τ := [(0, sl a0.length (a0.map i64))]) rfl (Γ' := []) rfl (n := 19) rfl (g := 0) rfl (fun _ => rfl) ?_
 unfold i_OrderSign at h
 refine zQ ?_
 refine za (r := i64 0) ?_
 refine za (r := b false) ?_
 refine zN ?_
 iterate 2 (refine RunC.seq ?_)
 obtain ⟨r1, hf1, h⟩ := obind_some h
 rcases bsel_some h with ⟨hc2, h⟩ | ⟨hc2, h⟩
 ·refine RunC.regionW ?_
  refine zm (r := sl a0.length (a0.map i64)) ?_
  refine ROps.d (r := b true) (fs := []) (Γ' := []) rfl rfl rfl (TOp.eqb (TOp.callB (CallAs.func ent44 rfl rfl) (Bors.cons (Bor.sl (fun _ => rfl)) Bors.nil) rfl rfl (i_IsOrder_ok a0 r1 hf1)) hc2) rfl ?_
  refine zl (r := b false) (LOp.eqb (LOp.not rfl rfl) rfl) ?_
  refine zN ?_
  refine RunC.cond_false rfl rfl ?_
  refine RunC.skip ?_
  refine RunC.seq ?_
  obtain ⟨r2, hf3, h⟩ := obind_some h
  refine RunC.regionW ?_
  refine zm (r := sl a0.length (a0.map i64)) ?_
  refine ROps.d (r := i64 r2) (fs := []) (Γ' := []) rfl rfl rfl (TOp.callB (CallAs.func ent114 rfl rfl) (Bors.cons (Bor.sl (fun _ => rfl)) Bors.nil) rfl rfl (i_orderSign_ok a0 r2 hf3)) rfl ?_
  refine za (r := i64 r2) ?_
  refine za (r := b true) ?_
  refine zN ?_
  refine RunC.ret ?_
  have hq := Option.some.inj h
  obtain ⟨hq0, hq⟩ := Prod.mk.inj hq
  subst q0
  subst q1
  exact bodyQ.pure (.inr rfl) rfl (Res.two rfl (RV.tmp rfl) (RV.tmp rfl))
 ·refine RunC.regionW ?_
  refine zm (r := sl a0.length (a0.map i64)) ?_
  refine ROps.d (r := b false) (fs := []) (Γ' := []) rfl rfl rfl (TOp.eqb (TOp.callB (CallAs.func ent44 rfl rfl) (Bors.cons (Bor.sl (fun _ => rfl)) Bors.nil) rfl rfl (i_IsOrder_ok a0 r1 hf1)) hc2) rfl ?_
  refine zl (r := b true) (LOp.eqb (LOp.not rfl rfl) rfl) ?_
  refine zN ?_
  refine RunC.cond_true rfl rfl ?_
  refine zQ ?_
  refine za (r := i64 0) ?_
  refine za (r := b false) ?_
  refine zN ?_
  refine RunC.ret ?_
  have hq := Option.some.inj h
  obtain ⟨hq0, hq⟩ := Prod.mk.inj hq
  subst q0
  subst q1
  exact bodyQ.pure (.inr rfl) rfl (Res.two rfl (RV.tmp rfl) (RV.tmp rfl))
noncomputable def x_math_Signbit (a0 : F) : Option (Bool) :=
 obind (a0) fun (b1 : Nat) =>
 olet (IntKind.i64.wrap (b1 : Int)) fun (x2 : Int) =>
 some (decide (x2 < 0))
theorem x_math_Signbit_ok (a0 : F) (q0 : Bool) (h : x_math_Signbit a0 = some q0) : Ev Try.prog 159 [f64 a0] [] (b q0) [] := by
 refine Ev.start Try.func159 rfl rfl 0 (τ := [(0, f64 a0)]) rfl (Γ' := []) rfl (n := 15) rfl (g := 0) rfl (fun _ => rfl) ?_
 unfold x_math_Signbit at h
 refine zQ ?_
 refine za (r := b false) ?_
 refine zN ?_
 refine RunC.seq ?_
 obtain ⟨b1, he1, h⟩ := obind_some h
 obtain ⟨x2, hx2, h⟩ := olet_some h
 refine RunC.regionW ?_
 refine zm (r := f64 a0) ?_
 refine zl (r := ik .u64 (b1 : Int)) (LOp.fbx ext154 rfl (OpF.tmp rfl) he1) ?_
 refine zl (r := i64 x2) (LOp.eqr (LOp.i2i (src := 129) (dst := 2) ⟨_, pun129⟩ pun2 rfl rfl) (congrArg (ik .i64) hx2)) ?_
 refine zl (r := b (decide (x2 < 0))) (LOp.lss rfl rfl rfl) ?_
 refine za (r := b (decide (x2 < 0))) ?_
 refine zN ?_
 refine RunC.ret ?_
 have hq := Option.some.inj h
 subst q0
 exact bodyQ.pure (.inr rfl) rfl (Res.one rfl (RV.tmp rfl))
noncomputable def i_SameNumber (a0 : F) (a1 : F) : Option (Bool) :=
 bsel (!feq .f32 a0 a0) (
  some (!feq .f32 a1 a1)) (
  bsel (!feq .f32 a1 a1) (
   some false) (
   bsel (feq .f32 a0 a1) (
    olet (fwiden a0) fun (x1 : F) =>
    obind (x_math_Signbit x1) fun (r2 : Bool) =>
    olet (fwiden a1) fun (x3 : F) =>
    obind (x_math_Signbit x3) fun (r4 : Bool) =>
    some (r2 == r4)) (
    some false)))
theorem i_SameNumber_ok (a0 : F) (a1 : F) (q0 : Bool) (h : i_SameNumber a0 a1 = some q0) : Ev Try.prog 131 [f32 a0, f32 a1] [] (b q0) [] := by
 refine Ev.start Try.func131 rfl rfl 0 (τ := [(0, f32 a0), (1, f32 a1)]) rfl (Γ' := []) rfl (n := 67) rfl (g := 0) rfl (fun _ => rfl) ?_
 unfold i_SameNumber at h
 refine zQ ?_
 refine za (r := b false) ?_
 refine zN ?_
 iterate 2 (refine RunC.seq ?_)
 rcases bsel_some h with ⟨hc1, h⟩ | ⟨hc1, h⟩
 ·refine RunC.regionW ?_
  iterate 2 (refine zm (r := f32 a0) ?_)
  refine zl (r := b true) (LOp.eqb (LOp.fne rfl (OpF.tmp rfl) (OpF.tmp rfl)) hc1) ?_
  refine zm (r := b true) ?_
  iterate 3 (refine ROps.s rfl rfl rfl ?_)
  refine zl (r := b true) (LOp.pick_true rfl rfl rfl) ?_
  refine zN ?_
  refine RunC.cond_true rfl rfl ?_
  refine zQ ?_
  iterate 2 (refine zm (r := f32 a0) ?_)
  refine zl (r := b true) (LOp.eqb (LOp.fne rfl (OpF.tmp rfl) (OpF.tmp rfl)) hc1) ?_
  refine zm (r := b true) ?_
  iterate 2 (refine zm (r := f32 a1) ?_)
  refine zl (r := b (!feq .f32 a1 a1)) (LOp.fne rfl (OpF.tmp rfl) (OpF.tmp rfl)) ?_
  refine zl (r := b (!feq .f32 a1 a1)) (LOp.pick_true rfl rfl rfl) ?_
  refine za (r := b (!feq .f32 a1 a1)) ?_
  refine zN ?_
  refine RunC.ret ?_
  have hq := Option.some.inj h
  subst q0
  exact bodyQ.pure (.inr rfl) rfl (Res.one rfl (RV.tmp rfl))
 ·rcases bsel_some h with ⟨hc2, h⟩ | ⟨hc2, h⟩
  ·refine RunC.regionW ?_
   iterate 2 (refine zm (r := f32 a0) ?_)
   refine zl (r := b false) (LOp.eqb (LOp.fne rfl (OpF.tmp rfl) (OpF.tmp rfl)) hc1) ?_
   refine zm (r := b false) ?_
   iterate 2 (refine zm (r := f32 a1) ?_)
   refine zl (r := b true) (LOp.eqb (LOp.fne rfl (OpF.tmp rfl) (OpF.tmp rfl)) hc2) ?_
   refine zl (r := b true) (LOp.pick_false rfl rfl rfl) ?_
   refine zN ?_
   refine RunC.cond_true rfl rfl ?_
   refine zQ ?_
   iterate 2 (refine zm (r := f32 a0) ?_)
   refine zl (r := b false) (LOp.eqb (LOp.fne rfl (OpF.tmp rfl) (OpF.tmp rfl)) hc1) ?_
   refine zm (r := b false) ?_
   iterate 3 (refine ROps.s rfl rfl rfl ?_)
   refine zl (r := b false) (LOp.pick_false rfl rfl rfl) ?_
   refine za (r := b false) ?_
   refine zN ?_
   refine RunC.ret ?_
   have hq := Option.some.inj h
   subst q0
   exact bodyQ.pure (.inr rfl) rfl (Res.one rfl (RV.tmp rfl))
  ·refine RunC.regionW ?_
   iterate 2 (refine zm (r := f32 a0) ?_)
   refine zl (r := b false) (LOp.eqb (LOp.fne rfl (OpF.tmp rfl) (OpF.tmp rfl)) hc1) ?_
   refine zm (r := b false) ?_
   iterate 2 (refine zm (r := f32 a1) ?_)
   refine zl (r := b false) (LOp.eqb (LOp.fne rfl (OpF.tmp rfl) (OpF.tmp rfl)) hc2) ?_
   refine zl (r := b false) (LOp.pick_false rfl rfl rfl) ?_
   refine zN ?_
   refine RunC.cond_false rfl rfl ?_
   refine RunC.skip ?_
   refine RunC.seq ?_
   rcases bsel_some h with ⟨hc3, h⟩ | ⟨hc3, h⟩
   ·obtain ⟨x1, hx4, h⟩ := olet_some h
    obtain ⟨r2, hf5, h⟩ := obind_some h
    obtain ⟨x3, hx6, h⟩ := olet_some h
    obtain ⟨r4, hf7, h⟩ := obind_some h
    refine RunC.regionW ?_
    refine zm (r := f32 a0) ?_
    refine zm (r := f32 a1) ?_
    refine zl (r := b true) (LOp.eqb (LOp.feq rfl (OpF.tmp rfl) (OpF.tmp rfl)) hc3) ?_
    refine zm (r := b true) ?_
    refine zm (r := f32 a0) ?_
    refine ROps.d (r := f64 x1) (fs := []) (Γ' := []) rfl rfl rfl (TOp.eqr (TOp.widen (src := 36) (dst := 37) ⟨_, pun36⟩ pun37 rfl (OpF.tmp rfl)) (congrArg (f .f64) hx4)) rfl ?_
    refine ROps.d (r := b r2) (fs := []) (Γ' := []) rfl rfl rfl (TOp.callB (CallAs.func ent159 rfl rfl) (Bors.cons (Bor.pure rfl) Bors.nil) rfl rfl (x_math_Signbit_ok x1 r2 hf5)) rfl ?_
    refine zm (r := f32 a1) ?_
    refine ROps.d (r := f64 x3) (fs := []) (Γ' := []) rfl rfl rfl (TOp.eqr (TOp.widen (src := 36) (dst := 37) ⟨_, pun36⟩ pun37 rfl (OpF.tmp rfl)) (congrArg (f .f64) hx6)) rfl ?_
    refine ROps.d (r := b r4) (fs := []) (Γ' := []) rfl rfl rfl (TOp.callB (CallAs.func ent159 rfl rfl) (Bors.cons (Bor.pure rfl) Bors.nil) rfl rfl (x_math_Signbit_ok x3 r4 hf7)) rfl ?_
    refine zl (r := b (r2 == r4)) (LOp.eqlb pun4 rfl rfl rfl) ?_
    refine zl (r := b (r2 == r4)) (LOp.pick_true rfl rfl rfl) ?_
    refine za (r := b (r2 == r4)) ?_
    refine zN ?_
    refine RunC.ret ?_
    have hq := Option.some.inj h
    subst q0
    exact bodyQ.pure (.inr rfl) rfl (Res.one rfl (RV.tmp rfl))
   ·refine RunC.regionW ?_
    refine zm (r := f32 a0) ?_
    refine zm (r := f32 a1) ?_
    refine zl (r := b false) (LOp.eqb (LOp.feq rfl (OpF.tmp rfl) (OpF.tmp rfl)) hc3) ?_
    refine zm (r := b false) ?_
    iterate 7 (refine ROps.s rfl rfl rfl ?_)
    refine zl (r := b false) (LOp.pick_false rfl rfl rfl) ?_
    refine za (r := b false) ?_
    refine zN ?_
    refine RunC.ret ?_
    have hq := Option.some.inj h
    subst q0
    exact bodyQ.pure (.inr rfl) rfl (Res.one rfl (RV.tmp rfl))
noncomputable def x_slices_EqualFunc_float32_float32_float32_float32_2Fi_SameNumber_b1 (a0 : List F) (a1 : List F) (v1 : Int) : Option (LR (Int) (Unit) (Bool)) :=
 bsel (decide (v1 < (a0.length : Int))) (
  obind (at? a0 v1) fun (e2 : F) =>
  obind (at? a1 v1) fun (e3 : F) =>
  obind (i_SameNumber e2 e3) fun (r4 : Bool) =>
  bsel r4 (
   olet (IntKind.i64.wrap (v1 + 1)) fun (x5 : Int) =>
   some (LR.next x5)) (
   some (LR.ret false))) (
  some (LR.out ()))
noncomputable def x_slices_EqualFunc_float32_float32_float32_float32_2Fi_SameNumber_s1 (a0 : List F) (a1 : List F) : (Int) → Option (LR (Int) (Unit) (Bool)) := fun s => x_slices_EqualFunc_float32_float32_float32_float32_2Fi_SameNumber_b1 a0 a1 s
noncomputable def x_slices_EqualFunc_float32_float32_float32_float32_2Fi_SameNumber_k1  : Option (Bool) :=
 some true
noncomputable def x_slices_EqualFunc_float32_float32_float32_float32_2Fi_SameNumber (a0 : List F) (a1 : List F) : Option (Bool) :=
 bsel (!decide ((a0.length : Int) = (a1.length : Int))) (
  some false) (
  obind (loopM (x_slices_EqualFunc_float32_float32_float32_float32_2Fi_SameNumber_s1 a0 a1) 0) fun z => osum z (fun _ => x_slices_EqualFunc_float32_float32_float32_float32_2Fi_SameNumber_k1) (fun r => some r))
theorem x_slices_EqualFunc_float32_float32_float32_float32_2Fi_SameNumber_ok (a0 : List F) (a1 : List F) (q0 : Bool) (h : x_slices_EqualFunc_float32_float32_float32_float32_2Fi_SameNumber a0 a1 = some q0) : Ev Try.prog 130 [(sFc a0), (sFc a1), fn (.func 131) [] []] [] (b q0) [] := by
 refine Ev.start Try.func130 rfl rfl 0 (τ := [(0, (sFc a0)), (1, (sFc a1)), (2, fn (.func 131) [] [])]) rfl (Γ' := []) rfl (n := 65) rfl (g := 0) rfl (fun _ => rfl) ?_
 unfold x_slices_EqualFunc_float32_float32_float32_float32_2Fi_SameNumber at h
 refine zQ ?_
 refine za (r := b false) ?_
 refine zN ?_
 iterate 2 (refine RunC.seq ?_)
 rcases bsel_some h with ⟨hc1, h⟩ | ⟨hc1, h⟩
 ·refine RunC.regionW ?_
  refine zm (r := (sFc a0)) ?_
  refine zl (r := i64 (a0.length : Int)) (LOp.len_sl und24 rfl rfl) ?_
  refine zm (r := (sFc a1)) ?_
  refine zl (r := i64 (a1.length : Int)) (LOp.len_sl und24 rfl rfl) ?_
  refine zl (r := b true) (LOp.eqb (LOp.neq rfl rfl rfl) hc1) ?_
  refine zN ?_
  refine RunC.cond_true rfl rfl ?_
  refine zQ ?_
  refine za (r := b false) ?_
  refine zN ?_
  refine RunC.ret ?_
  have hq := Option.some.inj h
  subst q0
  exact bodyQ.pure (.inr rfl) rfl (Res.one rfl (RV.tmp rfl))
 ·refine RunC.regionW ?_
  refine zm (r := (sFc a0)) ?_
  refine zl (r := i64 (a0.length : Int)) (LOp.len_sl und24 rfl rfl) ?_
  refine zm (r := (sFc a1)) ?_
  refine zl (r := i64 (a1.length : Int)) (LOp.len_sl und24 rfl rfl) ?_
  refine zl (r := b false) (LOp.eqb (LOp.neq rfl rfl rfl) hc1) ?_
  refine zN ?_
  refine RunC.cond_false rfl rfl ?_
  refine RunC.skip ?_
  refine RunC.seq ?_
  refine zQ ?_
  refine zm (r := (sFc a0)) ?_
  refine zl (r := i64 (a0.length : Int)) (LOp.len_sl und24 rfl rfl) ?_
  refine zm (r := i64 0) ?_
  refine zN ?_
  obtain ⟨z2, hz_2, h⟩ := obind_some h
  refine RunC.cutN (fun τ Γ => WeakLe τ [] ∧ DeadLe Γ [] ∧ z2 = .inl ()) ?_ ?_
  ·refine RunC.block (RunC.loop (RunL.loopM (x := z2) (x_slices_EqualFunc_float32_float32_float32_float32_2Fi_SameNumber_s1 a0 a1) (fun (s : Int) τ Γ => WeakLe τ [(1, (sFc a1)), (2, fn (.func 131) [] []), (15, (sFc a0)), (16, i64 (a0.length : Int)), (17, i64 s)] ∧ DeadLe Γ []) ?_ _ _ _ hz_2 ⟨⟨aR, aR, aR, aR, aR, trivial⟩, trivial⟩))
   rintro v1 τ2 Γ2 y2_ ⟨hw2, hd2⟩ h2_ ho2 hr2
   refine RunC.wl (τ' := [(1, (sFc a1)), (2, fn (.func 131) [] []), (15, (sFc a0)), (16, i64 (a0.length : Int)), (17, i64 v1)]) (Γ' := []) hw2 hd2 ?_
   replace h2_ : x_slices_EqualFunc_float32_float32_float32_float32_2Fi_SameNumber_b1 a0 a1 v1 = some y2_ := h2_
   unfold x_slices_EqualFunc_float32_float32_float32_float32_2Fi_SameNumber_b1 at h2_
   refine RunC.seq ?_
   rcases bsel_some h2_ with ⟨hc2, h2_⟩ | ⟨hc2, h2_⟩
   ·refine RunC.regionW ?_
    refine zl (r := b true) (LOp.eqb (LOp.lss rfl rfl rfl) hc2) ?_
    refine zN ?_
    refine RunC.seq ?_
    refine RunC.cond_true rfl rfl ?_
    refine RunC.skip ?_
    refine RunC.seq ?_
    refine RunC.block ?_
    refine RunC.seq ?_
    obtain ⟨e2, he3, h2_⟩ := obind_some h2_
    refine RunC.regionW ?_
    refine zm (r := i64 v1) ?_
    refine zl (r := ptr [f32 e2]) (LOp.le (LOp.ix (f := f32) und24 siz36 rfl rfl rfl rfl he3) ALe.ptr) ?_
    refine zl (r := f32 e2) (LOp.load1 agg36 rfl rfl) ?_
    refine za (r := i64 v1) ?_
    refine za (r := f32 e2) ?_
    refine zN ?_
    refine RunC.seq ?_
    obtain ⟨e3, he4, h2_⟩ := obind_some h2_
    refine RunC.regionW ?_
    refine zm (r := (sFc a1)) ?_
    refine zm (r := i64 v1) ?_
    refine zl (r := ptr [f32 e3]) (LOp.le (LOp.ix (f := f32) und24 siz36 rfl rfl rfl rfl he4) ALe.ptr) ?_
    refine zl (r := f32 e3) (LOp.load1 agg36 rfl rfl) ?_
    refine za (r := f32 e3) ?_
    refine zN ?_
    refine RunC.seq ?_
    obtain ⟨r4, hf5, h2_⟩ := obind_some h2_
    rcases bsel_some h2_ with ⟨hc6, h2_⟩ | ⟨hc6, h2_⟩
    ·refine RunC.regionW ?_
     refine zm (r := fn (.func 131) [] []) ?_
     refine zm (r := f32 e2) ?_
     refine zm (r := f32 e3) ?_
     refine ROps.d (r := b true) (fs := []) (Γ' := []) rfl rfl rfl (TOp.eqb (TOp.callB (CallAs.fn ent131 rfl rfl rfl rfl) (Bors.cons (Bor.pure rfl) (Bors.cons (Bor.pure rfl) Bors.nil)) rfl rfl (i_SameNumber_ok e2 e3 r4 hf5)) hc6) rfl ?_
     refine zl (r := b false) (LOp.eqb (LOp.not rfl rfl) rfl) ?_
     refine zN ?_
     refine RunC.wl (τ' := [(1, (sFc a1)), (2, fn (.func 131) [] []), (15, (sFc a0)), (16, i64 (a0.length : Int)), (17, i64 v1), (30, b false)]) (Γ' := []) ⟨aR, aR, aR, aR, aR, aR, trivial⟩ trivial ?_
     refine RunC.cond_false rfl rfl ?_
     refine RunC.skip ?_
     obtain ⟨x5, hx7, h2_⟩ := olet_some h2_
     refine RunC.regionW ?_
     refine zl (r := i64 x5) (LOp.eqr (LOp.add rfl rfl rfl) (congrArg (ik .i64) hx7)) ?_
     refine zm (r := i64 x5) ?_
     refine zN ?_
     cases Option.some.inj h2_
     exact ⟨_, rfl, ⟨aR, aR, aR, aR, aR, trivial⟩, trivial⟩
    ·refine RunC.regionW ?_
     refine zm (r := fn (.func 131) [] []) ?_
     refine zm (r := f32 e2) ?_
     refine zm (r := f32 e3) ?_
     refine ROps.d (r := b false) (fs := []) (Γ' := []) rfl rfl rfl (TOp.eqb (TOp.callB (CallAs.fn ent131 rfl rfl rfl rfl) (Bors.cons (Bor.pure rfl) (Bors.cons (Bor.pure rfl) Bors.nil)) rfl rfl (i_SameNumber_ok e2 e3 r4 hf5)) hc6) rfl ?_
     refine zl (r := b true) (LOp.eqb (LOp.not rfl rfl) rfl) ?_
     refine zN ?_
     refine RunC.wl (τ' := [(1, (sFc a1)), (2, fn (.func 131) [] []), (15, (sFc a0)), (16, i64 (a0.length : Int)), (17, i64 v1), (30, b true)]) (Γ' := []) ⟨aR, aR, aR, aR, aR, aR, trivial⟩ trivial ?_
     refine RunC.cond_true rfl rfl ?_
     refine zQ ?_
     refine za (r := b false) ?_
     refine zN ?_
     refine RunC.ret ?_
     cases Option.some.inj h2_
     have hx3_ := hr2 _ rfl
     subst hx3_
     have hq := Option.some.inj h
     subst q0
     exact bodyQ.pure (.inr rfl) rfl (Res.one rfl (RV.tmp rfl))
   ·refine RunC.regionW ?_
    refine zl (r := b false) (LOp.eqb (LOp.lss rfl rfl rfl) hc2) ?_
    refine zN ?_
    refine RunC.seq ?_
    refine RunC.cond_false rfl rfl ?_
    refine RunC.exit ?_
    cases Option.some.inj h2_
    have hx := ho2 _ rfl
    exact ⟨trivial, trivial, hx⟩
  ·rintro τ4 Γ4 ⟨hw4, hd4, rfl⟩
   refine RunC.wl hw4 hd4 ?_
   replace h : x_slices_EqualFunc_float32_float32_float32_float32_2Fi_SameNumber_k1 = some q0 := h
   unfold x_slices_EqualFunc_float32_float32_float32_float32_2Fi_SameNumber_k1 at h
   refine zQ ?_
   refine za (r := b true) ?_
   refine zN ?_
   refine RunC.ret ?_
   have hq := Option.some.inj h
   subst q0
   exact bodyQ.pure (.inr rfl) rfl (Res.one rfl (RV.tmp rfl))
noncomputable def i_sameNumbers (a0 : List F) (a1 : List F) : Option (Bool) :=
 obind (x_slices_EqualFunc_float32_float32_float32_float32_2Fi_SameNumber a0 a1) fun (r1 : Bool) =>
 some r1
theorem i_sameNumbers_ok (a0 : List F) (a1 : List F) (q0 : Bool) (h : i_sameNumbers a0 a1 = some q0) : Ev Try.prog 69 [(sFc a0), (sFc a1)] [] (b q0) [] := by
 refine Ev.start Try.func69 rfl rfl 0 (τ := [(0, (sFc a0)), (1, (sFc a1))]) rfl (Γ' := []) rfl (n := 17) rfl (g := 0) rfl (fun _ => rfl) ?_
 unfold i_sameNumbers at h
 refine zQ ?_
 refine za (r := b false) ?_
 refine zN ?_
 refine RunC.seq ?_
 obtain ⟨r1, hf1, h⟩ := obind_some h
 refine RunC.regionW ?_
 refine zm (r := (sFc a0)) ?_
 refine zm (r := (sFc a1)) ?_
 refine ROps.d (r := b r1) (fs := []) (Γ' := []) rfl rfl rfl (TOp.callB (CallAs.func ent130 rfl rfl) (Bors.cons (Bor.sl (fun _ => rfl)) (Bors.cons (Bor.sl (fun _ => rfl)) (Bors.cons (Bor.fn Bors.nil Bors.nil) Bors.nil))) rfl rfl (x_slices_EqualFunc_float32_float32_float32_float32_2Fi_SameNumber_ok a0 a1 r1 hf1)) rfl ?_
 refine za (r := b r1) ?_
 refine zN ?_
 refine RunC.ret ?_
 have hq := Option.some.inj h
 subst q0
 exact bodyQ.pure (.inr rfl) rfl (Res.one rfl (RV.tmp rfl))
noncomputable def i_SameMatrix (a0 : Int) (a1 : Int) (a2 : List F) (a3 : Int) (a4 : Int) (a5 : List F) : Option (Bool) :=
 bsel (decide (a0 = a3)) (
  bsel (decide (a1 = a4)) (
   obind (i_sameNumbers a2 a5) fun (r1 : Bool) =>
   some r1) (
   some false)) (
  some false)
theorem i_SameMatrix_ok (a0 : Int) (a1 : Int) (a2 : List F) (a3 : Int) (a4 : Int) (a5 : List F) (q0 : Bool) (h : i_SameMatrix a0 a1 a2 a3 a4 a5 = some q0) : Ev Try.prog 16 [agg (mXc a0 a1 a2), agg (mXc a3 a4 a5)] [] (b q0) [] := by
 refine Ev.start Try.func16 rfl rfl 0 (τ := [(0, agg (mXc a0 a1 a2)), (1, agg (mXc a3 a4 a5))]) rfl (Γ' := []) rfl (n := 49) rfl (g := 0) rfl (fun _ => rfl) ?_
 unfold i_SameMatrix at h
 refine zQ ?_
 refine ROps.d (r := ptr (mXc a0 a1 a2)) (fs := []) (Γ' := []) rfl rfl rfl (TOp.box_s rfl rfl rfl) rfl ?_
 refine ROps.d (r := ptr (mXc a3 a4 a5)) (fs := []) (Γ' := []) rfl rfl rfl (TOp.box_s rfl rfl rfl) rfl ?_
 refine za (r := b false) ?_
 refine zN ?_
 refine RunC.seq ?_
 rcases bsel_some h with ⟨hc1, h⟩ | ⟨hc1, h⟩
 ·rcases bsel_some h with ⟨hc2, h⟩ | ⟨hc2, h⟩
  ·obtain ⟨r1, hf3, h⟩ := obind_some h
   refine RunC.regionW ?_
   refine zl (r := ptr (mXc a0 a1 a2)) (LOp.fap und26 rfl siz2 rfl rfl rfl) ?_
   refine zl (r := i64 a0) (LOp.load1 agg2 rfl rfl) ?_
   refine zl (r := ptr (mXc a3 a4 a5)) (LOp.fap und26 rfl siz2 rfl rfl rfl) ?_
   refine zl (r := i64 a3) (LOp.load1 agg2 rfl rfl) ?_
   refine zl (r := b true) (LOp.eqb (LOp.eql rfl rfl rfl) hc1) ?_
   refine zm (r := b true) ?_
   refine zl (r := ptr [i64 a1, (sFc a2)]) (LOp.fap und26 rfl siz2 rfl rfl rfl) ?_
   refine zl (r := i64 a1) (LOp.load1 agg2 rfl rfl) ?_
   refine zl (r := ptr [i64 a4, (sFc a5)]) (LOp.fap und26 rfl siz2 rfl rfl rfl) ?_
   refine zl (r := i64 a4) (LOp.load1 agg2 rfl rfl) ?_
   refine zl (r := b true) (LOp.eqb (LOp.eql rfl rfl rfl) hc2) ?_
   refine zl (r := b true) (LOp.pick_true rfl rfl rfl) ?_
   refine zm (r := b true) ?_
   refine zl (r := ptr [(sFc a2)]) (LOp.fap und26 rfl siz24 rfl rfl rfl) ?_
   refine zl (r := (sFc a2)) (LOp.load1 agg24 rfl rfl) ?_
   refine zl (r := ptr [(sFc a5)]) (LOp.fap und26 rfl siz24 rfl rfl rfl) ?_
   refine zl (r := (sFc a5)) (LOp.load1 agg24 rfl rfl) ?_
   refine ROps.d (r := b r1) (fs := []) (Γ' := []) rfl rfl rfl (TOp.callB (CallAs.func ent69 rfl rfl) (Bors.cons (Bor.sl (fun _ => rfl)) (Bors.cons (Bor.sl (fun _ => rfl)) Bors.nil)) rfl rfl (i_sameNumbers_ok a2 a5 r1 hf3)) rfl ?_
   refine zl (r := b r1) (LOp.pick_true rfl rfl rfl) ?_
   refine za (r := b r1) ?_
   refine zN ?_
   refine RunC.ret ?_
   have hq := Option.some.inj h
   subst q0
   exact bodyQ.pure (.inr rfl) rfl (Res.one rfl (RV.tmp rfl))
  ·refine RunC.regionW ?_
   refine zl (r := ptr (mXc a0 a1 a2)) (LOp.fap und26 rfl siz2 rfl rfl rfl) ?_
   refine zl (r := i64 a0) (LOp.load1 agg2 rfl rfl) ?_
   refine zl (r := ptr (mXc a3 a4 a5)) (LOp.fap und26 rfl siz2 rfl rfl rfl) ?_
   refine zl (r := i64 a3) (LOp.load1 agg2 rfl rfl) ?_
   refine zl (r := b true) (LOp.eqb (LOp.eql rfl rfl rfl) hc1) ?_
   refine zm (r := b true) ?_
   refine zl (r := ptr [i64 a1, (sFc a2)]) (LOp.fap und26 rfl siz2 rfl rfl rfl) ?_
   refine zl (r := i64 a1) (LOp.load1 agg2 rfl rfl) ?_
   refine zl (r := ptr [i64 a4, (sFc a5)]) (LOp.fap und26 rfl siz2 rfl rfl rfl) ?_
   refine zl (r := i64 a4) (LOp.load1 agg2 rfl rfl) ?_
   refine zl (r := b false) (LOp.eqb (LOp.eql rfl rfl rfl) hc2) ?_
   refine zl (r := b false) (LOp.pick_true rfl rfl rfl) ?_
   refine zm (r := b false) ?_
   iterate 5 (refine ROps.s rfl rfl rfl ?_)
   refine zl (r := b false) (LOp.pick_false rfl rfl rfl) ?_
   refine za (r := b false) ?_
   refine zN ?_
   refine RunC.ret ?_
   have hq := Option.some.inj h
   subst q0
   exact bodyQ.pure (.inr rfl) rfl (Res.one rfl (RV.tmp rfl))
 ·refine RunC.regionW ?_
  refine zl (r := ptr (mXc a0 a1 a2)) (LOp.fap und26 rfl siz2 rfl rfl rfl) ?_
  refine zl (r := i64 a0) (LOp.load1 agg2 rfl rfl) ?_
  refine zl (r := ptr (mXc a3 a4 a5)) (LOp.fap und26 rfl siz2 rfl rfl rfl) ?_
  refine zl (r := i64 a3) (LOp.load1 agg2 rfl rfl) ?_
  refine zl (r := b false) (LOp.eqb (LOp.eql rfl rfl rfl) hc1) ?_
  iterate 2 (refine zm (r := b false) ?_; refine ROps.s rfl rfl rfl ?_; refine ROps.s rfl rfl rfl ?_; refine ROps.s rfl rfl rfl ?_; refine ROps.s rfl rfl rfl ?_; refine ROps.s rfl rfl rfl ?_; refine zl (r := b false) (LOp.pick_false rfl rfl rfl) ?_)
  refine za (r := b false) ?_
  refine zN ?_
  refine RunC.ret ?_
  have hq := Option.some.inj h
  subst q0
  exact bodyQ.pure (.inr rfl) rfl (Res.one rfl (RV.tmp rfl))
noncomputable def i_isSquare (a0 : Int) (a1 : Int) (a2 : List F) : Option (Bool) :=
 obind (i_ValidMatrix a0 a1 a2) fun (r1 : Bool) =>
 bsel r1 (
  some (decide (a0 = a1))) (
  some false)
theorem i_isSquare_ok (a0 : Int) (a1 : Int) (a2 : List F) (q0 : Bool) (h : i_isSquare a0 a1 a2 = some q0) : Ev Try.prog 116 [agg (mXc a0 a1 a2)] [] (b q0) [] := by
 refine Ev.start Try.func116 rfl rfl 0 (τ := [(0, agg (mXc a0 a1 a2))]) rfl (Γ' := []) rfl (n := 25) rfl (g := 0) rfl (fun _ => rfl) ?_
 unfold i_isSquare at h
 refine zQ ?_
 refine ROps.d (r := ptr (mXc a0 a1 a2)) (fs := []) (Γ' := []) rfl rfl rfl (TOp.box_s rfl rfl rfl) rfl ?_
 refine za (r := b false) ?_
 refine zN ?_
 refine RunC.seq ?_
 obtain ⟨r1, hf1, h⟩ := obind_some h
 rcases bsel_some h with ⟨hc2, h⟩ | ⟨hc2, h⟩
 ·refine RunC.regionW ?_
  refine zl (r := agg (mXc a0 a1 a2)) (LOp.loadAgg agg26 siz26 rfl rfl rfl rfl) ?_
  refine ROps.d (r := b true) (fs := []) (Γ' := []) rfl rfl rfl (TOp.eqb (TOp.callB (CallAs.func ent66 rfl rfl) (Bors.cons (Bor.agg (Bors.cons (Bor.pure rfl) (Bors.cons (Bor.pure rfl) (Bors.cons (Bor.sl (fun _ => rfl)) Bors.nil)))) Bors.nil) rfl rfl (i_ValidMatrix_ok a0 a1 a2 r1 hf1)) hc2) rfl ?_
  refine zm (r := b true) ?_
  refine zl (r := ptr (mXc a0 a1 a2)) (LOp.fap und26 rfl siz2 rfl rfl rfl) ?_
  refine zl (r := i64 a0) (LOp.load1 agg2 rfl rfl) ?_
  refine zl (r := ptr [i64 a1, (sFc a2)]) (LOp.fap und26 rfl siz2 rfl rfl rfl) ?_
  refine zl (r := i64 a1) (LOp.load1 agg2 rfl rfl) ?_
  refine zl (r := b (decide (a0 = a1))) (LOp.eql rfl rfl rfl) ?_
  refine zl (r := b (decide (a0 = a1))) (LOp.pick_true rfl rfl rfl) ?_
  refine za (r := b (decide (a0 = a1))) ?_
  refine zN ?_
  refine RunC.ret ?_
  have hq := Option.some.inj h
  subst q0
  exact bodyQ.pure (.inr rfl) rfl (Res.one rfl (RV.tmp rfl))
 ·refine RunC.regionW ?_
  refine zl (r := agg (mXc a0 a1 a2)) (LOp.loadAgg agg26 siz26 rfl rfl rfl rfl) ?_
  refine ROps.d (r := b false) (fs := []) (Γ' := []) rfl rfl rfl (TOp.eqb (TOp.callB (CallAs.func ent66 rfl rfl) (Bors.cons (Bor.agg (Bors.cons (Bor.pure rfl) (Bors.cons (Bor.pure rfl) (Bors.cons (Bor.sl (fun _ => rfl)) Bors.nil)))) Bors.nil) rfl rfl (i_ValidMatrix_ok a0 a1 a2 r1 hf1)) hc2) rfl ?_
  refine zm (r := b false) ?_
  iterate 5 (refine ROps.s rfl rfl rfl ?_)
  refine zl (r := b false) (LOp.pick_false rfl rfl rfl) ?_
  refine za (r := b false) ?_
  refine zN ?_
  refine RunC.ret ?_
  have hq := Option.some.inj h
  subst q0
  exact bodyQ.pure (.inr rfl) rfl (Res.one rfl (RV.tmp rfl))
noncomputable def i_unit_1 (a0 : Int) (a1 : Int) : Option (F) :=
 bsel (decide (a0 = a1)) (
  some (some 1065353216)) (
  some (some 0))
theorem i_unit_1_ok (a0 : Int) (a1 : Int) (q0 : F) (h : i_unit_1 a0 a1 = some q0) : Ev Try.prog 129 [i64 a0, i64 a1] [] (f32 q0) [] := by
 refine Ev.start Try.func129 rfl rfl 0 (τ := [(0, i64 a0), (1, i64 a1)]) rfl (Γ' := []) rfl (n := 17) rfl (g := 0) rfl (fun _ => rfl) ?_
 unfold i_unit_1 at h
 refine zQ ?_
 refine zl (r := f32 (some 0)) (LOp.le (LOp.assign rfl rfl) (ALe.fl (by kernel_rfl) (by kernel_rfl))) ?_
 refine zN ?_
 iterate 2 (refine RunC.seq ?_)
 rcases bsel_some h with ⟨hc1, h⟩ | ⟨hc1, h⟩
 ·refine RunC.regionW ?_
  refine zm (r := i64 a0) ?_
  refine zm (r := i64 a1) ?_
  refine zl (r := b true) (LOp.eqb (LOp.eql rfl rfl rfl) hc1) ?_
  refine zN ?_
  refine RunC.cond_true rfl rfl ?_
  refine zQ ?_
  refine zl (r := f32 (some 1065353216)) (LOp.le (LOp.assign rfl rfl) (ALe.fl (by kernel_rfl) (by kernel_rfl))) ?_
  refine zN ?_
  refine RunC.ret ?_
  have hq := Option.some.inj h
  subst q0
  exact bodyQ.pure (.inr rfl) rfl (Res.one rfl (RV.tmp rfl))
 ·refine RunC.regionW ?_
  refine zm (r := i64 a0) ?_
  refine zm (r := i64 a1) ?_
  refine zl (r := b false) (LOp.eqb (LOp.eql rfl rfl rfl) hc1) ?_
  refine zN ?_
  refine RunC.cond_false rfl rfl ?_
  refine RunC.skip ?_
  refine zQ ?_
  refine zl (r := f32 (some 0)) (LOp.le (LOp.assign rfl rfl) (ALe.fl (by kernel_rfl) (by kernel_rfl))) ?_
  refine zN ?_
  refine RunC.ret ?_
  have hq := Option.some.inj h
  subst q0
  exact bodyQ.pure (.inr rfl) rfl (Res.one rfl (RV.tmp rfl))
noncomputable def i_made_2Fi_unit_1_b2 (a1 : Int) (r1 : Int) (r2 : Int) (r3 : List F) (v6 : Int) (L7 : List F) (v9 : Int) : Option (LR ((List F) × Int) ((List F)) (Int × Int × (List F))) :=
 bsel (decide (v9 < a1)) (
  obind (i_unit_1 v6 v9) fun (r11 : F) =>
  obind (i_Matrix_set_02o r1 r2 v6 v9 r11 L7) fun (r12 : List F) =>
  need (decide (r12.length = r3.length)) <|
  olet (IntKind.i64.wrap (v9 + 1)) fun (x13 : Int) =>
  some (LR.next (r12, x13))) (
  some (LR.out L7))
noncomputable def i_made_2Fi_unit_1_s2 (a1 : Int) (r1 : Int) (r2 : Int) (r3 : List F) (v6 : Int) : ((List F) × Int) → Option (LR ((List F) × Int) ((List F)) (Int × Int × (List F))) := fun s => i_made_2Fi_unit_1_b2 a1 r1 r2 r3 v6 s.1 s.2
noncomputable def i_made_2Fi_unit_1_k2 (v6 : Int) (L14 : List F) : Option (LR ((List F) × Int) ((List F)) (Int × Int × (List F))) :=
 olet (IntKind.i64.wrap (v6 + 1)) fun (x16 : Int) =>
 some (LR.next (L14, x16))
noncomputable def i_made_2Fi_unit_1_b3 (a0 : Int) (a1 : Int) (r1 : Int) (r2 : Int) (r3 : List F) (L4 : List F) (v6 : Int) : Option (LR ((List F) × Int) ((List F)) (Int × Int × (List F))) :=
 bsel (decide (v6 < a0)) (
  obind (loopM (i_made_2Fi_unit_1_s2 a1 r1 r2 r3 v6) (L4, 0)) fun z => osum z (fun e => i_made_2Fi_unit_1_k2 v6 e) (fun r => some (LR.ret r))) (
  some (LR.out L4))
noncomputable def i_made_2Fi_unit_1_s3 (a0 : Int) (a1 : Int) (r1 : Int) (r2 : Int) (r3 : List F) : ((List F) × Int) → Option (LR ((List F) × Int) ((List F)) (Int × Int × (List F))) := fun s => i_made_2Fi_unit_1_b3 a0 a1 r1 r2 r3 s.1 s.2
noncomputable def i_made_2Fi_unit_1_k3 (r1 : Int) (r2 : Int) (L17 : List F) : Option (Int × Int × (List F)) :=
 some (r1, r2, L17)
noncomputable def i_made_2Fi_unit_1 (a0 : Int) (a1 : Int) : Option (Int × Int × (List F)) :=
 obind3 (i_newMatrix a0 a1) fun (r1 : Int) (r2 : Int) (r3 : List F) =>
 obind (loopM (i_made_2Fi_unit_1_s3 a0 a1 r1 r2 r3) (r3, 0)) fun z => osum z (fun e => i_made_2Fi_unit_1_k3 r1 r2 e) (fun r => some r)
theorem i_made_2Fi_unit_1_ok (a0 : Int) (a1 : Int) (q0 : Int) (q1 : Int) (q2 : List F) (h : i_made_2Fi_unit_1 a0 a1 = some (q0, q1, q2)) : Ev Try.prog 60 [i64 a0, i64 a1, fn (.func 129) [] []] [] (agg (oXc q0 q1 0 0 q2.length)) [⟨0, some (q2.map f32)⟩] := by
 refine Ev.start Try.func60 rfl rfl 3 (τ := [(0, i64 a0), (1, i64 a1), (2, fn (.func 129) [] [])]) rfl (Γ' := [⟨0, none⟩, ⟨0, none⟩, ⟨0, none⟩]) rfl (n := 65) rfl (g := 0) rfl (fun _ => rfl) ?_
 unfold i_made_2Fi_unit_1 at h
 refine zQ ?_
 refine ROps.d (r := optr 0 1 0) (fs := [(0, zMx)]) (Γ' := [⟨1, some zMx⟩, ⟨0, none⟩, ⟨0, none⟩]) rfl rfl rfl (TOp.alloc_o (g := ⟨0, none⟩) 0 rfl zer26 zok26 rfl) rfl ?_
 refine zN ?_
 refine RunC.seq ?_
 obtain ⟨r1, r2, r3, hf1, h⟩ := obind3_some h
 refine RunC.regionW ?_
 refine zm (r := i64 a0) ?_
 refine zm (r := i64 a1) ?_
 refine ROps.d (r := agg (oXc r1 r2 1 1 r3.length)) (fs := [(1, (r3.map f32))]) (Γ' := [⟨1, some zMx⟩, ⟨1, some (r3.map f32)⟩, ⟨0, none⟩]) rfl rfl rfl (TOp.callBN (ls := [(r3.map f32)]) [1] (CallAs.func ent126 rfl rfl) (Bors.cons (Bor.pure rfl) (Bors.cons (Bor.pure rfl) Bors.nil)) rfl (i_newMatrix_ok a0 a1 r1 r2 r3 hf1) (and_all (lts0_map (f := f32) (fun _ => rfl) _) rfl) (and_all (noss_map (f := f32) (fun _ => rfl) _) rfl) rfl (by decide) (ns_of ⟨⟨_, rfl⟩, trivial⟩)) rfl ?_
 refine ROps.d (r := optr 2 1 0) (fs := [(2, zMx)]) (Γ' := [⟨1, some zMx⟩, ⟨1, some (r3.map f32)⟩, ⟨1, some zMx⟩]) rfl rfl rfl (TOp.alloc_o (g := ⟨0, none⟩) 2 rfl zer26 zok26 rfl) rfl ?_
 refine ROps.store_le (r := agg (oXc r1 r2 1 1 r3.length)) (l' := (oXc r1 r2 1 1 r3.length)) (Γ' := [⟨1, some zMx⟩, ⟨1, some (r3.map f32)⟩, ⟨1, some (oXc r1 r2 1 1 r3.length)⟩]) rfl siz26 rfl rfl rfl aR rfl rfl rfl rfl (Nat.le_of_ble_eq_true rfl) rfl rfl ?_
 refine zN ?_
 refine RunC.seq ?_
 refine zQ ?_
 refine zm (r := i64 a0) ?_
 refine zm (r := i64 0) ?_
 refine zN ?_
 obtain ⟨z4, hz_4, h⟩ := obind_some h
 refine RunC.cutN (fun τ Γ => ∃ (L17 : List F), L17.length = r3.length ∧ WeakLe τ [(6, optr 0 1 0), (7, optr 2 1 0)] ∧ DeadLe Γ [⟨1, some zMx⟩, ⟨1, some (L17.map f32)⟩, ⟨1, some (oXc r1 r2 1 1 r3.length)⟩] ∧ z4 = .inl L17) ?_ ?_
 ·refine RunC.block (RunC.loop (RunL.loopM (x := z4) (i_made_2Fi_unit_1_s3 a0 a1 r1 r2 r3) (fun (s : (List F) × Int) τ Γ => s.1.length = r3.length ∧ WeakLe τ [(1, i64 a1), (2, fn (.func 129) [] []), (6, optr 0 1 0), (7, optr 2 1 0), (13, i64 a0), (14, i64 s.2)] ∧ DeadLe Γ [⟨1, some zMx⟩, ⟨1, some (s.1.map f32)⟩, ⟨1, some (oXc r1 r2 1 1 r3.length)⟩]) ?_ _ _ _ hz_4 ⟨rfl, ⟨aR, aR, aR, aR, aR, aR, trivial⟩, ⟨⟨rfl, .inr rfl⟩, ⟨rfl, .inr rfl⟩, ⟨rfl, .inr rfl⟩, trivial⟩⟩))
  rintro ⟨L4, v6⟩ τ4 Γ4 y4_ ⟨hl5, hw4, hd4⟩ h4_ ho4 hr4
  refine RunC.wl (τ' := [(1, i64 a1), (2, fn (.func 129) [] []), (6, optr 0 1 0), (7, optr 2 1 0), (13, i64 a0), (14, i64 v6)]) (Γ' := [⟨1, some zMx⟩, ⟨1, some (L4.map f32)⟩, ⟨1, some (oXc r1 r2 1 1 r3.length)⟩]) hw4 hd4 ?_
  replace hl5 : L4.length = r3.length := hl5
  replace h4_ : i_made_2Fi_unit_1_b3 a0 a1 r1 r2 r3 L4 v6 = some y4_ := h4_
  unfold i_made_2Fi_unit_1_b3 at h4_
  refine RunC.seq ?_
  rcases bsel_some h4_ with ⟨hc2, h4_⟩ | ⟨hc2, h4_⟩
  ·refine RunC.regionW ?_
   refine zl (r := b true) (LOp.eqb (LOp.lss rfl rfl rfl) hc2) ?_
   refine zN ?_
   refine RunC.seq ?_
   refine RunC.cond_true rfl rfl ?_
   refine RunC.skip ?_
   refine RunC.seq ?_
   refine RunC.block ?_
   refine zQ ?_
   refine zm (r := i64 v6) ?_
   refine za (r := i64 v6) ?_
   refine zN ?_
   refine zQ ?_
   refine zm (r := i64 a1) ?_
   refine zm (r := i64 0) ?_
   refine zN ?_
   obtain ⟨z5, hz_5, h4_⟩ := obind_some h4_
   refine RunC.cutN (fun τ Γ => ∃ (L14 : List F), L14.length = r3.length ∧ WeakLe τ [(1, i64 a1), (2, fn (.func 129) [] []), (6, optr 0 1 0), (7, optr 2 1 0), (13, i64 a0), (14, i64 v6)] ∧ DeadLe Γ [⟨1, some zMx⟩, ⟨1, some (L14.map f32)⟩, ⟨1, some (oXc r1 r2 1 1 r3.length)⟩] ∧ z5 = .inl L14) ?_ ?_
   ·refine RunC.block (RunC.loop (RunL.loopM (x := z5) (i_made_2Fi_unit_1_s2 a1 r1 r2 r3 v6) (fun (s : (List F) × Int) τ Γ => s.1.length = r3.length ∧ WeakLe τ [(1, i64 a1), (2, fn (.func 129) [] []), (6, optr 0 1 0), (7, optr 2 1 0), (8, i64 v6), (13, i64 a0), (14, i64 v6), (17, i64 a1), (18, i64 s.2)] ∧ DeadLe Γ [⟨1, some zMx⟩, ⟨1, some (s.1.map f32)⟩, ⟨1, some (oXc r1 r2 1 1 r3.length)⟩]) ?_ _ _ _ hz_5 ⟨hl5, ⟨aR, aR, aR, aR, aR, aR, aR, aR, aR, trivial⟩, ⟨⟨rfl, .inr rfl⟩, ⟨rfl, .inr rfl⟩, ⟨rfl, .inr rfl⟩, trivial⟩⟩))
    rintro ⟨L7, v9⟩ τ5 Γ5 y5_ ⟨hl8, hw5, hd5⟩ h5_ ho5 hr5
    refine RunC.wl (τ' := [(1, i64 a1), (2, fn (.func 129) [] []), (6, optr 0 1 0), (7, optr 2 1 0), (8, i64 v6), (13, i64 a0), (14, i64 v6), (17, i64 a1), (18, i64 v9)]) (Γ' := [⟨1, some zMx⟩, ⟨1, some (L7.map f32)⟩, ⟨1, some (oXc r1 r2 1 1 r3.length)⟩]) hw5 hd5 ?_
    replace hl8 : L7.length = r3.length := hl8
    replace h5_ : i_made_2Fi_unit_1_b2 a1 r1 r2 r3 v6 L7 v9 = some y5_ := h5_
    unfold i_made_2Fi_unit_1_b2 at h5_
    refine RunC.seq ?_
    rcases bsel_some h5_ with ⟨hc3, h5_⟩ | ⟨hc3, h5_⟩
    ·refine RunC.regionW ?_
     refine zl (r := b true) (LOp.eqb (LOp.lss rfl rfl rfl) hc3) ?_
     refine zN ?_
     refine RunC.seq ?_
     refine RunC.cond_true rfl rfl ?_
     refine RunC.skip ?_
     refine RunC.seq ?_
     refine RunC.block ?_
     refine zQ ?_
     refine zm (r := i64 v9) ?_
     refine za (r := i64 v9) ?_
     refine zN ?_
     obtain ⟨r11, hf5, h5_⟩ := obind_some h5_
     obtain ⟨r12, hf6, h5_⟩ := obind_some h5_
     obtain ⟨hn7, h5_⟩ := need_some h5_
     refine RunC.region_draw (Γ' := [⟨1, some zMx⟩, ⟨1, some (L7.map f32)⟩, ⟨1, some (oXc r1 r2 1 1 r3.length)⟩]) 7 mixed 
      (TR.d (r := agg (oXc r1 r2 1 1 r3.length)) (fs := []) rfl rfl (TOp.loadAgg_o rfl agg26 siz26 rfl rfl rfl rfl) <|
      (TR.l (r := i64 v6) rfl rfl (LOp.move rfl rfl) <|
      (TR.l (r := i64 v9) rfl rfl (LOp.move rfl rfl) <|
      (TR.l (r := fn (.func 129) [] []) rfl rfl (LOp.move rfl rfl) <|
      (TR.l (r := i64 v6) rfl rfl (LOp.move rfl rfl) <|
      (TR.l (r := i64 v9) rfl rfl (LOp.move rfl rfl) <|
      (TR.d (r := f32 r11) (fs := []) rfl rfl (TOp.callB (CallAs.fn ent129 rfl rfl rfl rfl) (Bors.cons (Bor.pure rfl) (Bors.cons (Bor.pure rfl) Bors.nil)) rfl rfl (i_unit_1_ok v6 v9 r11 hf5)) <|
      TR.nil))))))) rfl (by kernel_rfl) rfl fills_nil rfl ?_
     iterate 7 refine ROps.dropS ?_
     refine ROps.drop0 ?_
     refine ROps.callO (A := [agg (oXc r1 r2 1 1 r3.length), i64 v6, i64 v9, f32 r11]) (args := [agg (oXc r1 r2 0 0 L7.length), i64 v6, i64 v9, f32 r11]) (Γc := [⟨0, some (L7.map f32)⟩]) (Γc' := [⟨0, some (r12.map f32)⟩]) (r' := tup []) (Γ' := [⟨1, some zMx⟩, ⟨1, some (r12.map f32)⟩, ⟨1, some (oXc r1 r2 1 1 r3.length)⟩]) [(1, 1)] [] rfl (CallAs.func ent78 rfl rfl) rfl rfl (SelOk.of (show List.Nodup [1] from by decide) (SelL.arr0 (f := f32) (fun _ => rfl) rfl trivial)) (live_of ⟨⟨_, _, rfl⟩, trivial⟩) (by simp [ren, rens, sigma, rens_f32, rens_f64, rens_i64, rens_ik, rens_str, rens_cp, hl8]) rfl (i_Matrix_set_02o_ok r1 r2 v6 v9 r11 L7 r12 hf6) rfl (news_of trivial) (show List.Nodup [1] from by decide) (by simp [ren, rens, sigma, of_decide_eq_true hn7]) (by simp [backOb, sigma, ren, rens, rens_f32, rens_f64, rens_i64, rens_ik, rens_str, rens_cp]) ?_
     refine zN ?_
     obtain ⟨x13, hx8, h5_⟩ := olet_some h5_
     refine RunC.regionW ?_
     refine zl (r := i64 x13) (LOp.eqr (LOp.add rfl rfl rfl) (congrArg (ik .i64) hx8)) ?_
     refine zm (r := i64 x13) ?_
     refine zN ?_
     cases Option.some.inj h5_
     exact ⟨_, rfl, (of_decide_eq_true hn7), ⟨aR, aR, aR, aR, aR, aR, aR, aR, aR, trivial⟩, ⟨⟨rfl, .inr rfl⟩, ⟨rfl, .inr rfl⟩, ⟨rfl, .inr rfl⟩, trivial⟩⟩
    ·refine RunC.regionW ?_
     refine zl (r := b false) (LOp.eqb (LOp.lss rfl rfl rfl) hc3) ?_
     refine zN ?_
     refine RunC.seq ?_
     refine RunC.cond_false rfl rfl ?_
     refine RunC.exit ?_
     cases Option.some.inj h5_
     have hx := ho5 _ rfl
     exact ⟨L7, hl8, ⟨aR, aR, aR, aR, aR, aR, trivial⟩, ⟨⟨rfl, .inr rfl⟩, ⟨rfl, .inr rfl⟩, ⟨rfl, .inr rfl⟩, trivial⟩, hx⟩
   ·rintro τ6 Γ6 ⟨L14, hl15, hw6, hd6, rfl⟩
    refine RunC.wl hw6 hd6 ?_
    replace h4_ : i_made_2Fi_unit_1_k2 v6 L14 = some y4_ := h4_
    unfold i_made_2Fi_unit_1_k2 at h4_
    obtain ⟨x16, hx9, h4_⟩ := olet_some h4_
    refine RunC.regionW ?_
    refine zl (r := i64 x16) (LOp.eqr (LOp.add rfl rfl rfl) (congrArg (ik .i64) hx9)) ?_
    refine zm (r := i64 x16) ?_
    refine zN ?_
    cases Option.some.inj h4_
    exact ⟨_, rfl, hl15, ⟨aR, aR, aR, aR, aR, aR, trivial⟩, ⟨⟨rfl, .inr rfl⟩, ⟨rfl, .inr rfl⟩, ⟨rfl, .inr rfl⟩, trivial⟩⟩
  ·refine RunC.regionW ?_
   refine zl (r := b false) (LOp.eqb (LOp.lss rfl rfl rfl) hc2) ?_
   refine zN ?_
   refine RunC.seq ?_
   refine RunC.cond_false rfl rfl ?_
   refine RunC.exit ?_
   cases Option.some.inj h4_
   have hx := ho4 _ rfl
   exact ⟨L4, hl5, ⟨aR, aR, trivial⟩, ⟨⟨rfl, .inr rfl⟩, ⟨rfl, .inr rfl⟩, ⟨rfl, .inr rfl⟩, trivial⟩, hx⟩
 ·rintro τ7 Γ7 ⟨L17, hl18, hw7, hd7, rfl⟩
  refine RunC.wl hw7 hd7 ?_
  replace h : i_made_2Fi_unit_1_k3 r1 r2 L17 = some (q0, q1, q2) := h
  unfold i_made_2Fi_unit_1_k3 at h
  refine zQ ?_
  refine ROps.d (r := agg (oXc r1 r2 1 1 r3.length)) (fs := []) (Γ' := [⟨1, some zMx⟩, ⟨1, some (L17.map f32)⟩, ⟨1, some (oXc r1 r2 1 1 r3.length)⟩]) rfl rfl rfl (TOp.loadAgg_o rfl agg26 siz26 rfl rfl rfl rfl) rfl ?_
  refine ROps.store_le (r := agg (oXc r1 r2 1 1 r3.length)) (l' := (oXc r1 r2 1 1 r3.length)) (Γ' := [⟨1, some (oXc r1 r2 1 1 r3.length)⟩, ⟨1, some (L17.map f32)⟩, ⟨1, some (oXc r1 r2 1 1 r3.length)⟩]) rfl siz26 rfl rfl rfl aR rfl rfl rfl rfl (Nat.le_of_ble_eq_true rfl) rfl rfl ?_
  refine zN ?_
  refine RunC.ret ?_
  have hq := Option.some.inj h
  obtain ⟨hq0, hq⟩ := Prod.mk.inj hq
  obtain ⟨hq1, hq⟩ := Prod.mk.inj hq
  subst q0
  subst q1
  subst q2
  exact bodyQ.mk (r' := agg (oXc r1 r2 1 1 L17.length)) [(1, 1)] (.inr rfl) rfl (show List.Nodup [1] from by decide) rfl rfl (Res.eq (Res.one rfl (RV.cell agg26 siz26 rfl rfl rfl rfl)) (by rw [(show L17.length = r3.length from hl18)] <;> rfl)) (SelL.arr0 (f := f32) (fun _ => rfl) rfl trivial)
noncomputable def i_unit (a0 : Int) : Option (Int × Int × (List F)) :=
 obind3 (i_made_2Fi_unit_1 a0 a0) fun (r1 : Int) (r2 : Int) (r3 : List F) =>
 some (r1, r2, r3)
theorem i_unit_ok (a0 : Int) (q0 : Int) (q1 : Int) (q2 : List F) (h : i_unit a0 = some (q0, q1, q2)) : Ev Try.prog 68 [i64 a0] [] (agg (oXc q0 q1 0 0 q2.length)) [⟨0, some (q2.map f32)⟩] := by
 refine Ev.start Try.func68 rfl rfl 2 (τ := [(0, i64 a0)]) rfl (Γ' := [⟨0, none⟩, ⟨0, none⟩]) rfl (n := 13) rfl (g := 0) rfl (fun _ => rfl) ?_
 unfold i_unit at h
 refine zQ ?_
 refine ROps.d (r := optr 0 1 0) (fs := [(0, zMx)]) (Γ' := [⟨1, some zMx⟩, ⟨0, none⟩]) rfl rfl rfl (TOp.alloc_o (g := ⟨0, none⟩) 0 rfl zer26 zok26 rfl) rfl ?_
 refine zN ?_
 refine RunC.seq ?_
 obtain ⟨r1, r2, r3, hf1, h⟩ := obind3_some h
 refine RunC.regionW ?_
 iterate 2 (refine zm (r := i64 a0) ?_)
 refine ROps.d (r := agg (oXc r1 r2 1 1 r3.length)) (fs := [(1, (r3.map f32))]) (Γ' := [⟨1, some zMx⟩, ⟨1, some (r3.map f32)⟩]) rfl rfl rfl (TOp.callBN (ls := [(r3.map f32)]) [1] (CallAs.func ent60 rfl rfl) (Bors.cons (Bor.pure rfl) (Bors.cons (Bor.pure rfl) (Bors.cons (Bor.fn Bors.nil Bors.nil) Bors.nil))) rfl (i_made_2Fi_unit_1_ok a0 a0 r1 r2 r3 hf1) (and_all (lts0_map (f := f32) (fun _ => rfl) _) rfl) (and_all (noss_map (f := f32) (fun _ => rfl) _) rfl) rfl (by decide) (ns_of ⟨⟨_, rfl⟩, trivial⟩)) rfl ?_
 refine ROps.store_le (r := agg (oXc r1 r2 1 1 r3.length)) (l' := (oXc r1 r2 1 1 r3.length)) (Γ' := [⟨1, some (oXc r1 r2 1 1 r3.length)⟩, ⟨1, some (r3.map f32)⟩]) rfl siz26 rfl rfl rfl aR rfl rfl rfl rfl (Nat.le_of_ble_eq_true rfl) rfl rfl ?_
 refine zN ?_
 refine RunC.ret ?_
 have hq := Option.some.inj h
 obtain ⟨hq0, hq⟩ := Prod.mk.inj hq
 obtain ⟨hq1, hq⟩ := Prod.mk.inj hq
 subst q0
 subst q1
 subst q2
 exact bodyQ.mk (r' := agg (oXc r1 r2 1 1 r3.length)) [(1, 1)] (.inr rfl) rfl (show List.Nodup [1] from by decide) rfl rfl (Res.one rfl (RV.cell agg26 siz26 rfl rfl rfl rfl)) (SelL.arr0 (f := f32) (fun _ => rfl) rfl trivial)
noncomputable def i_areFactors (a0 : Int) (a1 : Int) (a2 : List F) (a3 : Int) (a4 : Int) (a5 : List F) : Option (Bool) :=
 obind (i_ValidMatrix a0 a1 a2) fun (r1 : Bool) =>
 bsel r1 (
  obind (i_ValidMatrix a3 a4 a5) fun (r2 : Bool) =>
  bsel r2 (
   some (decide (a1 = a3))) (
   some false)) (
  some false)
theorem i_areFactors_ok (a0 : Int) (a1 : Int) (a2 : List F) (a3 : Int) (a4 : Int) (a5 : List F) (q0 : Bool) (h : i_areFactors a0 a1 a2 a3 a4 a5 = some q0) : Ev Try.prog 56 [agg (mXc a0 a1 a2), agg (mXc a3 a4 a5)] [] (b q0) [] := by
 refine Ev.start Try.func56 rfl rfl 0 (τ := [(0, agg (mXc a0 a1 a2)), (1, agg (mXc a3 a4 a5))]) rfl (Γ' := []) rfl (n := 37) rfl (g := 0) rfl (fun _ => rfl) ?_
 unfold i_areFactors at h
 refine zQ ?_
 refine ROps.d (r := ptr (mXc a0 a1 a2)) (fs := []) (Γ' := []) rfl rfl rfl (TOp.box_s rfl rfl rfl) rfl ?_
 refine ROps.d (r := ptr (mXc a3 a4 a5)) (fs := []) (Γ' := []) rfl rfl rfl (TOp.box_s rfl rfl rfl) rfl ?_
 refine za (r := b false) ?_
 refine zN ?_
 refine RunC.seq ?_
 obtain ⟨r1, hf1, h⟩ := obind_some h
 rcases bsel_some h with ⟨hc2, h⟩ | ⟨hc2, h⟩
 ·obtain ⟨r2, hf3, h⟩ := obind_some h
  rcases bsel_some h with ⟨hc4, h⟩ | ⟨hc4, h⟩
  ·refine RunC.regionW ?_
   refine zl (r := agg (mXc a0 a1 a2)) (LOp.loadAgg agg26 siz26 rfl rfl rfl rfl) ?_
   refine ROps.d (r := b true) (fs := []) (Γ' := []) rfl rfl rfl (TOp.eqb (TOp.callB (CallAs.func ent66 rfl rfl) (Bors.cons (Bor.agg (Bors.cons (Bor.pure rfl) (Bors.cons (Bor.pure rfl) (Bors.cons (Bor.sl (fun _ => rfl)) Bors.nil)))) Bors.nil) rfl rfl (i_ValidMatrix_ok a0 a1 a2 r1 hf1)) hc2) rfl ?_
   refine zm (r := b true) ?_
   refine zl (r := agg (mXc a3 a4 a5)) (LOp.loadAgg agg26 siz26 rfl rfl rfl rfl) ?_
   refine ROps.d (r := b true) (fs := []) (Γ' := []) rfl rfl rfl (TOp.eqb (TOp.callB (CallAs.func ent66 rfl rfl) (Bors.cons (Bor.agg (Bors.cons (Bor.pure rfl) (Bors.cons (Bor.pure rfl) (Bors.cons (Bor.sl (fun _ => rfl)) Bors.nil)))) Bors.nil) rfl rfl (i_ValidMatrix_ok a3 a4 a5 r2 hf3)) hc4) rfl ?_
   refine zl (r := b true) (LOp.pick_true rfl rfl rfl) ?_
   refine zm (r := b true) ?_
   refine zl (r := ptr [i64 a1, (sFc a2)]) (LOp.fap und26 rfl siz2 rfl rfl rfl) ?_
   refine zl (r := i64 a1) (LOp.load1 agg2 rfl rfl) ?_
   refine zl (r := ptr (mXc a3 a4 a5)) (LOp.fap und26 rfl siz2 rfl rfl rfl) ?_
   refine zl (r := i64 a3) (LOp.load1 agg2 rfl rfl) ?_
   refine zl (r := b (decide (a1 = a3))) (LOp.eql rfl rfl rfl) ?_
   refine zl (r := b (decide (a1 = a3))) (LOp.pick_true rfl rfl rfl) ?_
   refine za (r := b (decide (a1 = a3))) ?_
   refine zN ?_
   refine RunC.ret ?_
   have hq := Option.some.inj h
   subst q0
   exact bodyQ.pure (.inr rfl) rfl (Res.one rfl (RV.tmp rfl))
  ·refine RunC.regionW ?_
   refine zl (r := agg (mXc a0 a1 a2)) (LOp.loadAgg agg26 siz26 rfl rfl rfl rfl) ?_
   refine ROps.d (r := b true) (fs := []) (Γ' := []) rfl rfl rfl (TOp.eqb (TOp.callB (CallAs.func ent66 rfl rfl) (Bors.cons (Bor.agg (Bors.cons (Bor.pure rfl) (Bors.cons (Bor.pure rfl) (Bors.cons (Bor.sl (fun _ => rfl)) Bors.nil)))) Bors.nil) rfl rfl (i_ValidMatrix_ok a0 a1 a2 r1 hf1)) hc2) rfl ?_
   refine zm (r := b true) ?_
   refine zl (r := agg (mXc a3 a4 a5)) (LOp.loadAgg agg26 siz26 rfl rfl rfl rfl) ?_
   refine ROps.d (r := b false) (fs := []) (Γ' := []) rfl rfl rfl (TOp.eqb (TOp.callB (CallAs.func ent66 rfl rfl) (Bors.cons (Bor.agg (Bors.cons (Bor.pure rfl) (Bors.cons (Bor.pure rfl) (Bors.cons (Bor.sl (fun _ => rfl)) Bors.nil)))) Bors.nil) rfl rfl (i_ValidMatrix_ok a3 a4 a5 r2 hf3)) hc4) rfl ?_
   refine zl (r := b false) (LOp.pick_true rfl rfl rfl) ?_
   refine zm (r := b false) ?_
   iterate 5 (refine ROps.s rfl rfl rfl ?_)
   refine zl (r := b false) (LOp.pick_false rfl rfl rfl) ?_
   refine za (r := b false) ?_
   refine zN ?_
   refine RunC.ret ?_
   have hq := Option.some.inj h
   subst q0
   exact bodyQ.pure (.inr rfl) rfl (Res.one rfl (RV.tmp rfl))
 ·refine RunC.regionW ?_
  refine zl (r := agg (mXc a0 a1 a2)) (LOp.loadAgg agg26 siz26 rfl rfl rfl rfl) ?_
  refine ROps.d (r := b false) (fs := []) (Γ' := []) rfl rfl rfl (TOp.eqb (TOp.callB (CallAs.func ent66 rfl rfl) (Bors.cons (Bor.agg (Bors.cons (Bor.pure rfl) (Bors.cons (Bor.pure rfl) (Bors.cons (Bor.sl (fun _ => rfl)) Bors.nil)))) Bors.nil) rfl rfl (i_ValidMatrix_ok a0 a1 a2 r1 hf1)) hc2) rfl ?_
  refine zm (r := b false) ?_
  iterate 2 (refine ROps.s rfl rfl rfl ?_)
  refine zl (r := b false) (LOp.pick_false rfl rfl rfl) ?_
  refine zm (r := b false) ?_
  iterate 5 (refine ROps.s rfl rfl rfl ?_)
  refine zl (r := b false) (LOp.pick_false rfl rfl rfl) ?_
  refine za (r := b false) ?_
  refine zN ?_
  refine RunC.ret ?_
  have hq := Option.some.inj h
  subst q0
  exact bodyQ.pure (.inr rfl) rfl (Res.one rfl (RV.tmp rfl))
noncomputable def x_slices_Clone_float32_float32 (a0 : List F) : Option ((List F)) :=
 need (apok 4 0 a0.length) <|
 some (([] : List F) ++ a0)
theorem x_slices_Clone_float32_float32_ok (a0 : List F) (q0 : List F) (h : x_slices_Clone_float32_float32 a0 = some q0) : Ev Try.prog 127 [(sFc a0)] [] (oref 0 0 0 q0.length) [⟨0, some (q0.map f32)⟩] := by
 refine Ev.start Try.func127 rfl rfl 1 (τ := [(0, (sFc a0))]) rfl (Γ' := [⟨0, none⟩]) rfl (n := 17) rfl (g := 0) rfl (fun _ => rfl) ?_
 unfold x_slices_Clone_float32_float32 at h
 refine zQ ?_
 refine za (r := nilsl) ?_
 refine zN ?_
 refine RunC.seq ?_
 refine zQ ?_
 refine zm (r := (sFc a0)) ?_
 refine ROps.eqnil rfl pun24 rfl rfl rfl rfl rfl ?_ ?_
 ·intro hnil1
  refine zN ?_
  refine RunC.cond_true rfl rfl ?_
  refine zQ ?_
  refine za (r := nilsl) ?_
  refine zN ?_
  refine RunC.nil_slot (Γ' := [⟨1, some (([] : List F).map f32)⟩]) 2 0 rfl rfl rfl ?_
  refine RunC.ret ?_
  have hnl := List.map_eq_nil_iff.1 hnil1
  have hq : some ([] : List F) = some q0 := by
   rw [← h]; subst hnl; simp [need, apok]
  have hq := Option.some.inj hq
  subst q0
  exact bodyQ.mk (r' := oref 0 1 0 (([] : List F).length)) [(0, 1)] (.inr rfl) rfl (show List.Nodup [0] from by decide) rfl rfl (Res.eq (Res.one rfl (RV.tmp rfl)) (by rw [(show ([] : List F).length = 0 from rfl)] <;> rfl)) (SelL.arr0 (f := f32) (fun _ => rfl) rfl trivial)
 ·refine zN ?_
  refine RunC.cond_false rfl rfl ?_
  refine RunC.skip ?_
  refine RunC.seq ?_
  obtain ⟨hm2, h⟩ := need_some h
  refine RunC.regionW ?_
  refine ROps.d (r := oref 0 1 0 0) (fs := [(0, (([] : List F).map f32))]) (Γ' := [⟨1, some (([] : List F).map f32)⟩]) rfl rfl rfl (TOp.buildSlice_o (g := ⟨0, none⟩) (za := f32 (some 0)) (qs := []) 0 rfl und24 siz36 zer36 rfl zel36 rfl rfl trivial rfl) rfl ?_
  refine zm (r := (sFc a0)) ?_
  refine ROps.app (f := f32) (xs := ([] : List F)) (ys := a0) (Γ' := [⟨2, some ((([] : List F) ++ a0).map f32)⟩]) rfl pun24 inf36 rfl rfl rfl rfl rfl rfl rfl rfl rfl (by simp) (ReadAs.sl (by simp)) (ones_map (fun _ => rfl)) (ap_by hm2) (ap_mx hm2) rfl ?_
  refine za (r := oref 0 2 0 (0 + a0.length)) ?_
  refine zN ?_
  refine RunC.ret ?_
  have hq := Option.some.inj h
  subst q0
  exact bodyQ.mk (r' := oref 0 2 0 ((([] : List F) ++ a0).length)) [(0, 2)] (.inr rfl) rfl (show List.Nodup [0] from by decide) rfl rfl (Res.eq (Res.one rfl (RV.tmp rfl)) (by rw [(show (([] : List F) ++ a0).length = (0 + a0.length) from (app_len rfl rfl))] <;> rfl)) (SelL.arr0 (f := f32) (fun _ => rfl) rfl trivial)
noncomputable def i_Matrix_row (a0 : Int) (a1 : Int) (a2 : List F) (a3 : Int) : Option ((List F)) :=
 olet (IntKind.i64.wrap (a3 * a1)) fun (x1 : Int) =>
 olet (IntKind.i64.wrap (a3 + 1)) fun (x2 : Int) =>
 olet (IntKind.i64.wrap (x2 * a1)) fun (x3 : Int) =>
 obind (sub? a2 x1 x3) fun (l4 : List F) =>
 obind (x_slices_Clone_float32_float32 l4) fun (r5 : List F) =>
 some r5
theorem i_Matrix_row_ok (a0 : Int) (a1 : Int) (a2 : List F) (a3 : Int) (q0 : List F) (h : i_Matrix_row a0 a1 a2 a3 = some q0) : Ev Try.prog 62 [agg (mXc a0 a1 a2), i64 a3] [] (oref 0 0 0 q0.length) [⟨0, some (q0.map f32)⟩] := by
 refine Ev.start Try.func62 rfl rfl 1 (τ := [(0, agg (mXc a0 a1 a2)), (1, i64 a3)]) rfl (Γ' := [⟨0, none⟩]) rfl (n := 37) rfl (g := 0) rfl (fun _ => rfl) ?_
 unfold i_Matrix_row at h
 refine zQ ?_
 refine ROps.d (r := ptr (mXc a0 a1 a2)) (fs := []) (Γ' := [⟨0, none⟩]) rfl rfl rfl (TOp.box_s rfl rfl rfl) rfl ?_
 refine za (r := nilsl) ?_
 refine zN ?_
 refine RunC.seq ?_
 obtain ⟨x1, hx1, h⟩ := olet_some h
 obtain ⟨x2, hx2, h⟩ := olet_some h
 obtain ⟨x3, hx3, h⟩ := olet_some h
 obtain ⟨l4, hs4, h⟩ := obind_some h
 obtain ⟨r5, hf5, h⟩ := obind_some h
 refine RunC.regionW ?_
 refine zl (r := ptr [(sFc a2)]) (LOp.fap und26 rfl siz24 rfl rfl rfl) ?_
 refine zl (r := (sFc a2)) (LOp.load1 agg24 rfl rfl) ?_
 refine zm (r := i64 a3) ?_
 refine zl (r := ptr [i64 a1, (sFc a2)]) (LOp.fap und26 rfl siz2 rfl rfl rfl) ?_
 refine zl (r := i64 a1) (LOp.load1 agg2 rfl rfl) ?_
 refine zl (r := i64 x1) (LOp.eqr (LOp.mul rfl rfl rfl) (congrArg (ik .i64) hx1)) ?_
 refine zm (r := i64 a3) ?_
 refine zl (r := i64 x2) (LOp.eqr (LOp.add rfl rfl rfl) (congrArg (ik .i64) hx2)) ?_
 refine zl (r := ptr [i64 a1, (sFc a2)]) (LOp.fap und26 rfl siz2 rfl rfl rfl) ?_
 refine zl (r := i64 a1) (LOp.load1 agg2 rfl rfl) ?_
 refine zl (r := i64 x3) (LOp.eqr (LOp.mul rfl rfl rfl) (congrArg (ik .i64) hx3)) ?_
 refine zl (r := (sFc l4)) (LOp.slice_sl (f := f32) und24 siz36 rfl rfl rfl rfl rfl hs4) ?_
 refine ROps.d (r := oref 0 1 0 r5.length) (fs := [(0, (r5.map f32))]) (Γ' := [⟨1, some (r5.map f32)⟩]) rfl rfl rfl (TOp.callBN (ls := [(r5.map f32)]) [0] (CallAs.func ent127 rfl rfl) (Bors.cons (Bor.sl (fun _ => rfl)) Bors.nil) rfl (x_slices_Clone_float32_float32_ok l4 r5 hf5) (and_all (lts0_map (f := f32) (fun _ => rfl) _) rfl) (and_all (noss_map (f := f32) (fun _ => rfl) _) rfl) rfl (by decide) (ns_of ⟨⟨_, rfl⟩, trivial⟩)) rfl ?_
 refine za (r := oref 0 1 0 r5.length) ?_
 refine zN ?_
 refine RunC.ret ?_
 have hq := Option.some.inj h
 subst q0
 exact bodyQ.mk (r' := oref 0 1 0 r5.length) [(0, 1)] (.inr rfl) rfl (show List.Nodup [0] from by decide) rfl rfl (Res.one rfl (RV.tmp rfl)) (SelL.arr0 (f := f32) (fun _ => rfl) rfl trivial)
noncomputable def i_Matrix_column_b1 (a0 : Int) (a1 : Int) (a2 : List F) (a3 : Int) (L3 : List F) (v4 : Int) : Option (LR ((List F) × Int) ((List F)) ((List F))) :=
 bsel (decide (v4 < a0)) (
  obind (i_Matrix_at a0 a1 a2 v4 a3) fun (r5 : F) =>
  need (apok 4 L3.length 1) <|
  olet (IntKind.i64.wrap (v4 + 1)) fun (x6 : Int) =>
  some (LR.next ((L3 ++ ([r5] : List F)), x6))) (
  some (LR.out L3))
noncomputable def i_Matrix_column_s1 (a0 : Int) (a1 : Int) (a2 : List F) (a3 : Int) : ((List F) × Int) → Option (LR ((List F) × Int) ((List F)) ((List F))) := fun s => i_Matrix_column_b1 a0 a1 a2 a3 s.1 s.2
noncomputable def i_Matrix_column_k1 (L9 : List F) : Option ((List F)) :=
 some L9
noncomputable def i_Matrix_column (a0 : Int) (a1 : Int) (a2 : List F) (a3 : Int) : Option ((List F)) :=
 obind (loopM (i_Matrix_column_s1 a0 a1 a2 a3) (([] : List F), 0)) fun z => osum z (fun e => i_Matrix_column_k1 e) (fun r => some r)
theorem i_Matrix_column_ok (a0 : Int) (a1 : Int) (a2 : List F) (a3 : Int) (q0 : List F) (h : i_Matrix_column a0 a1 a2 a3 = some q0) : Ev Try.prog 63 [agg (mXc a0 a1 a2), i64 a3] [] (oref 0 0 0 q0.length) [⟨0, some (q0.map f32)⟩] := by
 refine Ev.start Try.func63 rfl rfl 2 (τ := [(0, agg (mXc a0 a1 a2)), (1, i64 a3)]) rfl (Γ' := [⟨0, none⟩, ⟨0, none⟩]) rfl (n := 45) rfl (g := 0) rfl (fun _ => rfl) ?_
 unfold i_Matrix_column at h
 refine zQ ?_
 refine ROps.d (r := ptr (mXc a0 a1 a2)) (fs := []) (Γ' := [⟨0, none⟩, ⟨0, none⟩]) rfl rfl rfl (TOp.box_s rfl rfl rfl) rfl ?_
 refine za (r := nilsl) ?_
 refine zN ?_
 refine zQ ?_
 refine ROps.d (r := oref 0 1 0 0) (fs := [(0, (([] : List F).map f32))]) (Γ' := [⟨1, some (([] : List F).map f32)⟩, ⟨0, none⟩]) rfl rfl rfl (TOp.buildSlice_o (g := ⟨0, none⟩) (za := f32 (some 0)) (qs := []) 0 rfl und24 siz36 zer36 rfl zel36 rfl rfl trivial rfl) rfl ?_
 refine za (r := oref 0 1 0 0) ?_
 refine zN ?_
 refine RunC.seq ?_
 refine zQ ?_
 refine zl (r := ptr (mXc a0 a1 a2)) (LOp.fap und26 rfl siz2 rfl rfl rfl) ?_
 refine zl (r := i64 a0) (LOp.load1 agg2 rfl rfl) ?_
 refine zm (r := i64 0) ?_
 refine zN ?_
 obtain ⟨z2, hz_2, h⟩ := obind_some h
 refine RunC.cutN (fun τ Γ => ∃ (L9 : List F) (u7 : Nat) (u8 : Nat), WeakLe τ [(5, oref 0 u7 0 L9.length)] ∧ DeadLe Γ [⟨u7, some (L9.map f32)⟩, ⟨u8, none⟩] ∧ z2 = .inl L9) ?_ ?_
 ·refine RunC.block (RunC.loop (RunL.loopM (x := z2) (i_Matrix_column_s1 a0 a1 a2 a3) (fun (s : (List F) × Int) τ Γ => ∃ (u1 : Nat) (u2 : Nat), WeakLe τ [(1, i64 a3), (2, ptr (mXc a0 a1 a2)), (5, oref 0 u1 0 s.1.length), (9, i64 a0), (10, i64 s.2)] ∧ DeadLe Γ [⟨u1, some (s.1.map f32)⟩, ⟨u2, none⟩]) ?_ _ _ _ hz_2 ⟨1, 0, ⟨aR, aR, aR, aR, aR, trivial⟩, ⟨⟨rfl, .inr rfl⟩, ⟨rfl, .inl rfl⟩, trivial⟩⟩))
  rintro ⟨L3, v4⟩ τ2 Γ2 y2_ ⟨u1, u2, hw2, hd2⟩ h2_ ho2 hr2
  refine RunC.wl (τ' := [(1, i64 a3), (2, ptr (mXc a0 a1 a2)), (5, oref 0 u1 0 L3.length), (9, i64 a0), (10, i64 v4)]) (Γ' := [⟨u1, some (L3.map f32)⟩, ⟨u2, none⟩]) hw2 hd2 ?_
  replace h2_ : i_Matrix_column_b1 a0 a1 a2 a3 L3 v4 = some y2_ := h2_
  unfold i_Matrix_column_b1 at h2_
  refine RunC.seq ?_
  rcases bsel_some h2_ with ⟨hc1, h2_⟩ | ⟨hc1, h2_⟩
  ·refine RunC.regionW ?_
   refine zl (r := b true) (LOp.eqb (LOp.lss rfl rfl rfl) hc1) ?_
   refine zN ?_
   refine RunC.seq ?_
   refine RunC.cond_true rfl rfl ?_
   refine RunC.skip ?_
   refine RunC.seq ?_
   refine RunC.block ?_
   refine zQ ?_
   refine zm (r := i64 v4) ?_
   refine za (r := i64 v4) ?_
   refine zN ?_
   obtain ⟨r5, hf2, h2_⟩ := obind_some h2_
   obtain ⟨hm3, h2_⟩ := need_some h2_
   refine RunC.regionW ?_
   refine zm (r := oref 0 u1 0 L3.length) ?_
   refine zl (r := agg (mXc a0 a1 a2)) (LOp.loadAgg agg26 siz26 rfl rfl rfl rfl) ?_
   refine zm (r := i64 v4) ?_
   refine zm (r := i64 a3) ?_
   refine ROps.d (r := f32 r5) (fs := []) (Γ' := [⟨u1, some (L3.map f32)⟩, ⟨u2, none⟩]) rfl rfl rfl (TOp.callB (CallAs.func ent76 rfl rfl) (Bors.cons (Bor.agg (Bors.cons (Bor.pure rfl) (Bors.cons (Bor.pure rfl) (Bors.cons (Bor.sl (fun _ => rfl)) Bors.nil)))) (Bors.cons (Bor.pure rfl) (Bors.cons (Bor.pure rfl) Bors.nil))) rfl rfl (i_Matrix_at_ok a0 a1 a2 v4 a3 r5 hf2)) rfl ?_
   refine ROps.d (r := oref 1 (u2 + 1) 0 1) (fs := [(1, (([r5] : List F).map f32))]) (Γ' := [⟨u1, some (L3.map f32)⟩, ⟨(u2 + 1), some (([r5] : List F).map f32)⟩]) rfl rfl rfl (TOp.buildSlice_o (g := ⟨u2, none⟩) (za := f32 (some 0)) (qs := [(0, [f32 r5])]) 1 rfl und24 siz36 zer36 rfl zel36 rfl rfl ⟨rfl, ⟨_, ALe.refl _, rfl⟩, trivial⟩ rfl) rfl ?_
   refine ROps.app (f := f32) (xs := L3) (ys := ([r5] : List F)) (Γ' := [⟨(u1 + 1), some ((L3 ++ ([r5] : List F)).map f32)⟩, ⟨(u2 + 1), some (([r5] : List F).map f32)⟩]) rfl pun24 inf36 rfl rfl rfl rfl rfl rfl rfl rfl rfl (by simp) (ReadAs.own rfl (by simp)) (ones_map (fun _ => rfl)) (ap_by hm3) (ap_mx hm3) rfl ?_
   refine za (r := oref 0 (u1 + 1) 0 (L3.length + 1)) ?_
   refine zN ?_
   refine RunC.wl (τ' := [(1, i64 a3), (2, ptr (mXc a0 a1 a2)), (5, oref 0 (u1 + 1) 0 (L3.length + 1)), (9, i64 a0), (10, i64 v4)]) (Γ' := [⟨(u1 + 1), some ((L3 ++ ([r5] : List F)).map f32)⟩, ⟨(u2 + 1), none⟩]) ⟨aR, aR, aR, aR, aR, trivial⟩ ⟨⟨rfl, .inr rfl⟩, ⟨rfl, .inl rfl⟩, trivial⟩ ?_
   obtain ⟨x6, hx4, h2_⟩ := olet_some h2_
   refine RunC.regionW ?_
   refine zl (r := i64 x6) (LOp.eqr (LOp.add rfl rfl rfl) (congrArg (ik .i64) hx4)) ?_
   refine zm (r := i64 x6) ?_
   refine zN ?_
   cases Option.some.inj h2_
   exact ⟨_, rfl, (u1 + 1), (u2 + 1), ⟨aR, aR, (ALe.eq (by rw [(app_len rfl rfl)] <;> rfl)), aR, aR, trivial⟩, ⟨⟨rfl, .inr rfl⟩, ⟨rfl, .inl rfl⟩, trivial⟩⟩
  ·refine RunC.regionW ?_
   refine zl (r := b false) (LOp.eqb (LOp.lss rfl rfl rfl) hc1) ?_
   refine zN ?_
   refine RunC.seq ?_
   refine RunC.cond_false rfl rfl ?_
   refine RunC.exit ?_
   cases Option.some.inj h2_
   have hx := ho2 _ rfl
   exact ⟨L3, u1, u2, ⟨aR, trivial⟩, ⟨⟨rfl, .inr rfl⟩, ⟨rfl, .inl rfl⟩, trivial⟩, hx⟩
 ·rintro τ3 Γ3 ⟨L9, u7, u8, hw3, hd3, rfl⟩
  refine RunC.wl hw3 hd3 ?_
  replace h : i_Matrix_column_k1 L9 = some q0 := h
  unfold i_Matrix_column_k1 at h
  refine zQ ?_
  refine zm (r := oref 0 u7 0 L9.length) ?_
  refine za (r := oref 0 u7 0 L9.length) ?_
  refine zN ?_
  refine RunC.ret ?_
  have hq := Option.some.inj h
  subst q0
  exact bodyQ.mk (r' := oref 0 u7 0 L9.length) [(0, u7)] (.inr rfl) rfl (show List.Nodup [0] from by decide) (by simp [ren, rens, sigma]) rfl (Res.one rfl (RV.tmp rfl)) (SelL.arr0 (f := f32) (fun _ => rfl) rfl trivial)
noncomputable def i_mul (a0 : F) (a1 : F) : Option (F) :=
 olet (fop .mul .f32 a0 a1) fun (x1 : F) =>
 some x1
theorem i_mul_ok (a0 : F) (a1 : F) (q0 : F) (h : i_mul a0 a1 = some q0) : Ev Try.prog 109 [f32 a0, f32 a1] [] (f32 q0) [] := by
 refine Ev.start Try.func109 rfl rfl 0 (τ := [(0, f32 a0), (1, f32 a1)]) rfl (Γ' := []) rfl (n := 17) rfl (g := 0) rfl (fun _ => rfl) ?_
 unfold i_mul at h
 refine zQ ?_
 refine zl (r := f32 (some 0)) (LOp.le (LOp.assign rfl rfl) (ALe.fl (by kernel_rfl) (by kernel_rfl))) ?_
 refine zN ?_
 refine RunC.seq ?_
 obtain ⟨x1, hx1, h⟩ := olet_some h
 refine RunC.regionW ?_
 refine zm (r := f32 a0) ?_
 refine zm (r := f32 a1) ?_
 refine ROps.d (r := f32 x1) (fs := []) (Γ' := []) rfl rfl rfl (TOp.eqr (TOp.fop (.inr (.inr (.inl rfl))) rfl (OpF.tmp rfl) (OpF.tmp rfl)) (congrArg (f .f32) hx1)) rfl ?_
 refine za (r := f32 x1) ?_
 refine zN ?_
 refine RunC.ret ?_
 have hq := Option.some.inj h
 subst q0
 exact bodyQ.pure (.inr rfl) rfl (Res.one rfl (RV.tmp rfl))
noncomputable def i_dot_b1 (a0 : List F) (a1 : List F) (y1 : F) (v2 : Int) : Option (LR (F × Int) (F) (F)) :=
 bsel (decide (v2 < (a0.length : Int))) (
  obind (at? a0 v2) fun (e3 : F) =>
  obind (at? a1 v2) fun (e4 : F) =>
  obind (i_mul e3 e4) fun (r5 : F) =>
  olet (fop .add .f32 y1 r5) fun (x6 : F) =>
  olet (IntKind.i64.wrap (v2 + 1)) fun (x7 : Int) =>
  some (LR.next (x6, x7))) (
  some (LR.out y1))
noncomputable def i_dot_s1 (a0 : List F) (a1 : List F) : (F × Int) → Option (LR (F × Int) (F) (F)) := fun s => i_dot_b1 a0 a1 s.1 s.2
noncomputable def i_dot_k1 (y8 : F) : Option (F) :=
 some y8
noncomputable def i_dot (a0 : List F) (a1 : List F) : Option (F) :=
 obind (loopM (i_dot_s1 a0 a1) (some 0, 0)) fun z => osum z (fun e => i_dot_k1 e) (fun r => some r)
theorem i_dot_ok (a0 : List F) (a1 : List F) (q0 : F) (h : i_dot a0 a1 = some q0) : Ev Try.prog 64 [(sFc a0), (sFc a1)] [] (f32 q0) [] := by
 refine Ev.start Try.func64 rfl rfl 0 (τ := [(0, (sFc a0)), (1, (sFc a1))]) rfl (Γ' := []) rfl (n := 51) rfl (g := 0) rfl (fun _ => rfl) ?_
 unfold i_dot at h
 iterate 2 (refine zQ ?_; refine zl (r := f32 (some 0)) (LOp.le (LOp.assign rfl rfl) (ALe.fl (by kernel_rfl) (by kernel_rfl))) ?_; refine zN ?_)
 refine RunC.seq ?_
 refine zQ ?_
 refine zm (r := (sFc a0)) ?_
 refine zl (r := i64 (a0.length : Int)) (LOp.len_sl und24 rfl rfl) ?_
 refine zm (r := i64 0) ?_
 refine zN ?_
 obtain ⟨z2, hz_2, h⟩ := obind_some h
 refine RunC.cutN (fun τ Γ => ∃ (y8 : F), WeakLe τ [(5, f32 y8)] ∧ DeadLe Γ [] ∧ z2 = .inl y8) ?_ ?_
 ·refine RunC.block (RunC.loop (RunL.loopM (x := z2) (i_dot_s1 a0 a1) (fun (s : F × Int) τ Γ => WeakLe τ [(1, (sFc a1)), (5, f32 s.1), (8, (sFc a0)), (9, i64 (a0.length : Int)), (10, i64 s.2)] ∧ DeadLe Γ []) ?_ _ _ _ hz_2 ⟨⟨aR, aR, aR, aR, aR, trivial⟩, trivial⟩))
  rintro ⟨y1, v2⟩ τ2 Γ2 y2_ ⟨hw2, hd2⟩ h2_ ho2 hr2
  refine RunC.wl (τ' := [(1, (sFc a1)), (5, f32 y1), (8, (sFc a0)), (9, i64 (a0.length : Int)), (10, i64 v2)]) (Γ' := []) hw2 hd2 ?_
  replace h2_ : i_dot_b1 a0 a1 y1 v2 = some y2_ := h2_
  unfold i_dot_b1 at h2_
  refine RunC.seq ?_
  rcases bsel_some h2_ with ⟨hc1, h2_⟩ | ⟨hc1, h2_⟩
  ·refine RunC.regionW ?_
   refine zl (r := b true) (LOp.eqb (LOp.lss rfl rfl rfl) hc1) ?_
   refine zN ?_
   refine RunC.seq ?_
   refine RunC.cond_true rfl rfl ?_
   refine RunC.skip ?_
   refine RunC.seq ?_
   refine RunC.block ?_
   refine RunC.seq ?_
   obtain ⟨e3, he2, h2_⟩ := obind_some h2_
   refine RunC.regionW ?_
   refine zm (r := i64 v2) ?_
   refine zl (r := ptr [f32 e3]) (LOp.le (LOp.ix (f := f32) und24 siz36 rfl rfl rfl rfl he2) ALe.ptr) ?_
   refine zl (r := f32 e3) (LOp.load1 agg36 rfl rfl) ?_
   refine za (r := i64 v2) ?_
   refine za (r := f32 e3) ?_
   refine zN ?_
   obtain ⟨e4, he3, h2_⟩ := obind_some h2_
   obtain ⟨r5, hf4, h2_⟩ := obind_some h2_
   obtain ⟨x6, hx5, h2_⟩ := olet_some h2_
   refine RunC.regionW ?_
   refine zm (r := f32 y1) ?_
   refine zm (r := f32 e3) ?_
   refine zm (r := (sFc a1)) ?_
   refine zm (r := i64 v2) ?_
   refine zl (r := ptr [f32 e4]) (LOp.le (LOp.ix (f := f32) und24 siz36 rfl rfl rfl rfl he3) ALe.ptr) ?_
   refine zl (r := f32 e4) (LOp.load1 agg36 rfl rfl) ?_
   refine ROps.d (r := f32 r5) (fs := []) (Γ' := []) rfl rfl rfl (TOp.callB (CallAs.func ent109 rfl rfl) (Bors.cons (Bor.pure rfl) (Bors.cons (Bor.pure rfl) Bors.nil)) rfl rfl (i_mul_ok e3 e4 r5 hf4)) rfl ?_
   refine ROps.d (r := f32 x6) (fs := []) (Γ' := []) rfl rfl rfl (TOp.eqr (TOp.fop (.inl rfl) rfl (OpF.tmp rfl) (OpF.tmp rfl)) (congrArg (f .f32) hx5)) rfl ?_
   refine za (r := f32 x6) ?_
   refine zN ?_
   refine RunC.wl (τ' := [(1, (sFc a1)), (5, f32 x6), (8, (sFc a0)), (9, i64 (a0.length : Int)), (10, i64 v2)]) (Γ' := []) ⟨aR, aR, aR, aR, aR, trivial⟩ trivial ?_
   obtain ⟨x7, hx6, h2_⟩ := olet_some h2_
   refine RunC.regionW ?_
   refine zl (r := i64 x7) (LOp.eqr (LOp.add rfl rfl rfl) (congrArg (ik .i64) hx6)) ?_
   refine zm (r := i64 x7) ?_
   refine zN ?_
   cases Option.some.inj h2_
   exact ⟨_, rfl, ⟨aR, aR, aR, aR, aR, trivial⟩, trivial⟩
  ·refine RunC.regionW ?_
   refine zl (r := b false) (LOp.eqb (LOp.lss rfl rfl rfl) hc1) ?_
   refine zN ?_
   refine RunC.seq ?_
   refine RunC.cond_false rfl rfl ?_
   refine RunC.exit ?_
   cases Option.some.inj h2_
   have hx := ho2 _ rfl
   exact ⟨y1, ⟨aR, trivial⟩, trivial, hx⟩
 ·rintro τ3 Γ3 ⟨y8, hw3, hd3, rfl⟩
  refine RunC.wl hw3 hd3 ?_
  replace h : i_dot_k1 y8 = some q0 := h
  unfold i_dot_k1 at h
  refine zQ ?_
  refine zm (r := f32 y8) ?_
  refine za (r := f32 y8) ?_
  refine zN ?_
  refine RunC.ret ?_
  have hq := Option.some.inj h
  subst q0
  exact bodyQ.pure (.inr rfl) rfl (Res.one rfl (RV.tmp rfl))
noncomputable def i_product_1 (a0 : Int) (a1 : Int) (a2 : Int) (a3 : Int) (a4 : List F) (a5 : Int) (a6 : Int) (a7 : List F) : Option (F) :=
 obind (i_Matrix_row a2 a3 a4 a0) fun (r1 : List F) =>
 obind (i_Matrix_column a5 a6 a7 a1) fun (r2 : List F) =>
 obind (i_dot r1 r2) fun (r3 : F) =>
 some r3
theorem i_product_1_ok (a0 : Int) (a1 : Int) (a2 : Int) (a3 : Int) (a4 : List F) (a5 : Int) (a6 : Int) (a7 : List F) (q0 : F) (h : i_product_1 a0 a1 a2 a3 a4 a5 a6 a7 = some q0) : Ev Try.prog 125 [i64 a0, i64 a1, ptr (mXc a2 a3 a4), ptr (mXc a5 a6 a7)] [] (f32 q0) [] := by
 refine Ev.start Try.func125 rfl rfl 0 (τ := [(0, i64 a0), (1, i64 a1), (2, ptr (mXc a2 a3 a4)), (3, ptr (mXc a5 a6 a7))]) rfl (Γ' := []) rfl (n := 29) rfl (g := 0) rfl (fun _ => rfl) ?_
 unfold i_product_1 at h
 refine zQ ?_
 refine zl (r := f32 (some 0)) (LOp.le (LOp.assign rfl rfl) (ALe.fl (by kernel_rfl) (by kernel_rfl))) ?_
 refine zN ?_
 refine RunC.seq ?_
 obtain ⟨r1, hf1, h⟩ := obind_some h
 obtain ⟨r2, hf2, h⟩ := obind_some h
 obtain ⟨r3, hf3, h⟩ := obind_some h
 refine RunC.region_draw (Γ' := []) 8 mixed 
  (TR.l (r := agg (mXc a2 a3 a4)) rfl rfl (LOp.loadAgg agg26 siz26 rfl rfl rfl rfl) <|
  (TR.l (r := i64 a0) rfl rfl (LOp.move rfl rfl) <|
  (TR.d (r := (sFc r1)) (fs := []) rfl rfl (TOp.callS (CallAs.func ent62 rfl rfl) (ALes.cons aR (ALes.cons aR ALes.nil)) (lts_cons (lt_agg (lts_cons rfl (lts_cons rfl (lts_cons (lt_sl (fun _ => rfl)) lts_nil)))) (lts_cons rfl lts_nil)) (lt_sl (fun _ => rfl)) (i_Matrix_row_ok a2 a3 a4 a0 r1 hf1) (Bor.own (f := f32) (fun _ => rfl) rfl rfl)) <|
  (TR.l (r := agg (mXc a5 a6 a7)) rfl rfl (LOp.loadAgg agg26 siz26 rfl rfl rfl rfl) <|
  (TR.l (r := i64 a1) rfl rfl (LOp.move rfl rfl) <|
  (TR.d (r := (sFc r2)) (fs := []) rfl rfl (TOp.callS (CallAs.func ent63 rfl rfl) (ALes.cons aR (ALes.cons aR ALes.nil)) (lts_cons (lt_agg (lts_cons rfl (lts_cons rfl (lts_cons (lt_sl (fun _ => rfl)) lts_nil)))) (lts_cons rfl lts_nil)) (lt_sl (fun _ => rfl)) (i_Matrix_column_ok a5 a6 a7 a1 r2 hf2) (Bor.own (f := f32) (fun _ => rfl) rfl rfl)) <|
  (TR.d (r := f32 r3) (fs := []) rfl rfl (TOp.callB (CallAs.func ent64 rfl rfl) (Bors.cons (Bor.sl (fun _ => rfl)) (Bors.cons (Bor.sl (fun _ => rfl)) Bors.nil)) rfl rfl (i_dot_ok r1 r2 r3 hf3)) <|
  (TR.l (r := f32 r3) rfl rfl (LOp.assign rfl rfl) <|
  TR.nil)))))))) rfl (by kernel_rfl) rfl fills_nil rfl ?_
 iterate 8 refine ROps.dropS ?_
 refine ROps.drop0 ?_
 refine zN ?_
 refine RunC.ret ?_
 have hq := Option.some.inj h
 subst q0
 exact bodyQ.pure (.inr rfl) rfl (Res.one rfl (RV.tmp rfl))
noncomputable def i_made_2Fi_product_1_b2 (a1 : Int) (a2 : Int) (a3 : Int) (a4 : List F) (a5 : Int) (a6 : Int) (a7 : List F) (r1 : Int) (r2 : Int) (r3 : List F) (v6 : Int) (L7 : List F) (v9 : Int) : Option (LR ((List F) × Int) ((List F)) (Int × Int × (List F))) :=
 bsel (decide (v9 < a1)) (
  obind (i_product_1 v6 v9 a2 a3 a4 a5 a6 a7) fun (r11 : F) =>
  obind (i_Matrix_set_02o r1 r2 v6 v9 r11 L7) fun (r12 : List F) =>
  need (decide (r12.length = r3.length)) <|
  olet (IntKind.i64.wrap (v9 + 1)) fun (x13 : Int) =>
  some (LR.next (r12, x13))) (
  some (LR.out L7))
noncomputable def i_made_2Fi_product_1_s2 (a1 : Int) (a2 : Int) (a3 : Int) (a4 : List F) (a5 : Int) (a6 : Int) (a7 : List F) (r1 : Int) (r2 : Int) (r3 : List F) (v6 : Int) : ((List F) × Int) → Option (LR ((List F) × Int) ((List F)) (Int × Int × (List F))) := fun s => i_made_2Fi_product_1_b2 a1 a2 a3 a4 a5 a6 a7 r1 r2 r3 v6 s.1 s.2
noncomputable def i_made_2Fi_product_1_k2 (v6 : Int) (L14 : List F) : Option (LR ((List F) × Int) ((List F)) (Int × Int × (List F))) :=
 olet (IntKind.i64.wrap (v6 + 1)) fun (x16 : Int) =>
 some (LR.next (L14, x16))
noncomputable def i_made_2Fi_product_1_b3 (a0 : Int) (a1 : Int) (a2 : Int) (a3 : Int) (a4 : List F) (a5 : Int) (a6 : Int) (a7 : List F) (r1 : Int) (r2 : Int) (r3 : List F) (L4 : List F) (v6 : Int) : Option (LR ((List F) × Int) ((List F)) (Int × Int × (List F))) :=
 bsel (decide (v6 < a0)) (
  obind (loopM (i_made_2Fi_product_1_s2 a1 a2 a3 a4 a5 a6 a7 r1 r2 r3 v6) (L4, 0)) fun z => osum z (fun e => i_made_2Fi_product_1_k2 v6 e) (fun r => some (LR.ret r))) (
  some (LR.out L4))
noncomputable def i_made_2Fi_product_1_s3 (a0 : Int) (a1 : Int) (a2 : Int) (a3 : Int) (a4 : List F) (a5 : Int) (a6 : Int) (a7 : List F) (r1 : Int) (r2 : Int) (r3 : List F) : ((List F) × Int) → Option (LR ((List F) × Int) ((List F)) (Int × Int × (List F))) := fun s => i_made_2Fi_product_1_b3 a0 a1 a2 a3 a4 a5 a6 a7 r1 r2 r3 s.1 s.2
noncomputable def i_made_2Fi_product_1_k3 (r1 : Int) (r2 : Int) (L17 : List F) : Option (Int × Int × (List F)) :=
 some (r1, r2, L17)
noncomputable def i_made_2Fi_product_1 (a0 : Int) (a1 : Int) (a2 : Int) (a3 : Int) (a4 : List F) (a5 : Int) (a6 : Int) (a7 : List F) : Option (Int × Int × (List F)) :=
 obind3 (i_newMatrix a0 a1) fun (r1 : Int) (r2 : Int) (r3 : List F) =>
 obind (loopM (i_made_2Fi_product_1_s3 a0 a1 a2 a3 a4 a5 a6 a7 r1 r2 r3) (r3, 0)) fun z => osum z (fun e => i_made_2Fi_product_1_k3 r1 r2 e) (fun r => some r)
theorem i_made_2Fi_product_1_ok (a0 : Int) (a1 : Int) (a2 : Int) (a3 : Int) (a4 : List F) (a5 : Int) (a6 : Int) (a7 : List F) (q0 : Int) (q1 : Int) (q2 : List F) (h : i_made_2Fi_product_1 a0 a1 a2 a3 a4 a5 a6 a7 = some (q0, q1, q2)) : Ev Try.prog 60 [i64 a0, i64 a1, fn (.func 125) [] [ptr (mXc a2 a3 a4), ptr (mXc a5 a6 a7)]] [] (agg (oXc q0 q1 0 0 q2.length)) [⟨0, some (q2.map f32)⟩] := by
 refine Ev.start Try.func60 rfl rfl 3 (τ := [(0, i64 a0), (1, i64 a1), (2, fn (.func 125) [] [ptr (mXc a2 a3 a4), ptr (mXc a5 a6 a7)])]) rfl (Γ' := [⟨0, none⟩, ⟨0, none⟩, ⟨0, none⟩]) rfl (n := 65) rfl (g := 0) rfl (fun _ => rfl) ?_
 unfold i_made_2Fi_product_1 at h
 refine zQ ?_
 refine ROps.d (r := optr 0 1 0) (fs := [(0, zMx)]) (Γ' := [⟨1, some zMx⟩, ⟨0, none⟩, ⟨0, none⟩]) rfl rfl rfl (TOp.alloc_o (g := ⟨0, none⟩) 0 rfl zer26 zok26 rfl) rfl ?_
 refine zN ?_
 refine RunC.seq ?_
 obtain ⟨r1, r2, r3, hf1, h⟩ := obind3_some h
 refine RunC.regionW ?_
 refine zm (r := i64 a0) ?_
 refine zm (r := i64 a1) ?_
 refine ROps.d (r := agg (oXc r1 r2 1 1 r3.length)) (fs := [(1, (r3.map f32))]) (Γ' := [⟨1, some zMx⟩, ⟨1, some (r3.map f32)⟩, ⟨0, none⟩]) rfl rfl rfl (TOp.callBN (ls := [(r3.map f32)]) [1] (CallAs.func ent126 rfl rfl) (Bors.cons (Bor.pure rfl) (Bors.cons (Bor.pure rfl) Bors.nil)) rfl (i_newMatrix_ok a0 a1 r1 r2 r3 hf1) (and_all (lts0_map (f := f32) (fun _ => rfl) _) rfl) (and_all (noss_map (f := f32) (fun _ => rfl) _) rfl) rfl (by decide) (ns_of ⟨⟨_, rfl⟩, trivial⟩)) rfl ?_
 refine ROps.d (r := optr 2 1 0) (fs := [(2, zMx)]) (Γ' := [⟨1, some zMx⟩, ⟨1, some (r3.map f32)⟩, ⟨1, some zMx⟩]) rfl rfl rfl (TOp.alloc_o (g := ⟨0, none⟩) 2 rfl zer26 zok26 rfl) rfl ?_
 refine ROps.store_le (r := agg (oXc r1 r2 1 1 r3.length)) (l' := (oXc r1 r2 1 1 r3.length)) (Γ' := [⟨1, some zMx⟩, ⟨1, some (r3.map f32)⟩, ⟨1, some (oXc r1 r2 1 1 r3.length)⟩]) rfl siz26 rfl rfl rfl aR rfl rfl rfl rfl (Nat.le_of_ble_eq_true rfl) rfl rfl ?_
 refine zN ?_
 refine RunC.seq ?_
 refine zQ ?_
 refine zm (r := i64 a0) ?_
 refine zm (r := i64 0) ?_
 refine zN ?_
 obtain ⟨z4, hz_4, h⟩ := obind_some h
 refine RunC.cutN (fun τ Γ => ∃ (L17 : List F), L17.length = r3.length ∧ WeakLe τ [(6, optr 0 1 0), (7, optr 2 1 0)] ∧ DeadLe Γ [⟨1, some zMx⟩, ⟨1, some (L17.map f32)⟩, ⟨1, some (oXc r1 r2 1 1 r3.length)⟩] ∧ z4 = .inl L17) ?_ ?_
 ·refine RunC.block (RunC.loop (RunL.loopM (x := z4) (i_made_2Fi_product_1_s3 a0 a1 a2 a3 a4 a5 a6 a7 r1 r2 r3) (fun (s : (List F) × Int) τ Γ => s.1.length = r3.length ∧ WeakLe τ [(1, i64 a1), (2, fn (.func 125) [] [ptr (mXc a2 a3 a4), ptr (mXc a5 a6 a7)]), (6, optr 0 1 0), (7, optr 2 1 0), (13, i64 a0), (14, i64 s.2)] ∧ DeadLe Γ [⟨1, some zMx⟩, ⟨1, some (s.1.map f32)⟩, ⟨1, some (oXc r1 r2 1 1 r3.length)⟩]) ?_ _ _ _ hz_4 ⟨rfl, ⟨aR, aR, aR, aR, aR, aR, trivial⟩, ⟨⟨rfl, .inr rfl⟩, ⟨rfl, .inr rfl⟩, ⟨rfl, .inr rfl⟩, trivial⟩⟩))
  rintro ⟨L4, v6⟩ τ4 Γ4 y4_ ⟨hl5, hw4, hd4⟩ h4_ ho4 hr4
  refine RunC.wl (τ' := [(1, i64 a1), (2, fn (.func 125) [] [ptr (mXc a2 a3 a4), ptr (mXc a5 a6 a7)]), (6, optr 0 1 0), (7, optr 2 1 0), (13, i64 a0), (14, i64 v6)]) (Γ' := [⟨1, some zMx⟩, ⟨1, some (L4.map f32)⟩, ⟨1, some (oXc r1 r2 1 1 r3.length)⟩]) hw4 hd4 ?_
  replace hl5 : L4.length = r3.length := hl5
  replace h4_ : i_made_2Fi_product_1_b3 a0 a1 a2 a3 a4 a5 a6 a7 r1 r2 r3 L4 v6 = some y4_ := h4_
  unfold i_made_2Fi_product_1_b3 at h4_
  refine RunC.seq ?_
  rcases bsel_some h4_ with ⟨hc2, h4_⟩ | ⟨hc2, h4_⟩
  ·refine RunC.regionW ?_
   refine zl (r := b true) (LOp.eqb (LOp.lss rfl rfl rfl) hc2) ?_
   refine zN ?_
   refine RunC.seq ?_
   refine RunC.cond_true rfl rfl ?_
   refine RunC.skip ?_
   refine RunC.seq ?_
   refine RunC.block ?_
   refine zQ ?_
   refine zm (r := i64 v6) ?_
   refine za (r := i64 v6) ?_
   refine zN ?_
   refine zQ ?_
   refine zm (r := i64 a1) ?_
   refine zm (r := i64 0) ?_
   refine zN ?_
   obtain ⟨z5, hz_5, h4_⟩ := obind_some h4_
   refine RunC.cutN (fun τ Γ => ∃ (L14 : List F), L14.length = r3.length ∧ WeakLe τ [(1, i64 a1), (2, fn (.func 125) [] [ptr (mXc a2 a3 a4), ptr (mXc a5 a6 a7)]), (6, optr 0 1 0), (7, optr 2 1 0), (13, i64 a0), (14, i64 v6)] ∧ DeadLe Γ [⟨1, some zMx⟩, ⟨1, some (L14.map f32)⟩, ⟨1, some (oXc r1 r2 1 1 r3.length)⟩] ∧ z5 = .inl L14) ?_ ?_
   ·refine RunC.block (RunC.loop (RunL.loopM (x := z5) (i_made_2Fi_product_1_s2 a1 a2 a3 a4 a5 a6 a7 r1 r2 r3 v6) (fun (s : (List F) × Int) τ Γ => s.1.length = r3.length ∧ WeakLe τ [(1, i64 a1), (2, fn (.func 125) [] [ptr (mXc a2 a3 a4), ptr (mXc a5 a6 a7)]), (6, optr 0 1 0), (7, optr 2 1 0), (8, i64 v6), (13, i64 a0), (14, i64 v6), (17, i64 a1), (18, i64 s.2)] ∧ DeadLe Γ [⟨1, some zMx⟩, ⟨1, some (s.1.map f32)⟩, ⟨1, some (oXc r1 r2 1 1 r3.length)⟩]) ?_ _ _ _ hz_5 ⟨hl5, ⟨aR, aR, aR, aR, aR, aR, aR, aR, aR, trivial⟩, ⟨⟨rfl, .inr rfl⟩, ⟨rfl, .inr rfl⟩, ⟨rfl, .inr rfl⟩, trivial⟩⟩))
    rintro ⟨L7, v9⟩ τ5 Γ5 y5_ ⟨hl8, hw5, hd5⟩ h5_ ho5 hr5
    refine RunC.wl (τ' := [(1, i64 a1), (2, fn (.func 125) [] [ptr (mXc a2 a3 a4), ptr (mXc a5 a6 a7)]), (6, optr 0 1 0), (7, optr 2 1 0), (8, i64 v6), (13, i64 a0), (14, i64 v6), (17, i64 a1), (18, i64 v9)]) (Γ' := [⟨1, some zMx⟩, ⟨1, some (L7.map f32)⟩, ⟨1, some (oXc r1 r2 1 1 r3.length)⟩]) hw5 hd5 ?_
    replace hl8 : L7.length = r3.length := hl8
    replace h5_ : i_made_2Fi_product_1_b2 a1 a2 a3 a4 a5 a6 a7 r1 r2 r3 v6 L7 v9 = some y5_ := h5_
    unfold i_made_2Fi_product_1_b2 at h5_
    refine RunC.seq ?_
    rcases bsel_some h5_ with ⟨hc3, h5_⟩ | ⟨hc3, h5_⟩
    ·refine RunC.regionW ?_
     refine zl (r := b true) (LOp.eqb (LOp.lss rfl rfl rfl) hc3) ?_
     refine zN ?_
     refine RunC.seq ?_
     refine RunC.cond_true rfl rfl ?_
     refine RunC.skip ?_
     refine RunC.seq ?_
     refine RunC.block ?_
     refine zQ ?_
     refine zm (r := i64 v9) ?_
     refine za (r := i64 v9) ?_
     refine zN ?_
     obtain ⟨r11, hf5, h5_⟩ := obind_some h5_
     obtain ⟨r12, hf6, h5_⟩ := obind_some h5_
     obtain ⟨hn7, h5_⟩ := need_some h5_
     refine RunC.region_draw (Γ' := [⟨1, some zMx⟩, ⟨1, some (L7.map f32)⟩, ⟨1, some (oXc r1 r2 1 1 r3.length)⟩]) 7 mixed 
      (TR.d (r := agg (oXc r1 r2 1 1 r3.length)) (fs := []) rfl rfl (TOp.loadAgg_o rfl agg26 siz26 rfl rfl rfl rfl) <|
      (TR.l (r := i64 v6) rfl rfl (LOp.move rfl rfl) <|
      (TR.l (r := i64 v9) rfl rfl (LOp.move rfl rfl) <|
      (TR.l (r := fn (.func 125) [] [ptr (mXc a2 a3 a4), ptr (mXc a5 a6 a7)]) rfl rfl (LOp.move rfl rfl) <|
      (TR.l (r := i64 v6) rfl rfl (LOp.move rfl rfl) <|
      (TR.l (r := i64 v9) rfl rfl (LOp.move rfl rfl) <|
      (TR.d (r := f32 r11) (fs := []) rfl rfl (TOp.callB (CallAs.fn ent125 rfl rfl rfl rfl) (Bors.cons (Bor.pure rfl) (Bors.cons (Bor.pure rfl) (Bors.cons (Bor.ptr (Bors.cons (Bor.pure rfl) (Bors.cons (Bor.pure rfl) (Bors.cons (Bor.sl (fun _ => rfl)) Bors.nil)))) (Bors.cons (Bor.ptr (Bors.cons (Bor.pure rfl) (Bors.cons (Bor.pure rfl) (Bors.cons (Bor.sl (fun _ => rfl)) Bors.nil)))) Bors.nil)))) rfl rfl (i_product_1_ok v6 v9 a2 a3 a4 a5 a6 a7 r11 hf5)) <|
      TR.nil))))))) rfl (by kernel_rfl) rfl fills_nil rfl ?_
     iterate 7 refine ROps.dropS ?_
     refine ROps.drop0 ?_
     refine ROps.callO (A := [agg (oXc r1 r2 1 1 r3.length), i64 v6, i64 v9, f32 r11]) (args := [agg (oXc r1 r2 0 0 L7.length), i64 v6, i64 v9, f32 r11]) (Γc := [⟨0, some (L7.map f32)⟩]) (Γc' := [⟨0, some (r12.map f32)⟩]) (r' := tup []) (Γ' := [⟨1, some zMx⟩, ⟨1, some (r12.map f32)⟩, ⟨1, some (oXc r1 r2 1 1 r3.length)⟩]) [(1, 1)] [] rfl (CallAs.func ent78 rfl rfl) rfl rfl (SelOk.of (show List.Nodup [1] from by decide) (SelL.arr0 (f := f32) (fun _ => rfl) rfl trivial)) (live_of ⟨⟨_, _, rfl⟩, trivial⟩) (by simp [ren, rens, sigma, rens_f32, rens_f64, rens_i64, rens_ik, rens_str, rens_cp, hl8]) rfl (i_Matrix_set_02o_ok r1 r2 v6 v9 r11 L7 r12 hf6) rfl (news_of trivial) (show List.Nodup [1] from by decide) (by simp [ren, rens, sigma, of_decide_eq_true hn7]) (by simp [backOb, sigma, ren, rens, rens_f32, rens_f64, rens_i64, rens_ik, rens_str, rens_cp]) ?_
     refine zN ?_
     obtain ⟨x13, hx8, h5_⟩ := olet_some h5_
     refine RunC.regionW ?_
     refine zl (r := i64 x13) (LOp.eqr (LOp.add rfl rfl rfl) (congrArg (ik .i64) hx8)) ?_
     refine zm (r := i64 x13) ?_
     refine zN ?_
     cases Option.some.inj h5_
     exact ⟨_, rfl, (of_decide_eq_true hn7), ⟨aR, aR, aR, aR, aR, aR, aR, aR, aR, trivial⟩, ⟨⟨rfl, .inr rfl⟩, ⟨rfl, .inr rfl⟩, ⟨rfl, .inr rfl⟩, trivial⟩⟩
    ·refine RunC.regionW ?_
     refine zl (r := b false) (LOp.eqb (LOp.lss rfl rfl rfl) hc3) ?_
     refine zN ?_
     refine RunC.seq ?_
     refine RunC.cond_false rfl rfl ?_
     refine RunC.exit ?_
     cases Option.some.inj h5_
     have hx := ho5 _ rfl
     exact ⟨L7, hl8, ⟨aR, aR, aR, aR, aR, aR, trivial⟩, ⟨⟨rfl, .inr rfl⟩, ⟨rfl, .inr rfl⟩, ⟨rfl, .inr rfl⟩, trivial⟩, hx⟩
   ·rintro τ6 Γ6 ⟨L14, hl15, hw6, hd6, rfl⟩
    refine RunC.wl hw6 hd6 ?_
    replace h4_ : i_made_2Fi_product_1_k2 v6 L14 = some y4_ := h4_
    unfold i_made_2Fi_product_1_k2 at h4_
    obtain ⟨x16, hx9, h4_⟩ := olet_some h4_
    refine RunC.regionW ?_
    refine zl (r := i64 x16) (LOp.eqr (LOp.add rfl rfl rfl) (congrArg (ik .i64) hx9)) ?_
    refine zm (r := i64 x16) ?_
    refine zN ?_
    cases Option.some.inj h4_
    exact ⟨_, rfl, hl15, ⟨aR, aR, aR, aR, aR, aR, trivial⟩, ⟨⟨rfl, .inr rfl⟩, ⟨rfl, .inr rfl⟩, ⟨rfl, .inr rfl⟩, trivial⟩⟩
  ·refine RunC.regionW ?_
   refine zl (r := b false) (LOp.eqb (LOp.lss rfl rfl rfl) hc2) ?_
   refine zN ?_
   refine RunC.seq ?_
   refine RunC.cond_false rfl rfl ?_
   refine RunC.exit ?_
   cases Option.some.inj h4_
   have hx := ho4 _ rfl
   exact ⟨L4, hl5, ⟨aR, aR, trivial⟩, ⟨⟨rfl, .inr rfl⟩, ⟨rfl, .inr rfl⟩, ⟨rfl, .inr rfl⟩, trivial⟩, hx⟩
 ·rintro τ7 Γ7 ⟨L17, hl18, hw7, hd7, rfl⟩
  refine RunC.wl hw7 hd7 ?_
  replace h : i_made_2Fi_product_1_k3 r1 r2 L17 = some (q0, q1, q2) := h
  unfold i_made_2Fi_product_1_k3 at h
  refine zQ ?_
  refine ROps.d (r := agg (oXc r1 r2 1 1 r3.length)) (fs := []) (Γ' := [⟨1, some zMx⟩, ⟨1, some (L17.map f32)⟩, ⟨1, some (oXc r1 r2 1 1 r3.length)⟩]) rfl rfl rfl (TOp.loadAgg_o rfl agg26 siz26 rfl rfl rfl rfl) rfl ?_
  refine ROps.store_le (r := agg (oXc r1 r2 1 1 r3.length)) (l' := (oXc r1 r2 1 1 r3.length)) (Γ' := [⟨1, some (oXc r1 r2 1 1 r3.length)⟩, ⟨1, some (L17.map f32)⟩, ⟨1, some (oXc r1 r2 1 1 r3.length)⟩]) rfl siz26 rfl rfl rfl aR rfl rfl rfl rfl (Nat.le_of_ble_eq_true rfl) rfl rfl ?_
  refine zN ?_
  refine RunC.ret ?_
  have hq := Option.some.inj h
  obtain ⟨hq0, hq⟩ := Prod.mk.inj hq
  obtain ⟨hq1, hq⟩ := Prod.mk.inj hq
  subst q0
  subst q1
  subst q2
  exact bodyQ.mk (r' := agg (oXc r1 r2 1 1 L17.length)) [(1, 1)] (.inr rfl) rfl (show List.Nodup [1] from by decide) rfl rfl (Res.eq (Res.one rfl (RV.cell agg26 siz26 rfl rfl rfl rfl)) (by rw [(show L17.length = r3.length from hl18)] <;> rfl)) (SelL.arr0 (f := f32) (fun _ => rfl) rfl trivial)
noncomputable def i_product (a0 : Int) (a1 : Int) (a2 : List F) (a3 : Int) (a4 : Int) (a5 : List F) : Option (Int × Int × (List F)) :=
 obind3 (i_made_2Fi_product_1 a0 a4 a0 a1 a2 a3 a4 a5) fun (r1 : Int) (r2 : Int) (r3 : List F) =>
 some (r1, r2, r3)
theorem i_product_ok (a0 : Int) (a1 : Int) (a2 : List F) (a3 : Int) (a4 : Int) (a5 : List F) (q0 : Int) (q1 : Int) (q2 : List F) (h : i_product a0 a1 a2 a3 a4 a5 = some (q0, q1, q2)) : Ev Try.prog 57 [agg (mXc a0 a1 a2), agg (mXc a3 a4 a5)] [] (agg (oXc q0 q1 0 0 q2.length)) [⟨0, some (q2.map f32)⟩] := by
 refine Ev.start Try.func57 rfl rfl 2 (τ := [(0, agg (mXc a0 a1 a2)), (1, agg (mXc a3 a4 a5))]) rfl (Γ' := [⟨0, none⟩, ⟨0, none⟩]) rfl (n := 23) rfl (g := 0) rfl (fun _ => rfl) ?_
 unfold i_product at h
 refine zQ ?_
 refine ROps.d (r := ptr (mXc a0 a1 a2)) (fs := []) (Γ' := [⟨0, none⟩, ⟨0, none⟩]) rfl rfl rfl (TOp.box_s rfl rfl rfl) rfl ?_
 refine ROps.d (r := ptr (mXc a3 a4 a5)) (fs := []) (Γ' := [⟨0, none⟩, ⟨0, none⟩]) rfl rfl rfl (TOp.box_s rfl rfl rfl) rfl ?_
 refine ROps.d (r := optr 0 1 0) (fs := [(0, zMx)]) (Γ' := [⟨1, some zMx⟩, ⟨0, none⟩]) rfl rfl rfl (TOp.alloc_o (g := ⟨0, none⟩) 0 rfl zer26 zok26 rfl) rfl ?_
 refine zN ?_
 refine RunC.seq ?_
 obtain ⟨r1, r2, r3, hf1, h⟩ := obind3_some h
 refine RunC.regionW ?_
 refine zl (r := ptr (mXc a0 a1 a2)) (LOp.fap und26 rfl siz2 rfl rfl rfl) ?_
 refine zl (r := i64 a0) (LOp.load1 agg2 rfl rfl) ?_
 refine zl (r := ptr [i64 a4, (sFc a5)]) (LOp.fap und26 rfl siz2 rfl rfl rfl) ?_
 refine zl (r := i64 a4) (LOp.load1 agg2 rfl rfl) ?_
 refine zl (r := fn (.func 125) [] [ptr (mXc a0 a1 a2), ptr (mXc a3 a4 a5)]) (LOp.makeFunc rfl rfl) ?_
 refine ROps.d (r := agg (oXc r1 r2 1 1 r3.length)) (fs := [(1, (r3.map f32))]) (Γ' := [⟨1, some zMx⟩, ⟨1, some (r3.map f32)⟩]) rfl rfl rfl (TOp.callBN (ls := [(r3.map f32)]) [1] (CallAs.func ent60 rfl rfl) (Bors.cons (Bor.pure rfl) (Bors.cons (Bor.pure rfl) (Bors.cons (Bor.fn Bors.nil (Bors.cons (Bor.ptr (Bors.cons (Bor.pure rfl) (Bors.cons (Bor.pure rfl) (Bors.cons (Bor.sl (fun _ => rfl)) Bors.nil)))) (Bors.cons (Bor.ptr (Bors.cons (Bor.pure rfl) (Bors.cons (Bor.pure rfl) (Bors.cons (Bor.sl (fun _ => rfl)) Bors.nil)))) Bors.nil))) Bors.nil))) rfl (i_made_2Fi_product_1_ok a0 a4 a0 a1 a2 a3 a4 a5 r1 r2 r3 hf1) (and_all (lts0_map (f := f32) (fun _ => rfl) _) rfl) (and_all (noss_map (f := f32) (fun _ => rfl) _) rfl) rfl (by decide) (ns_of ⟨⟨_, rfl⟩, trivial⟩)) rfl ?_
 refine ROps.store_le (r := agg (oXc r1 r2 1 1 r3.length)) (l' := (oXc r1 r2 1 1 r3.length)) (Γ' := [⟨1, some (oXc r1 r2 1 1 r3.length)⟩, ⟨1, some (r3.map f32)⟩]) rfl siz26 rfl rfl rfl aR rfl rfl rfl rfl (Nat.le_of_ble_eq_true rfl) rfl rfl ?_
 refine zN ?_
 refine RunC.ret ?_
 have hq := Option.some.inj h
 obtain ⟨hq0, hq⟩ := Prod.mk.inj hq
 obtain ⟨hq1, hq⟩ := Prod.mk.inj hq
 subst q0
 subst q1
 subst q2
 exact bodyQ.mk (r' := agg (oXc r1 r2 1 1 r3.length)) [(1, 1)] (.inr rfl) rfl (show List.Nodup [1] from by decide) rfl rfl (Res.one rfl (RV.cell agg26 siz26 rfl rfl rfl rfl)) (SelL.arr0 (f := f32) (fun _ => rfl) rfl trivial)
noncomputable def i_Matrix_valid_02o (a0 : Int) (a1 : Int) (a2 : List F) : Option ((Int × Int × Bool × (List F)) ⊕ (Int × Int × Bool × (List F) × (List F))) :=
 obind (i_ValidMatrix a0 a1 a2) fun (r1 : Bool) =>
 bsel r1 (
  some (Sum.inl (a0, a1, true, a2))) (
  some (Sum.inr (0, 0, false, a2, ([] : List F))))
theorem i_Matrix_valid_02o_ok0 (a0 : Int) (a1 : Int) (a2 : List F) (q0 : Int) (q1 : Int) (q2 : Bool) (q3 : List F) (h : i_Matrix_valid_02o a0 a1 a2 = some (Sum.inl (q0, q1, q2, q3))) : Ev Try.prog 58 [agg (oXc a0 a1 0 0 a2.length)] [⟨0, some (a2.map f32)⟩] (tup [agg (oXc q0 q1 0 0 q3.length), b q2]) [⟨0, some (q3.map f32)⟩] := by
 refine Ev.start Try.func58 rfl rfl 2 (τ := [(0, agg (oXc a0 a1 0 0 a2.length))]) rfl (Γ' := [⟨0, some (a2.map f32)⟩, ⟨0, none⟩, ⟨0, none⟩]) rfl (n := 18) rfl (g := 1) rfl (by decide) ?_
 unfold i_Matrix_valid_02o at h
 refine zQ ?_
 refine ROps.d (r := ptr (oXc a0 a1 0 0 a2.length)) (fs := []) (Γ' := [⟨0, some (a2.map f32)⟩, ⟨0, none⟩, ⟨0, none⟩]) rfl rfl rfl (TOp.box_s rfl rfl rfl) rfl ?_
 refine ROps.d (r := optr 1 1 0) (fs := [(1, zMx)]) (Γ' := [⟨0, some (a2.map f32)⟩, ⟨1, some zMx⟩, ⟨0, none⟩]) rfl rfl rfl (TOp.alloc_o (g := ⟨0, none⟩) 1 rfl zer26 zok26 rfl) rfl ?_
 refine za (r := b false) ?_
 refine zN ?_
 iterate 2 (refine RunC.seq ?_)
 obtain ⟨r1, hf1, h⟩ := obind_some h
 rcases bsel_some h with ⟨hc2, h⟩ | ⟨hc2, h⟩
 ·refine RunC.regionW ?_
  refine zl (r := agg (oXc a0 a1 0 0 a2.length)) (LOp.loadAgg agg26 siz26 rfl rfl rfl rfl) ?_
  refine ROps.d (r := b true) (fs := []) (Γ' := [⟨0, some (a2.map f32)⟩, ⟨1, some zMx⟩, ⟨0, none⟩]) rfl rfl rfl (TOp.eqb (TOp.callB (CallAs.func ent66 rfl rfl) (Bors.cons (Bor.agg (Bors.cons (Bor.pure rfl) (Bors.cons (Bor.pure rfl) (Bors.cons (Bor.own (f := f32) (fun _ => rfl) rfl rfl) Bors.nil)))) Bors.nil) rfl rfl (i_ValidMatrix_ok a0 a1 a2 r1 hf1)) hc2) rfl ?_
  refine zl (r := b false) (LOp.eqb (LOp.not rfl rfl) rfl) ?_
  refine zN ?_
  refine RunC.cond_false rfl rfl ?_
  refine RunC.skip ?_
  refine zQ ?_
  refine zl (r := agg (oXc a0 a1 0 0 a2.length)) (LOp.loadAgg agg26 siz26 rfl rfl rfl rfl) ?_
  refine ROps.store_le (r := agg (oXc a0 a1 0 0 a2.length)) (l' := (oXc a0 a1 0 0 a2.length)) (Γ' := [⟨0, some (a2.map f32)⟩, ⟨1, some (oXc a0 a1 0 0 a2.length)⟩, ⟨0, none⟩]) rfl siz26 rfl rfl rfl aR rfl rfl rfl rfl (Nat.le_of_ble_eq_true rfl) rfl rfl ?_
  refine za (r := b true) ?_
  refine zN ?_
  refine RunC.ret ?_
  have hq := Option.some.inj h
  have hq := Sum.inl.inj hq
  obtain ⟨hq0, hq⟩ := Prod.mk.inj hq
  obtain ⟨hq1, hq⟩ := Prod.mk.inj hq
  obtain ⟨hq2, hq⟩ := Prod.mk.inj hq
  subst q0
  subst q1
  subst q2
  subst q3
  exact bodyQ.mk (r' := tup [agg (oXc a0 a1 0 0 a2.length), b true]) [(0, 0)] (.inr rfl) rfl (show List.Nodup [0] from by decide) rfl rfl (Res.two rfl (RV.cell agg26 siz26 rfl rfl rfl rfl) (RV.tmp rfl)) (SelL.arr (f := f32) (fun _ => rfl) rfl trivial)
 ·refine RunC.regionW ?_
  refine zl (r := agg (oXc a0 a1 0 0 a2.length)) (LOp.loadAgg agg26 siz26 rfl rfl rfl rfl) ?_
  refine ROps.d (r := b false) (fs := []) (Γ' := [⟨0, some (a2.map f32)⟩, ⟨1, some zMx⟩, ⟨0, none⟩]) rfl rfl rfl (TOp.eqb (TOp.callB (CallAs.func ent66 rfl rfl) (Bors.cons (Bor.agg (Bors.cons (Bor.pure rfl) (Bors.cons (Bor.pure rfl) (Bors.cons (Bor.own (f := f32) (fun _ => rfl) rfl rfl) Bors.nil)))) Bors.nil) rfl rfl (i_ValidMatrix_ok a0 a1 a2 r1 hf1)) hc2) rfl ?_
  refine zl (r := b true) (LOp.eqb (LOp.not rfl rfl) rfl) ?_
  refine zN ?_
  refine RunC.cond_true rfl rfl ?_
  refine zQ ?_
  refine zl (r := agg zMx) (LOp.build (qs := []) zer26 zok26 und26 plc26 rfl trivial rfl) ?_
  refine ROps.store_le (r := agg zMx) (l' := zMx) (Γ' := [⟨0, some (a2.map f32)⟩, ⟨1, some zMx⟩, ⟨0, none⟩]) rfl siz26 rfl rfl rfl aR rfl rfl rfl rfl (Nat.le_of_ble_eq_true rfl) rfl rfl ?_
  refine za (r := b false) ?_
  refine zN ?_
  cases Option.some.inj h
theorem i_Matrix_valid_02o_ok1 (a0 : Int) (a1 : Int) (a2 : List F) (q0 : Int) (q1 : Int) (q2 : Bool) (q3 : List F) (q4 : List F) (h : i_Matrix_valid_02o a0 a1 a2 = some (Sum.inr (q0, q1, q2, q3, q4))) : Ev Try.prog 58 [agg (oXc a0 a1 0 0 a2.length)] [⟨0, some (a2.map f32)⟩] (tup [agg (oXc q0 q1 1 0 q4.length), b q2]) [⟨0, some (q3.map f32)⟩, ⟨0, some (q4.map f32)⟩] := by
 refine Ev.start Try.func58 rfl rfl 2 (τ := [(0, agg (oXc a0 a1 0 0 a2.length))]) rfl (Γ' := [⟨0, some (a2.map f32)⟩, ⟨0, none⟩, ⟨0, none⟩]) rfl (n := 18) rfl (g := 1) rfl (by decide) ?_
 unfold i_Matrix_valid_02o at h
 refine zQ ?_
 refine ROps.d (r := ptr (oXc a0 a1 0 0 a2.length)) (fs := []) (Γ' := [⟨0, some (a2.map f32)⟩, ⟨0, none⟩, ⟨0, none⟩]) rfl rfl rfl (TOp.box_s rfl rfl rfl) rfl ?_
 refine ROps.d (r := optr 1 1 0) (fs := [(1, zMx)]) (Γ' := [⟨0, some (a2.map f32)⟩, ⟨1, some zMx⟩, ⟨0, none⟩]) rfl rfl rfl (TOp.alloc_o (g := ⟨0, none⟩) 1 rfl zer26 zok26 rfl) rfl ?_
 refine za (r := b false) ?_
 refine zN ?_
 iterate 2 (refine RunC.seq ?_)
 obtain ⟨r1, hf1, h⟩ := obind_some h
 rcases bsel_some h with ⟨hc2, h⟩ | ⟨hc2, h⟩
 ·refine RunC.regionW ?_
  refine zl (r := agg (oXc a0 a1 0 0 a2.length)) (LOp.loadAgg agg26 siz26 rfl rfl rfl rfl) ?_
  refine ROps.d (r := b true) (fs := []) (Γ' := [⟨0, some (a2.map f32)⟩, ⟨1, some zMx⟩, ⟨0, none⟩]) rfl rfl rfl (TOp.eqb (TOp.callB (CallAs.func ent66 rfl rfl) (Bors.cons (Bor.agg (Bors.cons (Bor.pure rfl) (Bors.cons (Bor.pure rfl) (Bors.cons (Bor.own (f := f32) (fun _ => rfl) rfl rfl) Bors.nil)))) Bors.nil) rfl rfl (i_ValidMatrix_ok a0 a1 a2 r1 hf1)) hc2) rfl ?_
  refine zl (r := b false) (LOp.eqb (LOp.not rfl rfl) rfl) ?_
  refine zN ?_
  refine RunC.cond_false rfl rfl ?_
  refine RunC.skip ?_
  refine zQ ?_
  refine zl (r := agg (oXc a0 a1 0 0 a2.length)) (LOp.loadAgg agg26 siz26 rfl rfl rfl rfl) ?_
  refine ROps.store_le (r := agg (oXc a0 a1 0 0 a2.length)) (l' := (oXc a0 a1 0 0 a2.length)) (Γ' := [⟨0, some (a2.map f32)⟩, ⟨1, some (oXc a0 a1 0 0 a2.length)⟩, ⟨0, none⟩]) rfl siz26 rfl rfl rfl aR rfl rfl rfl rfl (Nat.le_of_ble_eq_true rfl) rfl rfl ?_
  refine za (r := b true) ?_
  refine zN ?_
  cases Option.some.inj h
 ·refine RunC.regionW ?_
  refine zl (r := agg (oXc a0 a1 0 0 a2.length)) (LOp.loadAgg agg26 siz26 rfl rfl rfl rfl) ?_
  refine ROps.d (r := b false) (fs := []) (Γ' := [⟨0, some (a2.map f32)⟩, ⟨1, some zMx⟩, ⟨0, none⟩]) rfl rfl rfl (TOp.eqb (TOp.callB (CallAs.func ent66 rfl rfl) (Bors.cons (Bor.agg (Bors.cons (Bor.pure rfl) (Bors.cons (Bor.pure rfl) (Bors.cons (Bor.own (f := f32) (fun _ => rfl) rfl rfl) Bors.nil)))) Bors.nil) rfl rfl (i_ValidMatrix_ok a0 a1 a2 r1 hf1)) hc2) rfl ?_
  refine zl (r := b true) (LOp.eqb (LOp.not rfl rfl) rfl) ?_
  refine zN ?_
  refine RunC.cond_true rfl rfl ?_
  refine zQ ?_
  refine zl (r := agg zMx) (LOp.build (qs := []) zer26 zok26 und26 plc26 rfl trivial rfl) ?_
  refine ROps.store_le (r := agg zMx) (l' := zMx) (Γ' := [⟨0, some (a2.map f32)⟩, ⟨1, some zMx⟩, ⟨0, none⟩]) rfl siz26 rfl rfl rfl aR rfl rfl rfl rfl (Nat.le_of_ble_eq_true rfl) rfl rfl ?_
  refine za (r := b false) ?_
  refine zN ?_
  refine RunC.nil_cell (l' := [i64 0, i64 0, oref 2 1 0 0]) (Γ' := [⟨0, some (a2.map f32)⟩, ⟨1, some [i64 0, i64 0, oref 2 1 0 0]⟩, ⟨1, some (([] : List F).map f32)⟩]) 1 2 2 rfl rfl rfl rfl rfl ?_
  refine RunC.ret ?_
  have hq := Option.some.inj h
  have hq := Sum.inr.inj hq
  obtain ⟨hq0, hq⟩ := Prod.mk.inj hq
  obtain ⟨hq1, hq⟩ := Prod.mk.inj hq
  obtain ⟨hq2, hq⟩ := Prod.mk.inj hq
  obtain ⟨hq3, hq⟩ := Prod.mk.inj hq
  subst q0
  subst q1
  subst q2
  subst q3
  subst q4
  exact bodyQ.mk (r' := tup [agg [i64 0, i64 0, oref 2 1 0 (([] : List F).length)], b false]) [(0, 0), (2, 1)] (.inr rfl) rfl (show List.Nodup [0, 2] from by decide) rfl rfl (Res.eq (Res.two rfl (RV.cell agg26 siz26 rfl rfl rfl rfl) (RV.tmp rfl)) (by rw [(show ([] : List F).length = 0 from rfl)] <;> rfl)) (SelL.arr (f := f32) (fun _ => rfl) rfl (SelL.arr0 (f := f32) (fun _ => rfl) rfl trivial))
noncomputable def i_MulMatrices (a0 : Int) (a1 : Int) (a2 : List F) (a3 : Int) (a4 : Int) (a5 : List F) : Option (Int × Int × Bool × (List F)) :=
 obind (i_areFactors a0 a1 a2 a3 a4 a5) fun (r1 : Bool) =>
 bsel r1 (
  obind3 (i_product a0 a1 a2 a3 a4 a5) fun (r2 : Int) (r3 : Int) (r4 : List F) =>
  obind (i_Matrix_valid_02o r2 r3 r4) (fun z => osum z (fun y => obind4 (some y) fun (r5 : Int) (r6 : Int) (r7 : Bool) (r8 : List F) =>
   need (decide (r8.length = r4.length)) <|
   some (r5, r6, r7, r8)) (fun y => obind5 (some y) fun (r9 : Int) (r10 : Int) (r11 : Bool) (r12 : List F) (r13 : List F) =>
   need (decide (r12.length = r4.length)) <|
   some (r9, r10, r11, r13)))) (
  some (0, 0, false, ([] : List F)))
theorem i_MulMatrices_ok (a0 : Int) (a1 : Int) (a2 : List F) (a3 : Int) (a4 : Int) (a5 : List F) (q0 : Int) (q1 : Int) (q2 : Bool) (q3 : List F) (h : i_MulMatrices a0 a1 a2 a3 a4 a5 = some (q0, q1, q2, q3)) : Ev Try.prog 11 [agg (mXc a0 a1 a2), agg (mXc a3 a4 a5)] [] (tup [agg (oXc q0 q1 0 0 q3.length), b q2]) [⟨0, some (q3.map f32)⟩] := by
 refine Ev.start Try.func11 rfl rfl 3 (τ := [(0, agg (mXc a0 a1 a2)), (1, agg (mXc a3 a4 a5))]) rfl (Γ' := [⟨0, none⟩, ⟨0, none⟩, ⟨0, none⟩]) rfl (n := 35) rfl (g := 0) rfl (fun _ => rfl) ?_
 unfold i_MulMatrices at h
 refine zQ ?_
 refine ROps.d (r := ptr (mXc a0 a1 a2)) (fs := []) (Γ' := [⟨0, none⟩, ⟨0, none⟩, ⟨0, none⟩]) rfl rfl rfl (TOp.box_s rfl rfl rfl) rfl ?_
 refine ROps.d (r := ptr (mXc a3 a4 a5)) (fs := []) (Γ' := [⟨0, none⟩, ⟨0, none⟩, ⟨0, none⟩]) rfl rfl rfl (TOp.box_s rfl rfl rfl) rfl ?_
 refine ROps.d (r := optr 0 1 0) (fs := [(0, zMx)]) (Γ' := [⟨1, some zMx⟩, ⟨0, none⟩, ⟨0, none⟩]) rfl rfl rfl (TOp.alloc_o (g := ⟨0, none⟩) 0 rfl zer26 zok26 rfl) rfl ?_
 refine za (r := b false) ?_
 refine zN ?_
 iterate 2 (refine RunC.seq ?_)
 obtain ⟨r1, hf1, h⟩ := obind_some h
 rcases bsel_some h with ⟨hc2, h⟩ | ⟨hc2, h⟩
 ·refine RunC.regionW ?_
  refine zl (r := agg (mXc a0 a1 a2)) (LOp.loadAgg agg26 siz26 rfl rfl rfl rfl) ?_
  refine zl (r := agg (mXc a3 a4 a5)) (LOp.loadAgg agg26 siz26 rfl rfl rfl rfl) ?_
  refine ROps.d (r := b true) (fs := []) (Γ' := [⟨1, some zMx⟩, ⟨0, none⟩, ⟨0, none⟩]) rfl rfl rfl (TOp.eqb (TOp.callB (CallAs.func ent56 rfl rfl) (Bors.cons (Bor.agg (Bors.cons (Bor.pure rfl) (Bors.cons (Bor.pure rfl) (Bors.cons (Bor.sl (fun _ => rfl)) Bors.nil)))) (Bors.cons (Bor.agg (Bors.cons (Bor.pure rfl) (Bors.cons (Bor.pure rfl) (Bors.cons (Bor.sl (fun _ => rfl)) Bors.nil)))) Bors.nil)) rfl rfl (i_areFactors_ok a0 a1 a2 a3 a4 a5 r1 hf1)) hc2) rfl ?_
  refine zl (r := b false) (LOp.eqb (LOp.not rfl rfl) rfl) ?_
  refine zN ?_
  refine RunC.cond_false rfl rfl ?_
  refine RunC.skip ?_
  refine RunC.seq ?_
  obtain ⟨r2, r3, r4, hf3, h⟩ := obind3_some h
  obtain ⟨z1, hf4, h⟩ := obind_some h
  rcases z1 with z1 | z1
  ·replace h := (osum_inl _ _ _).symm.trans h
   obtain ⟨r5, r6, r7, r8, hz2, h⟩ := obind4_some h
   cases hz2
   obtain ⟨hn5, h⟩ := need_some h
   refine RunC.regionW ?_
   refine zl (r := agg (mXc a0 a1 a2)) (LOp.loadAgg agg26 siz26 rfl rfl rfl rfl) ?_
   refine zl (r := agg (mXc a3 a4 a5)) (LOp.loadAgg agg26 siz26 rfl rfl rfl rfl) ?_
   refine ROps.d (r := agg (oXc r2 r3 1 1 r4.length)) (fs := [(1, (r4.map f32))]) (Γ' := [⟨1, some zMx⟩, ⟨1, some (r4.map f32)⟩, ⟨0, none⟩]) rfl rfl rfl (TOp.callBN (ls := [(r4.map f32)]) [1] (CallAs.func ent57 rfl rfl) (Bors.cons (Bor.agg (Bors.cons (Bor.pure rfl) (Bors.cons (Bor.pure rfl) (Bors.cons (Bor.sl (fun _ => rfl)) Bors.nil)))) (Bors.cons (Bor.agg (Bors.cons (Bor.pure rfl) (Bors.cons (Bor.pure rfl) (Bors.cons (Bor.sl (fun _ => rfl)) Bors.nil)))) Bors.nil)) rfl (i_product_ok a0 a1 a2 a3 a4 a5 r2 r3 r4 hf3) (and_all (lts0_map (f := f32) (fun _ => rfl) _) rfl) (and_all (noss_map (f := f32) (fun _ => rfl) _) rfl) rfl (by decide) (ns_of ⟨⟨_, rfl⟩, trivial⟩)) rfl ?_
   refine ROps.callO (A := [agg (oXc r2 r3 1 1 r4.length)]) (args := [agg (oXc r2 r3 0 0 r4.length)]) (Γc := [⟨0, some (r4.map f32)⟩]) (Γc' := [⟨0, some (r8.map f32)⟩]) (r' := tup [agg (oXc r5 r6 1 1 r4.length), b r7]) (Γ' := [⟨1, some zMx⟩, ⟨1, some (r8.map f32)⟩, ⟨0, none⟩]) [(1, 1)] [] rfl (CallAs.func ent58 rfl rfl) rfl rfl (SelOk.of (show List.Nodup [1] from by decide) (SelL.arr0 (f := f32) (fun _ => rfl) rfl trivial)) (live_of ⟨⟨_, _, rfl⟩, trivial⟩) (by simp [ren, rens, sigma, rens_f32, rens_f64, rens_i64, rens_ik, rens_str, rens_cp]) rfl (i_Matrix_valid_02o_ok0 r2 r3 r4 r5 r6 r7 r8 hf4) rfl (news_of trivial) (show List.Nodup [1] from by decide) (by simp [ren, rens, sigma, of_decide_eq_true hn5]) (by simp [backOb, sigma, ren, rens, rens_f32, rens_f64, rens_i64, rens_ik, rens_str, rens_cp]) ?_
   refine zl (r := agg (oXc r5 r6 1 1 r4.length)) (LOp.extract rfl rfl rfl) ?_
   refine zl (r := b r7) (LOp.extract rfl rfl rfl) ?_
   refine ROps.store_le (r := agg (oXc r5 r6 1 1 r4.length)) (l' := (oXc r5 r6 1 1 r4.length)) (Γ' := [⟨1, some (oXc r5 r6 1 1 r4.length)⟩, ⟨1, some (r8.map f32)⟩, ⟨0, none⟩]) rfl siz26 rfl rfl rfl aR rfl rfl rfl rfl (Nat.le_of_ble_eq_true rfl) rfl rfl ?_
   refine za (r := b r7) ?_
   refine zN ?_
   refine RunC.ret ?_
   have hq := Option.some.inj h
   obtain ⟨hq0, hq⟩ := Prod.mk.inj hq
   obtain ⟨hq1, hq⟩ := Prod.mk.inj hq
   obtain ⟨hq2, hq⟩ := Prod.mk.inj hq
   subst q0
   subst q1
   subst q2
   subst q3
   exact bodyQ.mk (r' := tup [agg (oXc r5 r6 1 1 r8.length), b r7]) [(1, 1)] (.inr rfl) rfl (show List.Nodup [1] from by decide) rfl rfl (Res.eq (Res.two rfl (RV.cell agg26 siz26 rfl rfl rfl rfl) (RV.tmp rfl)) (by rw [(show r8.length = r4.length from (of_decide_eq_true hn5))] <;> rfl)) (SelL.arr0 (f := f32) (fun _ => rfl) rfl trivial)
  ·replace h := (osum_inr _ _ _).symm.trans h
   obtain ⟨r9, r10, r11, r12, r13, hz3, h⟩ := obind5_some h
   cases hz3
   obtain ⟨hn6, h⟩ := need_some h
   refine RunC.regionW ?_
   refine zl (r := agg (mXc a0 a1 a2)) (LOp.loadAgg agg26 siz26 rfl rfl rfl rfl) ?_
   refine zl (r := agg (mXc a3 a4 a5)) (LOp.loadAgg agg26 siz26 rfl rfl rfl rfl) ?_
   refine ROps.d (r := agg (oXc r2 r3 1 1 r4.length)) (fs := [(1, (r4.map f32))]) (Γ' := [⟨1, some zMx⟩, ⟨1, some (r4.map f32)⟩, ⟨0, none⟩]) rfl rfl rfl (TOp.callBN (ls := [(r4.map f32)]) [1] (CallAs.func ent57 rfl rfl) (Bors.cons (Bor.agg (Bors.cons (Bor.pure rfl) (Bors.cons (Bor.pure rfl) (Bors.cons (Bor.sl (fun _ => rfl)) Bors.nil)))) (Bors.cons (Bor.agg (Bors.cons (Bor.pure rfl) (Bors.cons (Bor.pure rfl) (Bors.cons (Bor.sl (fun _ => rfl)) Bors.nil)))) Bors.nil)) rfl (i_product_ok a0 a1 a2 a3 a4 a5 r2 r3 r4 hf3) (and_all (lts0_map (f := f32) (fun _ => rfl) _) rfl) (and_all (noss_map (f := f32) (fun _ => rfl) _) rfl) rfl (by decide) (ns_of ⟨⟨_, rfl⟩, trivial⟩)) rfl ?_
   refine ROps.callO (A := [agg (oXc r2 r3 1 1 r4.length)]) (args := [agg (oXc r2 r3 0 0 r4.length)]) (Γc := [⟨0, some (r4.map f32)⟩]) (Γc' := [⟨0, some (r12.map f32)⟩, ⟨0, some (r13.map f32)⟩]) (r' := tup [agg (oXc r9 r10 2 1 r13.length), b r11]) (Γ' := [⟨1, some zMx⟩, ⟨1, some (r12.map f32)⟩, ⟨1, some (r13.map f32)⟩]) [(1, 1)] [(2, 1)] rfl (CallAs.func ent58 rfl rfl) rfl rfl (SelOk.of (show List.Nodup [1] from by decide) (SelL.arr0 (f := f32) (fun _ => rfl) rfl trivial)) (live_of ⟨⟨_, _, rfl⟩, trivial⟩) (by simp [ren, rens, sigma, rens_f32, rens_f64, rens_i64, rens_ik, rens_str, rens_cp]) rfl (i_Matrix_valid_02o_ok1 r2 r3 r4 r9 r10 r11 r12 r13 hf4) rfl (news_of ⟨⟨_, rfl, rfl⟩, trivial⟩) (show List.Nodup [1, 2] from by decide) (by simp [ren, rens, sigma, of_decide_eq_true hn6]) (by simp [backOb, sigma, ren, rens, rens_f32, rens_f64, rens_i64, rens_ik, rens_str, rens_cp]) ?_
   refine zl (r := agg (oXc r9 r10 2 1 r13.length)) (LOp.extract rfl rfl rfl) ?_
   refine zl (r := b r11) (LOp.extract rfl rfl rfl) ?_
   refine ROps.store_le (r := agg (oXc r9 r10 2 1 r13.length)) (l' := (oXc r9 r10 2 1 r13.length)) (Γ' := [⟨1, some (oXc r9 r10 2 1 r13.length)⟩, ⟨1, some (r12.map f32)⟩, ⟨1, some (r13.map f32)⟩]) rfl siz26 rfl rfl rfl aR rfl rfl rfl rfl (Nat.le_of_ble_eq_true rfl) rfl rfl ?_
   refine za (r := b r11) ?_
   refine zN ?_
   refine RunC.ret ?_
   have hq := Option.some.inj h
   obtain ⟨hq0, hq⟩ := Prod.mk.inj hq
   obtain ⟨hq1, hq⟩ := Prod.mk.inj hq
   obtain ⟨hq2, hq⟩ := Prod.mk.inj hq
   subst q0
   subst q1
   subst q2
   subst q3
   exact bodyQ.mk (r' := tup [agg (oXc r9 r10 2 1 r13.length), b r11]) [(2, 1)] (.inr rfl) rfl (show List.Nodup [2] from by decide) rfl rfl (Res.two rfl (RV.cell agg26 siz26 rfl rfl rfl rfl) (RV.tmp rfl)) (SelL.arr0 (f := f32) (fun _ => rfl) rfl trivial)
 ·refine RunC.regionW ?_
  refine zl (r := agg (mXc a0 a1 a2)) (LOp.loadAgg agg26 siz26 rfl rfl rfl rfl) ?_
  refine zl (r := agg (mXc a3 a4 a5)) (LOp.loadAgg agg26 siz26 rfl rfl rfl rfl) ?_
  refine ROps.d (r := b false) (fs := []) (Γ' := [⟨1, some zMx⟩, ⟨0, none⟩, ⟨0, none⟩]) rfl rfl rfl (TOp.eqb (TOp.callB (CallAs.func ent56 rfl rfl) (Bors.cons (Bor.agg (Bors.cons (Bor.pure rfl) (Bors.cons (Bor.pure rfl) (Bors.cons (Bor.sl (fun _ => rfl)) Bors.nil)))) (Bors.cons (Bor.agg (Bors.cons (Bor.pure rfl) (Bors.cons (Bor.pure rfl) (Bors.cons (Bor.sl (fun _ => rfl)) Bors.nil)))) Bors.nil)) rfl rfl (i_areFactors_ok a0 a1 a2 a3 a4 a5 r1 hf1)) hc2) rfl ?_
  refine zl (r := b true) (LOp.eqb (LOp.not rfl rfl) rfl) ?_
  refine zN ?_
  refine RunC.cond_true rfl rfl ?_
  refine zQ ?_
  refine zl (r := agg zMx) (LOp.build (qs := []) zer26 zok26 und26 plc26 rfl trivial rfl) ?_
  refine ROps.store_le (r := agg zMx) (l' := zMx) (Γ' := [⟨1, some zMx⟩, ⟨0, none⟩, ⟨0, none⟩]) rfl siz26 rfl rfl rfl aR rfl rfl rfl rfl (Nat.le_of_ble_eq_true rfl) rfl rfl ?_
  refine za (r := b false) ?_
  refine zN ?_
  refine RunC.nil_cell (l' := [i64 0, i64 0, oref 1 1 0 0]) (Γ' := [⟨1, some [i64 0, i64 0, oref 1 1 0 0]⟩, ⟨1, some (([] : List F).map f32)⟩, ⟨0, none⟩]) 0 2 1 rfl rfl rfl rfl rfl ?_
  refine RunC.ret ?_
  have hq := Option.some.inj h
  obtain ⟨hq0, hq⟩ := Prod.mk.inj hq
  obtain ⟨hq1, hq⟩ := Prod.mk.inj hq
  obtain ⟨hq2, hq⟩ := Prod.mk.inj hq
  subst q0
  subst q1
  subst q2
  subst q3
  exact bodyQ.mk (r' := tup [agg [i64 0, i64 0, oref 1 1 0 (([] : List F).length)], b false]) [(1, 1)] (.inr rfl) rfl (show List.Nodup [1] from by decide) rfl rfl (Res.eq (Res.two rfl (RV.cell agg26 siz26 rfl rfl rfl rfl) (RV.tmp rfl)) (by rw [(show ([] : List F).length = 0 from rfl)] <;> rfl)) (SelL.arr0 (f := f32) (fun _ => rfl) rfl trivial)
noncomputable def i_PowerMatrix_k2 (v9 : Int) (v10 : Int) (l11 : List F) (v12 : Int) (v18 : Int) (v19 : Int) (l20 : List F) : Option (LR (Int × Int × (List F) × Int × Int × (List F) × Int) (Int × Int × (List F)) ((Int × Int × Bool × (List F)) ⊕ (Int × Int × (List F) × Bool))) :=
 need (!decide (2 = 0)) <|
 olet (IntKind.i64.wrap (v12.tdiv 2)) fun (x21 : Int) =>
 bsel (decide (0 < x21)) (
  obind4 (i_MulMatrices v9 v10 l11 v9 v10 l11) fun (r22 : Int) (r23 : Int) (r24 : Bool) (r25 : List F) =>
  bsel r24 (
   some (LR.next (v18, v19, l20, r22, r23, r25, x21))) (
   some (LR.ret (Sum.inl (0, 0, false, ([] : List F)))))) (
  some (LR.next (v18, v19, l20, v9, v10, l11, x21)))
noncomputable def i_PowerMatrix_b3 (v6 : Int) (v7 : Int) (l8 : List F) (v9 : Int) (v10 : Int) (l11 : List F) (v12 : Int) : Option (LR (Int × Int × (List F) × Int × Int × (List F) × Int) (Int × Int × (List F)) ((Int × Int × Bool × (List F)) ⊕ (Int × Int × (List F) × Bool))) :=
 bsel (decide (0 < v12)) (
  need (!decide (2 = 0)) <|
  olet (v12.tmod 2) fun (x13 : Int) =>
  bsel (decide (x13 = 1)) (
   obind4 (i_MulMatrices v6 v7 l8 v9 v10 l11) fun (r14 : Int) (r15 : Int) (r16 : Bool) (r17 : List F) =>
   bsel r16 (
    i_PowerMatrix_k2 v9 v10 l11 v12 r14 r15 r17) (
    some (LR.ret (Sum.inl (0, 0, false, ([] : List F)))))) (
   i_PowerMatrix_k2 v9 v10 l11 v12 v6 v7 l8)) (
  some (LR.out (v6, v7, l8)))
noncomputable def i_PowerMatrix_s3  : (Int × Int × (List F) × Int × Int × (List F) × Int) → Option (LR (Int × Int × (List F) × Int × Int × (List F) × Int) (Int × Int × (List F)) ((Int × Int × Bool × (List F)) ⊕ (Int × Int × (List F) × Bool))) := fun s => i_PowerMatrix_b3 s.1 s.2.1 s.2.2.1 s.2.2.2.1 s.2.2.2.2.1 s.2.2.2.2.2.1 s.2.2.2.2.2.2
noncomputable def i_PowerMatrix_k3 (v26 : Int) (v27 : Int) (l28 : List F) : Option ((Int × Int × Bool × (List F)) ⊕ (Int × Int × (List F) × Bool)) :=
 some (Sum.inr (v26, v27, l28, true))
noncomputable def i_PowerMatrix (a0 : Int) (a1 : Int) (a2 : List F) (a3 : Int) : Option ((Int × Int × Bool × (List F)) ⊕ (Int × Int × (List F) × Bool)) :=
 obind (i_isSquare a0 a1 a2) fun (r1 : Bool) =>
 bsel r1 (
  obind (i_inRange a3 0 64) fun (r2 : Bool) =>
  bsel r2 (
   obind3 (i_unit a0) fun (r3 : Int) (r4 : Int) (r5 : List F) =>
   obind (loopM (i_PowerMatrix_s3) (r3, r4, r5, a0, a1, a2, a3)) fun z => osum z (fun e => i_PowerMatrix_k3 e.1 e.2.1 e.2.2) (fun r => some r)) (
   some (Sum.inl (0, 0, false, ([] : List F))))) (
  some (Sum.inl (0, 0, false, ([] : List F))))
theorem i_PowerMatrix_ok0 (a0 : Int) (a1 : Int) (a2 : List F) (a3 : Int) (q0 : Int) (q1 : Int) (q2 : Bool) (q3 : List F) (h : i_PowerMatrix a0 a1 a2 a3 = some (Sum.inl (q0, q1, q2, q3))) : Ev Try.prog 45 [agg (mXc a0 a1 a2), i64 a3] [] (tup [agg (oXc q0 q1 0 0 q3.length), b q2]) [⟨0, some (q3.map f32)⟩] := by
 refine Ev.start Try.func45 rfl rfl 4 (τ := [(0, agg (mXc a0 a1 a2)), (1, i64 a3)]) rfl (Γ' := [⟨0, none⟩, ⟨0, none⟩, ⟨0, none⟩, ⟨0, none⟩]) rfl (n := 101) rfl (g := 0) rfl (fun _ => rfl) ?_
 unfold i_PowerMatrix at h
 refine zQ ?_
 refine ROps.d (r := ptr (mXc a0 a1 a2)) (fs := []) (Γ' := [⟨0, none⟩, ⟨0, none⟩, ⟨0, none⟩, ⟨0, none⟩]) rfl rfl rfl (TOp.box_s rfl rfl rfl) rfl ?_
 refine ROps.d (r := optr 0 1 0) (fs := [(0, zMx)]) (Γ' := [⟨1, some zMx⟩, ⟨0, none⟩, ⟨0, none⟩, ⟨0, none⟩]) rfl rfl rfl (TOp.alloc_o (g := ⟨0, none⟩) 0 rfl zer26 zok26 rfl) rfl ?_
 refine za (r := b false) ?_
 refine zN ?_
 iterate 2 (refine RunC.seq ?_)
 obtain ⟨r1, hf1, h⟩ := obind_some h
 rcases bsel_some h with ⟨hc2, h⟩ | ⟨hc2, h⟩
 ·obtain ⟨r2, hf3, h⟩ := obind_some h
  rcases bsel_some h with ⟨hc4, h⟩ | ⟨hc4, h⟩
  ·refine RunC.regionW ?_
   refine zl (r := agg (mXc a0 a1 a2)) (LOp.loadAgg agg26 siz26 rfl rfl rfl rfl) ?_
   refine ROps.d (r := b true) (fs := []) (Γ' := [⟨1, some zMx⟩, ⟨0, none⟩, ⟨0, none⟩, ⟨0, none⟩]) rfl rfl rfl (TOp.eqb (TOp.callB (CallAs.func ent116 rfl rfl) (Bors.cons (Bor.agg (Bors.cons (Bor.pure rfl) (Bors.cons (Bor.pure rfl) (Bors.cons (Bor.sl (fun _ => rfl)) Bors.nil)))) Bors.nil) rfl rfl (i_isSquare_ok a0 a1 a2 r1 hf1)) hc2) rfl ?_
   refine zl (r := b false) (LOp.eqb (LOp.not rfl rfl) rfl) ?_
   refine zm (r := b false) ?_
   refine zm (r := i64 a3) ?_
   refine ROps.d (r := b true) (fs := []) (Γ' := [⟨1, some zMx⟩, ⟨0, none⟩, ⟨0, none⟩, ⟨0, none⟩]) rfl rfl rfl (TOp.eqb (TOp.callB (CallAs.func ent65 rfl rfl) (Bors.cons (Bor.pure rfl) (Bors.cons (Bor.pure rfl) (Bors.cons (Bor.pure rfl) Bors.nil))) rfl rfl (i_inRange_ok a3 0 64 r2 hf3)) hc4) rfl ?_
   refine zl (r := b false) (LOp.eqb (LOp.not rfl rfl) rfl) ?_
   refine zl (r := b false) (LOp.pick_false rfl rfl rfl) ?_
   refine zN ?_
   refine RunC.cond_false rfl rfl ?_
   refine RunC.skip ?_
   refine RunC.seq ?_
   obtain ⟨r3, r4, r5, hf5, h⟩ := obind3_some h
   refine RunC.region_draw (Γ' := [⟨1, some zMx⟩, ⟨1, some zMx⟩, ⟨1, some zMx⟩, ⟨0, none⟩]) 6 mixed 
    (TR.l (r := ptr (mXc a0 a1 a2)) rfl rfl (LOp.fap und26 rfl siz2 rfl rfl rfl) <|
    (TR.l (r := i64 a0) rfl rfl (LOp.load1 agg2 rfl rfl) <|
    (TR.d (r := agg (mXc r3 r4 r5)) (fs := []) rfl rfl (TOp.callS (CallAs.func ent68 rfl rfl) (ALes.cons aR ALes.nil) (lts_cons rfl lts_nil) (lt_agg (lts_cons rfl (lts_cons rfl (lts_cons (lt_sl (fun _ => rfl)) lts_nil)))) (i_unit_ok a0 r3 r4 r5 hf5) (Bor.agg (Bors.cons (Bor.pure rfl) (Bors.cons (Bor.pure rfl) (Bors.cons (Bor.own (f := f32) (fun _ => rfl) rfl rfl) Bors.nil))))) <|
    (TR.loose (r := agg (mXc a0 a1 a2)) rfl rfl (LOp.loadAgg agg26 siz26 rfl rfl rfl rfl) <|
    (TR.d (r := optr 1 1 0) (fs := [(1, zMx)]) rfl rfl (TOp.alloc_o (g := ⟨0, none⟩) 1 rfl zer26 zok26 rfl) <|
    (TR.d (r := optr 2 1 0) (fs := [(2, zMx)]) rfl rfl (TOp.alloc_o (g := ⟨0, none⟩) 2 rfl zer26 zok26 rfl) <|
    TR.nil)))))) rfl (by kernel_rfl) rfl (fills_of (by show List.Nodup [1, 2]; decide) ⟨⟨_, rfl⟩, ⟨_, rfl⟩, trivial⟩) rfl ?_
   iterate 6 refine ROps.dropS ?_
   refine ROps.drop0 ?_
   refine ROps.store_le (r := agg (mXc r3 r4 r5)) (l' := (mXc r3 r4 r5)) (Γ' := [⟨1, some zMx⟩, ⟨1, some (mXc r3 r4 r5)⟩, ⟨1, some zMx⟩, ⟨0, none⟩]) rfl siz26 rfl rfl rfl aR rfl rfl rfl rfl (Nat.le_of_ble_eq_true rfl) rfl rfl ?_
   refine ROps.store_le (r := agg (mXc a0 a1 a2)) (l' := (mXc a0 a1 a2)) (Γ' := [⟨1, some zMx⟩, ⟨1, some (mXc r3 r4 r5)⟩, ⟨1, some (mXc a0 a1 a2)⟩, ⟨0, none⟩]) rfl siz26 rfl rfl rfl aR rfl rfl rfl rfl (Nat.le_of_ble_eq_true rfl) rfl rfl ?_
   refine za (r := b true) ?_
   refine zN ?_
   refine RunC.wl (τ' := [(1, i64 a3), (4, optr 0 1 0), (6, optr 1 1 0), (7, optr 2 1 0)]) (Γ' := [⟨1, some zMx⟩, ⟨1, some (mXc r3 r4 r5)⟩, ⟨1, some (mXc a0 a1 a2)⟩, ⟨0, none⟩]) ⟨aR, aR, aR, aR, trivial⟩ ⟨⟨rfl, .inr rfl⟩, ⟨rfl, .inr rfl⟩, ⟨rfl, .inr rfl⟩, ⟨rfl, .inr rfl⟩, trivial⟩ ?_
   refine RunC.seq ?_
   obtain ⟨z4, hz_4, h⟩ := obind_some h
   refine RunC.cutN (fun τ Γ => ∃ (v26 : Int) (v27 : Int) (l28 : List F), Le 101 τ Γ [(4, optr 0 1 0), (6, optr 1 1 0)] [⟨1, some zMx⟩, ⟨1, some (mXc v26 v27 l28)⟩, ⟨1, none⟩, ⟨0, none⟩] ∧ z4 = .inl (v26, v27, l28)) ?_ ?_
   ·refine RunC.block (RunC.loop (RunL.loopM (x := z4) (i_PowerMatrix_s3) (fun (s : Int × Int × (List F) × Int × Int × (List F) × Int) τ Γ => Le 101 τ Γ [(1, i64 s.2.2.2.2.2.2), (4, optr 0 1 0), (6, optr 1 1 0), (7, optr 2 1 0)] [⟨1, some zMx⟩, ⟨1, some [i64 s.1, i64 s.2.1, sl s.2.2.1.length (s.2.2.1.map f32)]⟩, ⟨1, some [i64 s.2.2.2.1, i64 s.2.2.2.2.1, sl s.2.2.2.2.2.1.length (s.2.2.2.2.2.1.map f32)]⟩, ⟨0, none⟩]) ?_ _ _ _ hz_4 (Le.of ⟨aR, aR, aR, aR, trivial⟩ ⟨⟨rfl, .inr rfl⟩, ⟨rfl, .inr rfl⟩, ⟨rfl, .inr rfl⟩, ⟨rfl, .inr rfl⟩, trivial⟩)))
    rintro ⟨v6, v7, l8, v9, v10, l11, v12⟩ τ4 Γ4 y4_ hw4 h4_ ho4 hr4
    refine RunC.le (τ' := [(1, i64 v12), (4, optr 0 1 0), (6, optr 1 1 0), (7, optr 2 1 0)]) (Γ' := [⟨1, some zMx⟩, ⟨1, some (mXc v6 v7 l8)⟩, ⟨1, some (mXc v9 v10 l11)⟩, ⟨0, none⟩]) hw4 ?_
    replace h4_ : i_PowerMatrix_b3 v6 v7 l8 v9 v10 l11 v12 = some y4_ := h4_
    unfold i_PowerMatrix_b3 at h4_
    iterate 2 (refine RunC.seq ?_)
    rcases bsel_some h4_ with ⟨hc6, h4_⟩ | ⟨hc6, h4_⟩
    ·refine RunC.regionW ?_
     refine zm (r := i64 v12) ?_
     refine zl (r := b true) (LOp.eqb (LOp.gtr rfl rfl rfl) hc6) ?_
     refine zN ?_
     refine RunC.cond_true rfl rfl ?_
     refine RunC.skip ?_
     refine RunC.block ?_
     refine RunC.seq ?_
     refine RunC.cutN (fun τ Γ => ∃ (v18 : Int) (v19 : Int) (l20 : List F), Le 101 τ Γ [(1, i64 v12), (4, optr 0 1 0), (6, optr 1 1 0), (7, optr 2 1 0)] [⟨1, some zMx⟩, ⟨1, some (mXc v18 v19 l20)⟩, ⟨1, some (mXc v9 v10 l11)⟩, ⟨0, none⟩] ∧ i_PowerMatrix_k2 v9 v10 l11 v12 v18 v19 l20 = some y4_) ?_ ?_
     ·refine RunC.seq ?_
      obtain ⟨hz7, h4_⟩ := need_some h4_
      obtain ⟨x13, hx8, h4_⟩ := olet_some h4_
      rcases bsel_some h4_ with ⟨hc9, h4_⟩ | ⟨hc9, h4_⟩
      ·refine RunC.regionW ?_
       refine zm (r := i64 v12) ?_
       refine zl (r := i64 x13) (LOp.eqr (LOp.rem rfl rfl rfl (nz hz7)) (congrArg (ik .i64) hx8)) ?_
       refine zl (r := b true) (LOp.eqb (LOp.eql rfl rfl rfl) hc9) ?_
       refine zN ?_
       refine RunC.cond_true rfl rfl ?_
       refine RunC.seq ?_
       obtain ⟨r14, r15, r16, r17, hf10, h4_⟩ := obind4_some h4_
       rcases bsel_some h4_ with ⟨hc11, h4_⟩ | ⟨hc11, h4_⟩
       ·refine RunC.regionW ?_
        refine ROps.d (r := agg (mXc v6 v7 l8)) (fs := []) (Γ' := [⟨1, some zMx⟩, ⟨1, some (mXc v6 v7 l8)⟩, ⟨1, some (mXc v9 v10 l11)⟩, ⟨0, none⟩]) rfl rfl rfl (TOp.loadAgg_o rfl agg26 siz26 rfl rfl rfl rfl) rfl ?_
        refine ROps.d (r := agg (mXc v9 v10 l11)) (fs := []) (Γ' := [⟨1, some zMx⟩, ⟨1, some (mXc v6 v7 l8)⟩, ⟨1, some (mXc v9 v10 l11)⟩, ⟨0, none⟩]) rfl rfl rfl (TOp.loadAgg_o rfl agg26 siz26 rfl rfl rfl rfl) rfl ?_
        refine ROps.d (r := tup [agg (mXc r14 r15 r17), b r16]) (fs := []) (Γ' := [⟨1, some zMx⟩, ⟨1, some (mXc v6 v7 l8)⟩, ⟨1, some (mXc v9 v10 l11)⟩, ⟨0, none⟩]) rfl rfl rfl (TOp.callS (CallAs.func ent11 rfl rfl) (ALes.cons aR (ALes.cons aR ALes.nil)) (lts_cons (lt_agg (lts_cons rfl (lts_cons rfl (lts_cons (lt_sl (fun _ => rfl)) lts_nil)))) (lts_cons (lt_agg (lts_cons rfl (lts_cons rfl (lts_cons (lt_sl (fun _ => rfl)) lts_nil)))) lts_nil)) (lt_tup (lts_cons (lt_agg (lts_cons rfl (lts_cons rfl (lts_cons (lt_sl (fun _ => rfl)) lts_nil)))) (lts_cons rfl lts_nil))) (i_MulMatrices_ok v6 v7 l8 v9 v10 l11 r14 r15 r16 r17 hf10) (Bor.tup (Bors.cons (Bor.agg (Bors.cons (Bor.pure rfl) (Bors.cons (Bor.pure rfl) (Bors.cons (Bor.own (f := f32) (fun _ => rfl) rfl rfl) Bors.nil)))) (Bors.cons (Bor.pure rfl) Bors.nil)))) rfl ?_
        refine zm (r := tup [agg (mXc r14 r15 r17), b r16]) ?_
        refine zl (r := agg (mXc r14 r15 r17)) (LOp.extract rfl rfl rfl) ?_
        refine zl (r := b true) (LOp.eqb (LOp.extract rfl rfl rfl) hc11) ?_
        refine ROps.store_le (r := agg (mXc r14 r15 r17)) (l' := (mXc r14 r15 r17)) (Γ' := [⟨1, some zMx⟩, ⟨1, some (mXc r14 r15 r17)⟩, ⟨1, some (mXc v9 v10 l11)⟩, ⟨0, none⟩]) rfl siz26 rfl rfl rfl aR rfl rfl rfl rfl (Nat.le_of_ble_eq_true rfl) rfl rfl ?_
        refine za (r := b true) ?_
        refine zN ?_
        refine zQ ?_
        refine zm (r := b true) ?_
        refine zl (r := b false) (LOp.eqb (LOp.not rfl rfl) rfl) ?_
        refine zN ?_
        refine RunC.wl (τ' := [(1, i64 v12), (4, optr 0 1 0), (6, optr 1 1 0), (7, optr 2 1 0), (34, b false)]) (Γ' := [⟨1, some zMx⟩, ⟨1, some (mXc r14 r15 r17)⟩, ⟨1, some (mXc v9 v10 l11)⟩, ⟨0, none⟩]) ⟨aR, aR, aR, aR, aR, trivial⟩ ⟨⟨rfl, .inr rfl⟩, ⟨rfl, .inr rfl⟩, ⟨rfl, .inr rfl⟩, ⟨rfl, .inr rfl⟩, trivial⟩ ?_
        refine RunC.cond_false rfl rfl ?_
        refine RunC.skip ?_
        exact ⟨r14, r15, r17, (Le.of ⟨aR, aR, aR, aR, trivial⟩ ⟨⟨rfl, .inr rfl⟩, ⟨rfl, .inr rfl⟩, ⟨rfl, .inr rfl⟩, ⟨rfl, .inr rfl⟩, trivial⟩), h4_⟩
       ·refine RunC.regionW ?_
        refine ROps.d (r := agg (mXc v6 v7 l8)) (fs := []) (Γ' := [⟨1, some zMx⟩, ⟨1, some (mXc v6 v7 l8)⟩, ⟨1, some (mXc v9 v10 l11)⟩, ⟨0, none⟩]) rfl rfl rfl (TOp.loadAgg_o rfl agg26 siz26 rfl rfl rfl rfl) rfl ?_
        refine ROps.d (r := agg (mXc v9 v10 l11)) (fs := []) (Γ' := [⟨1, some zMx⟩, ⟨1, some (mXc v6 v7 l8)⟩, ⟨1, some (mXc v9 v10 l11)⟩, ⟨0, none⟩]) rfl rfl rfl (TOp.loadAgg_o rfl agg26 siz26 rfl rfl rfl rfl) rfl ?_
        refine ROps.d (r := tup [agg (mXc r14 r15 r17), b r16]) (fs := []) (Γ' := [⟨1, some zMx⟩, ⟨1, some (mXc v6 v7 l8)⟩, ⟨1, some (mXc v9 v10 l11)⟩, ⟨0, none⟩]) rfl rfl rfl (TOp.callS (CallAs.func ent11 rfl rfl) (ALes.cons aR (ALes.cons aR ALes.nil)) (lts_cons (lt_agg (lts_cons rfl (lts_cons rfl (lts_cons (lt_sl (fun _ => rfl)) lts_nil)))) (lts_cons (lt_agg (lts_cons rfl (lts_cons rfl (lts_cons (lt_sl (fun _ => rfl)) lts_nil)))) lts_nil)) (lt_tup (lts_cons (lt_agg (lts_cons rfl (lts_cons rfl (lts_cons (lt_sl (fun _ => rfl)) lts_nil)))) (lts_cons rfl lts_nil))) (i_MulMatrices_ok v6 v7 l8 v9 v10 l11 r14 r15 r16 r17 hf10) (Bor.tup (Bors.cons (Bor.agg (Bors.cons (Bor.pure rfl) (Bors.cons (Bor.pure rfl) (Bors.cons (Bor.own (f := f32) (fun _ => rfl) rfl rfl) Bors.nil)))) (Bors.cons (Bor.pure rfl) Bors.nil)))) rfl ?_
        refine zm (r := tup [agg (mXc r14 r15 r17), b r16]) ?_
        refine zl (r := agg (mXc r14 r15 r17)) (LOp.extract rfl rfl rfl) ?_
        refine zl (r := b false) (LOp.eqb (LOp.extract rfl rfl rfl) hc11) ?_
        refine ROps.store_le (r := agg (mXc r14 r15 r17)) (l' := (mXc r14 r15 r17)) (Γ' := [⟨1, some zMx⟩, ⟨1, some (mXc r14 r15 r17)⟩, ⟨1, some (mXc v9 v10 l11)⟩, ⟨0, none⟩]) rfl siz26 rfl rfl rfl aR rfl rfl rfl rfl (Nat.le_of_ble_eq_true rfl) rfl rfl ?_
        refine za (r := b false) ?_
        refine zN ?_
        refine zQ ?_
        refine zm (r := b false) ?_
        refine zl (r := b true) (LOp.eqb (LOp.not rfl rfl) rfl) ?_
        refine zN ?_
        refine RunC.wl (τ' := [(1, i64 v12), (4, optr 0 1 0), (6, optr 1 1 0), (7, optr 2 1 0), (34, b true)]) (Γ' := [⟨1, some zMx⟩, ⟨1, some (mXc r14 r15 r17)⟩, ⟨1, some (mXc v9 v10 l11)⟩, ⟨0, none⟩]) ⟨aR, aR, aR, aR, aR, trivial⟩ ⟨⟨rfl, .inr rfl⟩, ⟨rfl, .inr rfl⟩, ⟨rfl, .inr rfl⟩, ⟨rfl, .inr rfl⟩, trivial⟩ ?_
        refine RunC.cond_true rfl rfl ?_
        refine zQ ?_
        refine zl (r := agg zMx) (LOp.build (qs := []) zer26 zok26 und26 plc26 rfl trivial rfl) ?_
        refine ROps.store_le (r := agg zMx) (l' := zMx) (Γ' := [⟨1, some zMx⟩, ⟨1, some (mXc r14 r15 r17)⟩, ⟨1, some (mXc v9 v10 l11)⟩, ⟨0, none⟩]) rfl siz26 rfl rfl rfl aR rfl rfl rfl rfl (Nat.le_of_ble_eq_true rfl) rfl rfl ?_
        refine za (r := b false) ?_
        refine zN ?_
        refine RunC.nil_cell (l' := [i64 0, i64 0, oref 3 1 0 0]) (Γ' := [⟨1, some [i64 0, i64 0, oref 3 1 0 0]⟩, ⟨1, some (mXc r14 r15 r17)⟩, ⟨1, some (mXc v9 v10 l11)⟩, ⟨1, some (([] : List F).map f32)⟩]) 0 2 3 rfl rfl rfl rfl rfl ?_
        refine RunC.ret ?_
        cases Option.some.inj h4_
        have hx5_ := hr4 _ rfl
        subst hx5_
        have hq := Option.some.inj h
        have hq := Sum.inl.inj hq
        obtain ⟨hq0, hq⟩ := Prod.mk.inj hq
        obtain ⟨hq1, hq⟩ := Prod.mk.inj hq
        obtain ⟨hq2, hq⟩ := Prod.mk.inj hq
        subst q0
        subst q1
        subst q2
        subst q3
        exact bodyQ.mk (r' := tup [agg [i64 0, i64 0, oref 3 1 0 (([] : List F).length)], b false]) [(3, 1)] (.inr rfl) rfl (show List.Nodup [3] from by decide) rfl rfl (Res.eq (Res.two rfl (RV.cell agg26 siz26 rfl rfl rfl rfl) (RV.tmp rfl)) (by rw [(show ([] : List F).length = 0 from rfl)] <;> rfl)) (SelL.arr0 (f := f32) (fun _ => rfl) rfl trivial)
      ·refine RunC.regionW ?_
       refine zm (r := i64 v12) ?_
       refine zl (r := i64 x13) (LOp.eqr (LOp.rem rfl rfl rfl (nz hz7)) (congrArg (ik .i64) hx8)) ?_
       refine zl (r := b false) (LOp.eqb (LOp.eql rfl rfl rfl) hc9) ?_
       refine zN ?_
       refine RunC.cond_false rfl rfl ?_
       refine RunC.skip ?_
       exact ⟨v6, v7, l8, (Le.of ⟨aR, aR, aR, aR, trivial⟩ ⟨⟨rfl, .inr rfl⟩, ⟨rfl, .inr rfl⟩, ⟨rfl, .inr rfl⟩, ⟨rfl, .inr rfl⟩, trivial⟩), h4_⟩
     ·rintro τ6 Γ6 ⟨v18, v19, l20, hw6, h4_⟩
      refine RunC.le hw6 ?_
      unfold i_PowerMatrix_k2 at h4_
      refine RunC.seq ?_
      obtain ⟨hz12, h4_⟩ := need_some h4_
      obtain ⟨x21, hx13, h4_⟩ := olet_some h4_
      refine RunC.regionW ?_
      refine zm (r := i64 v12) ?_
      refine zl (r := i64 x21) (LOp.eqr (LOp.quo rfl rfl rfl (nz hz12)) (congrArg (ik .i64) hx13)) ?_
      refine za (r := i64 x21) ?_
      refine zN ?_
      refine RunC.seq ?_
      rcases bsel_some h4_ with ⟨hc14, h4_⟩ | ⟨hc14, h4_⟩
      ·refine RunC.regionW ?_
       refine zm (r := i64 x21) ?_
       refine zl (r := b true) (LOp.eqb (LOp.gtr rfl rfl rfl) hc14) ?_
       refine zN ?_
       refine RunC.cond_true rfl rfl ?_
       refine RunC.seq ?_
       obtain ⟨r22, r23, r24, r25, hf15, h4_⟩ := obind4_some h4_
       rcases bsel_some h4_ with ⟨hc16, h4_⟩ | ⟨hc16, h4_⟩
       ·refine RunC.regionW ?_
        iterate 2 (refine ROps.d (r := agg (mXc v9 v10 l11)) (fs := []) (Γ' := [⟨1, some zMx⟩, ⟨1, some (mXc v18 v19 l20)⟩, ⟨1, some (mXc v9 v10 l11)⟩, ⟨0, none⟩]) rfl rfl rfl (TOp.loadAgg_o rfl agg26 siz26 rfl rfl rfl rfl) rfl ?_)
        refine ROps.d (r := tup [agg (mXc r22 r23 r25), b r24]) (fs := []) (Γ' := [⟨1, some zMx⟩, ⟨1, some (mXc v18 v19 l20)⟩, ⟨1, some (mXc v9 v10 l11)⟩, ⟨0, none⟩]) rfl rfl rfl (TOp.callS (CallAs.func ent11 rfl rfl) (ALes.cons aR (ALes.cons aR ALes.nil)) (lts_cons (lt_agg (lts_cons rfl (lts_cons rfl (lts_cons (lt_sl (fun _ => rfl)) lts_nil)))) (lts_cons (lt_agg (lts_cons rfl (lts_cons rfl (lts_cons (lt_sl (fun _ => rfl)) lts_nil)))) lts_nil)) (lt_tup (lts_cons (lt_agg (lts_cons rfl (lts_cons rfl (lts_cons (lt_sl (fun _ => rfl)) lts_nil)))) (lts_cons rfl lts_nil))) (i_MulMatrices_ok v9 v10 l11 v9 v10 l11 r22 r23 r24 r25 hf15) (Bor.tup (Bors.cons (Bor.agg (Bors.cons (Bor.pure rfl) (Bors.cons (Bor.pure rfl) (Bors.cons (Bor.own (f := f32) (fun _ => rfl) rfl rfl) Bors.nil)))) (Bors.cons (Bor.pure rfl) Bors.nil)))) rfl ?_
        refine zm (r := tup [agg (mXc r22 r23 r25), b r24]) ?_
        refine zl (r := agg (mXc r22 r23 r25)) (LOp.extract rfl rfl rfl) ?_
        refine zl (r := b true) (LOp.eqb (LOp.extract rfl rfl rfl) hc16) ?_
        refine ROps.store_le (r := agg (mXc r22 r23 r25)) (l' := (mXc r22 r23 r25)) (Γ' := [⟨1, some zMx⟩, ⟨1, some (mXc v18 v19 l20)⟩, ⟨1, some (mXc r22 r23 r25)⟩, ⟨0, none⟩]) rfl siz26 rfl rfl rfl aR rfl rfl rfl rfl (Nat.le_of_ble_eq_true rfl) rfl rfl ?_
        refine za (r := b true) ?_
        refine zN ?_
        refine zQ ?_
        refine zm (r := b true) ?_
        refine zl (r := b false) (LOp.eqb (LOp.not rfl rfl) rfl) ?_
        refine zN ?_
        refine RunC.cond_false rfl rfl ?_
        refine RunC.skip ?_
        cases Option.some.inj h4_
        exact ⟨_, rfl, (Le.of ⟨aR, aR, aR, aR, trivial⟩ ⟨⟨rfl, .inr rfl⟩, ⟨rfl, .inr rfl⟩, ⟨rfl, .inr rfl⟩, ⟨rfl, .inr rfl⟩, trivial⟩)⟩
       ·refine RunC.regionW ?_
        iterate 2 (refine ROps.d (r := agg (mXc v9 v10 l11)) (fs := []) (Γ' := [⟨1, some zMx⟩, ⟨1, some (mXc v18 v19 l20)⟩, ⟨1, some (mXc v9 v10 l11)⟩, ⟨0, none⟩]) rfl rfl rfl (TOp.loadAgg_o rfl agg26 siz26 rfl rfl rfl rfl) rfl ?_)
        refine ROps.d (r := tup [agg (mXc r22 r23 r25), b r24]) (fs := []) (Γ' := [⟨1, some zMx⟩, ⟨1, some (mXc v18 v19 l20)⟩, ⟨1, some (mXc v9 v10 l11)⟩, ⟨0, none⟩]) rfl rfl rfl (TOp.callS (CallAs.func ent11 rfl rfl) (ALes.cons aR (ALes.cons aR ALes.nil)) (lts_cons (lt_agg (lts_cons rfl (lts_cons rfl (lts_cons (lt_sl (fun _ => rfl)) lts_nil)))) (lts_cons (lt_agg (lts_cons rfl (lts_cons rfl (lts_cons (lt_sl (fun _ => rfl)) lts_nil)))) lts_nil)) (lt_tup (lts_cons (lt_agg (lts_cons rfl (lts_cons rfl (lts_cons (lt_sl (fun _ => rfl)) lts_nil)))) (lts_cons rfl lts_nil))) (i_MulMatrices_ok v9 v10 l11 v9 v10 l11 r22 r23 r24 r25 hf15) (Bor.tup (Bors.cons (Bor.agg (Bors.cons (Bor.pure rfl) (Bors.cons (Bor.pure rfl) (Bors.cons (Bor.own (f := f32) (fun _ => rfl) rfl rfl) Bors.nil)))) (Bors.cons (Bor.pure rfl) Bors.nil)))) rfl ?_
        refine zm (r := tup [agg (mXc r22 r23 r25), b r24]) ?_
        refine zl (r := agg (mXc r22 r23 r25)) (LOp.extract rfl rfl rfl) ?_
        refine zl (r := b false) (LOp.eqb (LOp.extract rfl rfl rfl) hc16) ?_
        refine ROps.store_le (r := agg (mXc r22 r23 r25)) (l' := (mXc r22 r23 r25)) (Γ' := [⟨1, some zMx⟩, ⟨1, some (mXc v18 v19 l20)⟩, ⟨1, some (mXc r22 r23 r25)⟩, ⟨0, none⟩]) rfl siz26 rfl rfl rfl aR rfl rfl rfl rfl (Nat.le_of_ble_eq_true rfl) rfl rfl ?_
        refine za (r := b false) ?_
        refine zN ?_
        refine zQ ?_
        refine zm (r := b false) ?_
        refine zl (r := b true) (LOp.eqb (LOp.not rfl rfl) rfl) ?_
        refine zN ?_
        refine RunC.cond_true rfl rfl ?_
        refine zQ ?_
        refine zl (r := agg zMx) (LOp.build (qs := []) zer26 zok26 und26 plc26 rfl trivial rfl) ?_
        refine ROps.store_le (r := agg zMx) (l' := zMx) (Γ' := [⟨1, some zMx⟩, ⟨1, some (mXc v18 v19 l20)⟩, ⟨1, some (mXc r22 r23 r25)⟩, ⟨0, none⟩]) rfl siz26 rfl rfl rfl aR rfl rfl rfl rfl (Nat.le_of_ble_eq_true rfl) rfl rfl ?_
        refine za (r := b false) ?_
        refine zN ?_
        refine RunC.nil_cell (l' := [i64 0, i64 0, oref 3 1 0 0]) (Γ' := [⟨1, some [i64 0, i64 0, oref 3 1 0 0]⟩, ⟨1, some (mXc v18 v19 l20)⟩, ⟨1, some (mXc r22 r23 r25)⟩, ⟨1, some (([] : List F).map f32)⟩]) 0 2 3 rfl rfl rfl rfl rfl ?_
        refine RunC.ret ?_
        cases Option.some.inj h4_
        have hx7_ := hr4 _ rfl
        subst hx7_
        have hq := Option.some.inj h
        have hq := Sum.inl.inj hq
        obtain ⟨hq0, hq⟩ := Prod.mk.inj hq
        obtain ⟨hq1, hq⟩ := Prod.mk.inj hq
        obtain ⟨hq2, hq⟩ := Prod.mk.inj hq
        subst q0
        subst q1
        subst q2
        subst q3
        exact bodyQ.mk (r' := tup [agg [i64 0, i64 0, oref 3 1 0 (([] : List F).length)], b false]) [(3, 1)] (.inr rfl) rfl (show List.Nodup [3] from by decide) rfl rfl (Res.eq (Res.two rfl (RV.cell agg26 siz26 rfl rfl rfl rfl) (RV.tmp rfl)) (by rw [(show ([] : List F).length = 0 from rfl)] <;> rfl)) (SelL.arr0 (f := f32) (fun _ => rfl) rfl trivial)
      ·refine RunC.regionW ?_
       refine zm (r := i64 x21) ?_
       refine zl (r := b false) (LOp.eqb (LOp.gtr rfl rfl rfl) hc14) ?_
       refine zN ?_
       refine RunC.cond_false rfl rfl ?_
       refine RunC.skip ?_
       cases Option.some.inj h4_
       exact ⟨_, rfl, (Le.of ⟨aR, aR, aR, aR, trivial⟩ ⟨⟨rfl, .inr rfl⟩, ⟨rfl, .inr rfl⟩, ⟨rfl, .inr rfl⟩, ⟨rfl, .inr rfl⟩, trivial⟩)⟩
    ·refine RunC.regionW ?_
     refine zm (r := i64 v12) ?_
     refine zl (r := b false) (LOp.eqb (LOp.gtr rfl rfl rfl) hc6) ?_
     refine zN ?_
     refine RunC.cond_false rfl rfl ?_
     refine RunC.exit ?_
     cases Option.some.inj h4_
     have hx := ho4 _ rfl
     exact ⟨v6, v7, l8, (Le.of ⟨aR, aR, trivial⟩ ⟨⟨rfl, .inr rfl⟩, ⟨rfl, .inr rfl⟩, ⟨rfl, .inl rfl⟩, ⟨rfl, .inr rfl⟩, trivial⟩), hx⟩
   ·rintro τ8 Γ8 ⟨v26, v27, l28, hw8, rfl⟩
    refine RunC.le hw8 ?_
    replace h : i_PowerMatrix_k3 v26 v27 l28 = some (Sum.inl (q0, q1, q2, q3)) := h
    unfold i_PowerMatrix_k3 at h
    refine zQ ?_
    refine ROps.d (r := agg (mXc v26 v27 l28)) (fs := []) (Γ' := [⟨1, some zMx⟩, ⟨1, some (mXc v26 v27 l28)⟩, ⟨1, none⟩, ⟨0, none⟩]) rfl rfl rfl (TOp.loadAgg_o rfl agg26 siz26 rfl rfl rfl rfl) rfl ?_
    refine ROps.store_le (r := agg (mXc v26 v27 l28)) (l' := (mXc v26 v27 l28)) (Γ' := [⟨1, some (mXc v26 v27 l28)⟩, ⟨1, some (mXc v26 v27 l28)⟩, ⟨1, none⟩, ⟨0, none⟩]) rfl siz26 rfl rfl rfl aR rfl rfl rfl rfl (Nat.le_of_ble_eq_true rfl) rfl rfl ?_
    refine za (r := b true) ?_
    refine zN ?_
    cases Option.some.inj h
  ·refine RunC.regionW ?_
   refine zl (r := agg (mXc a0 a1 a2)) (LOp.loadAgg agg26 siz26 rfl rfl rfl rfl) ?_
   refine ROps.d (r := b true) (fs := []) (Γ' := [⟨1, some zMx⟩, ⟨0, none⟩, ⟨0, none⟩, ⟨0, none⟩]) rfl rfl rfl (TOp.eqb (TOp.callB (CallAs.func ent116 rfl rfl) (Bors.cons (Bor.agg (Bors.cons (Bor.pure rfl) (Bors.cons (Bor.pure rfl) (Bors.cons (Bor.sl (fun _ => rfl)) Bors.nil)))) Bors.nil) rfl rfl (i_isSquare_ok a0 a1 a2 r1 hf1)) hc2) rfl ?_
   refine zl (r := b false) (LOp.eqb (LOp.not rfl rfl) rfl) ?_
   refine zm (r := b false) ?_
   refine zm (r := i64 a3) ?_
   refine ROps.d (r := b false) (fs := []) (Γ' := [⟨1, some zMx⟩, ⟨0, none⟩, ⟨0, none⟩, ⟨0, none⟩]) rfl rfl rfl (TOp.eqb (TOp.callB (CallAs.func ent65 rfl rfl) (Bors.cons (Bor.pure rfl) (Bors.cons (Bor.pure rfl) (Bors.cons (Bor.pure rfl) Bors.nil))) rfl rfl (i_inRange_ok a3 0 64 r2 hf3)) hc4) rfl ?_
   refine zl (r := b true) (LOp.eqb (LOp.not rfl rfl) rfl) ?_
   refine zl (r := b true) (LOp.pick_false rfl rfl rfl) ?_
   refine zN ?_
   refine RunC.cond_true rfl rfl ?_
   refine zQ ?_
   refine zl (r := agg zMx) (LOp.build (qs := []) zer26 zok26 und26 plc26 rfl trivial rfl) ?_
   refine ROps.store_le (r := agg zMx) (l' := zMx) (Γ' := [⟨1, some zMx⟩, ⟨0, none⟩, ⟨0, none⟩, ⟨0, none⟩]) rfl siz26 rfl rfl rfl aR rfl rfl rfl rfl (Nat.le_of_ble_eq_true rfl) rfl rfl ?_
   refine za (r := b false) ?_
   refine zN ?_
   refine RunC.nil_cell (l' := [i64 0, i64 0, oref 1 1 0 0]) (Γ' := [⟨1, some [i64 0, i64 0, oref 1 1 0 0]⟩, ⟨1, some (([] : List F).map f32)⟩, ⟨0, none⟩, ⟨0, none⟩]) 0 2 1 rfl rfl rfl rfl rfl ?_
   refine RunC.ret ?_
   have hq := Option.some.inj h
   have hq := Sum.inl.inj hq
   obtain ⟨hq0, hq⟩ := Prod.mk.inj hq
   obtain ⟨hq1, hq⟩ := Prod.mk.inj hq
   obtain ⟨hq2, hq⟩ := Prod.mk.inj hq
   subst q0
   subst q1
   subst q2
   subst q3
   exact bodyQ.mk (r' := tup [agg [i64 0, i64 0, oref 1 1 0 (([] : List F).length)], b false]) [(1, 1)] (.inr rfl) rfl (show List.Nodup [1] from by decide) rfl rfl (Res.eq (Res.two rfl (RV.cell agg26 siz26 rfl rfl rfl rfl) (RV.tmp rfl)) (by rw [(show ([] : List F).length = 0 from rfl)] <;> rfl)) (SelL.arr0 (f := f32) (fun _ => rfl) rfl trivial)
 ·refine RunC.regionW ?_
  refine zl (r := agg (mXc a0 a1 a2)) (LOp.loadAgg agg26 siz26 rfl rfl rfl rfl) ?_
  refine ROps.d (r := b false) (fs := []) (Γ' := [⟨1, some zMx⟩, ⟨0, none⟩, ⟨0, none⟩, ⟨0, none⟩]) rfl rfl rfl (TOp.eqb (TOp.callB (CallAs.func ent116 rfl rfl) (Bors.cons (Bor.agg (Bors.cons (Bor.pure rfl) (Bors.cons (Bor.pure rfl) (Bors.cons (Bor.sl (fun _ => rfl)) Bors.nil)))) Bors.nil) rfl rfl (i_isSquare_ok a0 a1 a2 r1 hf1)) hc2) rfl ?_
  refine zl (r := b true) (LOp.eqb (LOp.not rfl rfl) rfl) ?_
  refine zm (r := b true) ?_
  iterate 3 (refine ROps.s rfl rfl rfl ?_)
  refine zl (r := b true) (LOp.pick_true rfl rfl rfl) ?_
  refine zN ?_
  refine RunC.cond_true rfl rfl ?_
  refine zQ ?_
  refine zl (r := agg zMx) (LOp.build (qs := []) zer26 zok26 und26 plc26 rfl trivial rfl) ?_
  refine ROps.store_le (r := agg zMx) (l' := zMx) (Γ' := [⟨1, some zMx⟩, ⟨0, none⟩, ⟨0, none⟩, ⟨0, none⟩]) rfl siz26 rfl rfl rfl aR rfl rfl rfl rfl (Nat.le_of_ble_eq_true rfl) rfl rfl ?_
  refine za (r := b false) ?_
  refine zN ?_
  refine RunC.nil_cell (l' := [i64 0, i64 0, oref 1 1 0 0]) (Γ' := [⟨1, some [i64 0, i64 0, oref 1 1 0 0]⟩, ⟨1, some (([] : List F).map f32)⟩, ⟨0, none⟩, ⟨0, none⟩]) 0 2 1 rfl rfl rfl rfl rfl ?_
  refine RunC.ret ?_
  have hq := Option.some.inj h
  have hq := Sum.inl.inj hq
  obtain ⟨hq0, hq⟩ := Prod.mk.inj hq
  obtain ⟨hq1, hq⟩ := Prod.mk.inj hq
  obtain ⟨hq2, hq⟩ := Prod.mk.inj hq
  subst q0
  subst q1
  subst q2
  subst q3
  exact bodyQ.mk (r' := tup [agg [i64 0, i64 0, oref 1 1 0 (([] : List F).length)], b false]) [(1, 1)] (.inr rfl) rfl (show List.Nodup [1] from by decide) rfl rfl (Res.eq (Res.two rfl (RV.cell agg26 siz26 rfl rfl rfl rfl) (RV.tmp rfl)) (by rw [(show ([] : List F).length = 0 from rfl)] <;> rfl)) (SelL.arr0 (f := f32) (fun _ => rfl) rfl trivial)
theorem i_PowerMatrix_ok1 (a0 : Int) (a1 : Int) (a2 : List F) (a3 : Int) (q0 : Int) (q1 : Int) (q2 : List F) (q3 : Bool) (h : i_PowerMatrix a0 a1 a2 a3 = some (Sum.inr (q0, q1, q2, q3))) : Ev Try.prog 45 [agg (mXc a0 a1 a2), i64 a3] [] (tup [agg (mXc q0 q1 q2), b q3]) [] := by
 refine Ev.start Try.func45 rfl rfl 4 (τ := [(0, agg (mXc a0 a1 a2)), (1, i64 a3)]) rfl (Γ' := [⟨0, none⟩, ⟨0, none⟩, ⟨0, none⟩, ⟨0, none⟩]) rfl (n := 101) rfl (g := 0) rfl (fun _ => rfl) ?_
 unfold i_PowerMatrix at h
 refine zQ ?_
 refine ROps.d (r := ptr (mXc a0 a1 a2)) (fs := []) (Γ' := [⟨0, none⟩, ⟨0, none⟩, ⟨0, none⟩, ⟨0, none⟩]) rfl rfl rfl (TOp.box_s rfl rfl rfl) rfl ?_
 refine ROps.d (r := optr 0 1 0) (fs := [(0, zMx)]) (Γ' := [⟨1, some zMx⟩, ⟨0, none⟩, ⟨0, none⟩, ⟨0, none⟩]) rfl rfl rfl (TOp.alloc_o (g := ⟨0, none⟩) 0 rfl zer26 zok26 rfl) rfl ?_
 refine za (r := b false) ?_
 refine zN ?_
 iterate 2 (refine RunC.seq ?_)
 obtain ⟨r1, hf1, h⟩ := obind_some h
 rcases bsel_some h with ⟨hc2, h⟩ | ⟨hc2, h⟩
 ·obtain ⟨r2, hf3, h⟩ := obind_some h
  rcases bsel_some h with ⟨hc4, h⟩ | ⟨hc4, h⟩
  ·refine RunC.regionW ?_
   refine zl (r := agg (mXc a0 a1 a2)) (LOp.loadAgg agg26 siz26 rfl rfl rfl rfl) ?_
   refine ROps.d (r := b true) (fs := []) (Γ' := [⟨1, some zMx⟩, ⟨0, none⟩, ⟨0, none⟩, ⟨0, none⟩]) rfl rfl rfl (TOp.eqb (TOp.callB (CallAs.func ent116 rfl rfl) (Bors.cons (Bor.agg (Bors.cons (Bor.pure rfl) (Bors.cons (Bor.pure rfl) (Bors.cons (Bor.sl (fun _ => rfl)) Bors.nil)))) Bors.nil) rfl rfl (i_isSquare_ok a0 a1 a2 r1 hf1)) hc2) rfl ?_
   refine zl (r := b false) (LOp.eqb (LOp.not rfl rfl) rfl) ?_
   refine zm (r := b false) ?_
   refine zm (r := i64 a3) ?_
   refine ROps.d (r := b true) (fs := []) (Γ' := [⟨1, some zMx⟩, ⟨0, none⟩, ⟨0, none⟩, ⟨0, none⟩]) rfl rfl rfl (TOp.eqb (TOp.callB (CallAs.func ent65 rfl rfl) (Bors.cons (Bor.pure rfl) (Bors.cons (Bor.pure rfl) (Bors.cons (Bor.pure rfl) Bors.nil))) rfl rfl (i_inRange_ok a3 0 64 r2 hf3)) hc4) rfl ?_
   refine zl (r := b false) (LOp.eqb (LOp.not rfl rfl) rfl) ?_
   refine zl (r := b false) (LOp.pick_false rfl rfl rfl) ?_
   refine zN ?_
   refine RunC.cond_false rfl rfl ?_
   refine RunC.skip ?_
   refine RunC.seq ?_
   obtain ⟨r3, r4, r5, hf5, h⟩ := obind3_some h
   refine RunC.region_draw (Γ' := [⟨1, some zMx⟩, ⟨1, some zMx⟩, ⟨1, some zMx⟩, ⟨0, none⟩]) 6 mixed 
    (TR.l (r := ptr (mXc a0 a1 a2)) rfl rfl (LOp.fap und26 rfl siz2 rfl rfl rfl) <|
    (TR.l (r := i64 a0) rfl rfl (LOp.load1 agg2 rfl rfl) <|
    (TR.d (r := agg (mXc r3 r4 r5)) (fs := []) rfl rfl (TOp.callS (CallAs.func ent68 rfl rfl) (ALes.cons aR ALes.nil) (lts_cons rfl lts_nil) (lt_agg (lts_cons rfl (lts_cons rfl (lts_cons (lt_sl (fun _ => rfl)) lts_nil)))) (i_unit_ok a0 r3 r4 r5 hf5) (Bor.agg (Bors.cons (Bor.pure rfl) (Bors.cons (Bor.pure rfl) (Bors.cons (Bor.own (f := f32) (fun _ => rfl) rfl rfl) Bors.nil))))) <|
    (TR.loose (r := agg (mXc a0 a1 a2)) rfl rfl (LOp.loadAgg agg26 siz26 rfl rfl rfl rfl) <|
    (TR.d (r := optr 1 1 0) (fs := [(1, zMx)]) rfl rfl (TOp.alloc_o (g := ⟨0, none⟩) 1 rfl zer26 zok26 rfl) <|
    (TR.d (r := optr 2 1 0) (fs := [(2, zMx)]) rfl rfl (TOp.alloc_o (g := ⟨0, none⟩) 2 rfl zer26 zok26 rfl) <|
    TR.nil)))))) rfl (by kernel_rfl) rfl (fills_of (by show List.Nodup [1, 2]; decide) ⟨⟨_, rfl⟩, ⟨_, rfl⟩, trivial⟩) rfl ?_
   iterate 6 refine ROps.dropS ?_
   refine ROps.drop0 ?_
   refine ROps.store_le (r := agg (mXc r3 r4 r5)) (l' := (mXc r3 r4 r5)) (Γ' := [⟨1, some zMx⟩, ⟨1, some (mXc r3 r4 r5)⟩, ⟨1, some zMx⟩, ⟨0, none⟩]) rfl siz26 rfl rfl rfl aR rfl rfl rfl rfl (Nat.le_of_ble_eq_true rfl) rfl rfl ?_
   refine ROps.store_le (r := agg (mXc a0 a1 a2)) (l' := (mXc a0 a1 a2)) (Γ' := [⟨1, some zMx⟩, ⟨1, some (mXc r3 r4 r5)⟩, ⟨1, some (mXc a0 a1 a2)⟩, ⟨0, none⟩]) rfl siz26 rfl rfl rfl aR rfl rfl rfl rfl (Nat.le_of_ble_eq_true rfl) rfl rfl ?_
   refine za (r := b true) ?_
   refine zN ?_
   refine RunC.wl (τ' := [(1, i64 a3), (4, optr 0 1 0), (6, optr 1 1 0), (7, optr 2 1 0)]) (Γ' := [⟨1, some zMx⟩, ⟨1, some (mXc r3 r4 r5)⟩, ⟨1, some (mXc a0 a1 a2)⟩, ⟨0, none⟩]) ⟨aR, aR, aR, aR, trivial⟩ ⟨⟨rfl, .inr rfl⟩, ⟨rfl, .inr rfl⟩, ⟨rfl, .inr rfl⟩, ⟨rfl, .inr rfl⟩, trivial⟩ ?_
   refine RunC.seq ?_
   obtain ⟨z9, hz_9, h⟩ := obind_some h
   refine RunC.cutN (fun τ Γ => ∃ (v26 : Int) (v27 : Int) (l28 : List F), Le 101 τ Γ [(4, optr 0 1 0), (6, optr 1 1 0)] [⟨1, some zMx⟩, ⟨1, some (mXc v26 v27 l28)⟩, ⟨1, none⟩, ⟨0, none⟩] ∧ z9 = .inl (v26, v27, l28)) ?_ ?_
   ·refine RunC.block (RunC.loop (RunL.loopM (x := z9) (i_PowerMatrix_s3) (fun (s : Int × Int × (List F) × Int × Int × (List F) × Int) τ Γ => Le 101 τ Γ [(1, i64 s.2.2.2.2.2.2), (4, optr 0 1 0), (6, optr 1 1 0), (7, optr 2 1 0)] [⟨1, some zMx⟩, ⟨1, some [i64 s.1, i64 s.2.1, sl s.2.2.1.length (s.2.2.1.map f32)]⟩, ⟨1, some [i64 s.2.2.2.1, i64 s.2.2.2.2.1, sl s.2.2.2.2.2.1.length (s.2.2.2.2.2.1.map f32)]⟩, ⟨0, none⟩]) ?_ _ _ _ hz_9 (Le.of ⟨aR, aR, aR, aR, trivial⟩ ⟨⟨rfl, .inr rfl⟩, ⟨rfl, .inr rfl⟩, ⟨rfl, .inr rfl⟩, ⟨rfl, .inr rfl⟩, trivial⟩)))
    rintro ⟨v6, v7, l8, v9, v10, l11, v12⟩ τ9 Γ9 y9_ hw9 h9_ ho9 hr9
    refine RunC.le (τ' := [(1, i64 v12), (4, optr 0 1 0), (6, optr 1 1 0), (7, optr 2 1 0)]) (Γ' := [⟨1, some zMx⟩, ⟨1, some (mXc v6 v7 l8)⟩, ⟨1, some (mXc v9 v10 l11)⟩, ⟨0, none⟩]) hw9 ?_
    replace h9_ : i_PowerMatrix_b3 v6 v7 l8 v9 v10 l11 v12 = some y9_ := h9_
    unfold i_PowerMatrix_b3 at h9_
    iterate 2 (refine RunC.seq ?_)
    rcases bsel_some h9_ with ⟨hc6, h9_⟩ | ⟨hc6, h9_⟩
    ·refine RunC.regionW ?_
     refine zm (r := i64 v12) ?_
     refine zl (r := b true) (LOp.eqb (LOp.gtr rfl rfl rfl) hc6) ?_
     refine zN ?_
     refine RunC.cond_true rfl rfl ?_
     refine RunC.skip ?_
     refine RunC.block ?_
     refine RunC.seq ?_
     refine RunC.cutN (fun τ Γ => ∃ (v18 : Int) (v19 : Int) (l20 : List F), Le 101 τ Γ [(1, i64 v12), (4, optr 0 1 0), (6, optr 1 1 0), (7, optr 2 1 0)] [⟨1, some zMx⟩, ⟨1, some (mXc v18 v19 l20)⟩, ⟨1, some (mXc v9 v10 l11)⟩, ⟨0, none⟩] ∧ i_PowerMatrix_k2 v9 v10 l11 v12 v18 v19 l20 = some y9_) ?_ ?_
     ·refine RunC.seq ?_
      obtain ⟨hz7, h9_⟩ := need_some h9_
      obtain ⟨x13, hx8, h9_⟩ := olet_some h9_
      rcases bsel_some h9_ with ⟨hc9, h9_⟩ | ⟨hc9, h9_⟩
      ·refine RunC.regionW ?_
       refine zm (r := i64 v12) ?_
       refine zl (r := i64 x13) (LOp.eqr (LOp.rem rfl rfl rfl (nz hz7)) (congrArg (ik .i64) hx8)) ?_
       refine zl (r := b true) (LOp.eqb (LOp.eql rfl rfl rfl) hc9) ?_
       refine zN ?_
       refine RunC.cond_true rfl rfl ?_
       refine RunC.seq ?_
       obtain ⟨r14, r15, r16, r17, hf10, h9_⟩ := obind4_some h9_
       rcases bsel_some h9_ with ⟨hc11, h9_⟩ | ⟨hc11, h9_⟩
       ·refine RunC.regionW ?_
        refine ROps.d (r := agg (mXc v6 v7 l8)) (fs := []) (Γ' := [⟨1, some zMx⟩, ⟨1, some (mXc v6 v7 l8)⟩, ⟨1, some (mXc v9 v10 l11)⟩, ⟨0, none⟩]) rfl rfl rfl (TOp.loadAgg_o rfl agg26 siz26 rfl rfl rfl rfl) rfl ?_
        refine ROps.d (r := agg (mXc v9 v10 l11)) (fs := []) (Γ' := [⟨1, some zMx⟩, ⟨1, some (mXc v6 v7 l8)⟩, ⟨1, some (mXc v9 v10 l11)⟩, ⟨0, none⟩]) rfl rfl rfl (TOp.loadAgg_o rfl agg26 siz26 rfl rfl rfl rfl) rfl ?_
        refine ROps.d (r := tup [agg (mXc r14 r15 r17), b r16]) (fs := []) (Γ' := [⟨1, some zMx⟩, ⟨1, some (mXc v6 v7 l8)⟩, ⟨1, some (mXc v9 v10 l11)⟩, ⟨0, none⟩]) rfl rfl rfl (TOp.callS (CallAs.func ent11 rfl rfl) (ALes.cons aR (ALes.cons aR ALes.nil)) (lts_cons (lt_agg (lts_cons rfl (lts_cons rfl (lts_cons (lt_sl (fun _ => rfl)) lts_nil)))) (lts_cons (lt_agg (lts_cons rfl (lts_cons rfl (lts_cons (lt_sl (fun _ => rfl)) lts_nil)))) lts_nil)) (lt_tup (lts_cons (lt_agg (lts_cons rfl (lts_cons rfl (lts_cons (lt_sl (fun _ => rfl)) lts_nil)))) (lts_cons rfl lts_nil))) (i_MulMatrices_ok v6 v7 l8 v9 v10 l11 r14 r15 r16 r17 hf10) (Bor.tup (Bors.cons (Bor.agg (Bors.cons (Bor.pure rfl) (Bors.cons (Bor.pure rfl) (Bors.cons (Bor.own (f := f32) (fun _ => rfl) rfl rfl) Bors.nil)))) (Bors.cons (Bor.pure rfl) Bors.nil)))) rfl ?_
        refine zm (r := tup [agg (mXc r14 r15 r17), b r16]) ?_
        refine zl (r := agg (mXc r14 r15 r17)) (LOp.extract rfl rfl rfl) ?_
        refine zl (r := b true) (LOp.eqb (LOp.extract rfl rfl rfl) hc11) ?_
        refine ROps.store_le (r := agg (mXc r14 r15 r17)) (l' := (mXc r14 r15 r17)) (Γ' := [⟨1, some zMx⟩, ⟨1, some (mXc r14 r15 r17)⟩, ⟨1, some (mXc v9 v10 l11)⟩, ⟨0, none⟩]) rfl siz26 rfl rfl rfl aR rfl rfl rfl rfl (Nat.le_of_ble_eq_true rfl) rfl rfl ?_
        refine za (r := b true) ?_
        refine zN ?_
        refine zQ ?_
        refine zm (r := b true) ?_
        refine zl (r := b false) (LOp.eqb (LOp.not rfl rfl) rfl) ?_
        refine zN ?_
        refine RunC.wl (τ' := [(1, i64 v12), (4, optr 0 1 0), (6, optr 1 1 0), (7, optr 2 1 0), (34, b false)]) (Γ' := [⟨1, some zMx⟩, ⟨1, some (mXc r14 r15 r17)⟩, ⟨1, some (mXc v9 v10 l11)⟩, ⟨0, none⟩]) ⟨aR, aR, aR, aR, aR, trivial⟩ ⟨⟨rfl, .inr rfl⟩, ⟨rfl, .inr rfl⟩, ⟨rfl, .inr rfl⟩, ⟨rfl, .inr rfl⟩, trivial⟩ ?_
        refine RunC.cond_false rfl rfl ?_
        refine RunC.skip ?_
        exact ⟨r14, r15, r17, (Le.of ⟨aR, aR, aR, aR, trivial⟩ ⟨⟨rfl, .inr rfl⟩, ⟨rfl, .inr rfl⟩, ⟨rfl, .inr rfl⟩, ⟨rfl, .inr rfl⟩, trivial⟩), h9_⟩
       ·refine RunC.regionW ?_
        refine ROps.d (r := agg (mXc v6 v7 l8)) (fs := []) (Γ' := [⟨1, some zMx⟩, ⟨1, some (mXc v6 v7 l8)⟩, ⟨1, some (mXc v9 v10 l11)⟩, ⟨0, none⟩]) rfl rfl rfl (TOp.loadAgg_o rfl agg26 siz26 rfl rfl rfl rfl) rfl ?_
        refine ROps.d (r := agg (mXc v9 v10 l11)) (fs := []) (Γ' := [⟨1, some zMx⟩, ⟨1, some (mXc v6 v7 l8)⟩, ⟨1, some (mXc v9 v10 l11)⟩, ⟨0, none⟩]) rfl rfl rfl (TOp.loadAgg_o rfl agg26 siz26 rfl rfl rfl rfl) rfl ?_
        refine ROps.d (r := tup [agg (mXc r14 r15 r17), b r16]) (fs := []) (Γ' := [⟨1, some zMx⟩, ⟨1, some (mXc v6 v7 l8)⟩, ⟨1, some (mXc v9 v10 l11)⟩, ⟨0, none⟩]) rfl rfl rfl (TOp.callS (CallAs.func ent11 rfl rfl) (ALes.cons aR (ALes.cons aR ALes.nil)) (lts_cons (lt_agg (lts_cons rfl (lts_cons rfl (lts_cons (lt_sl (fun _ => rfl)) lts_nil)))) (lts_cons (lt_agg (lts_cons rfl (lts_cons rfl (lts_cons (lt_sl (fun _ => rfl)) lts_nil)))) lts_nil)) (lt_tup (lts_cons (lt_agg (lts_cons rfl (lts_cons rfl (lts_cons (lt_sl (fun _ => rfl)) lts_nil)))) (lts_cons rfl lts_nil))) (i_MulMatrices_ok v6 v7 l8 v9 v10 l11 r14 r15 r16 r17 hf10) (Bor.tup (Bors.cons (Bor.agg (Bors.cons (Bor.pure rfl) (Bors.cons (Bor.pure rfl) (Bors.cons (Bor.own (f := f32) (fun _ => rfl) rfl rfl) Bors.nil)))) (Bors.cons (Bor.pure rfl) Bors.nil)))) rfl ?_
        refine zm (r := tup [agg (mXc r14 r15 r17), b r16]) ?_
        refine zl (r := agg (mXc r14 r15 r17)) (LOp.extract rfl rfl rfl) ?_
        refine zl (r := b false) (LOp.eqb (LOp.extract rfl rfl rfl) hc11) ?_
        refine ROps.store_le (r := agg (mXc r14 r15 r17)) (l' := (mXc r14 r15 r17)) (Γ' := [⟨1, some zMx⟩, ⟨1, some (mXc r14 r15 r17)⟩, ⟨1, some (mXc v9 v10 l11)⟩, ⟨0, none⟩]) rfl siz26 rfl rfl rfl aR rfl rfl rfl rfl (Nat.le_of_ble_eq_true rfl) rfl rfl ?_
        refine za (r := b false) ?_
        refine zN ?_
        refine zQ ?_
        refine zm (r := b false) ?_
        refine zl (r := b true) (LOp.eqb (LOp.not rfl rfl) rfl) ?_
        refine zN ?_
        refine RunC.wl (τ' := [(1, i64 v12), (4, optr 0 1 0), (6, optr 1 1 0), (7, optr 2 1 0), (34, b true)]) (Γ' := [⟨1, some zMx⟩, ⟨1, some (mXc r14 r15 r17)⟩, ⟨1, some (mXc v9 v10 l11)⟩, ⟨0, none⟩]) ⟨aR, aR, aR, aR, aR, trivial⟩ ⟨⟨rfl, .inr rfl⟩, ⟨rfl, .inr rfl⟩, ⟨rfl, .inr rfl⟩, ⟨rfl, .inr rfl⟩, trivial⟩ ?_
        refine RunC.cond_true rfl rfl ?_
        refine zQ ?_
        refine zl (r := agg zMx) (LOp.build (qs := []) zer26 zok26 und26 plc26 rfl trivial rfl) ?_
        refine ROps.store_le (r := agg zMx) (l' := zMx) (Γ' := [⟨1, some zMx⟩, ⟨1, some (mXc r14 r15 r17)⟩, ⟨1, some (mXc v9 v10 l11)⟩, ⟨0, none⟩]) rfl siz26 rfl rfl rfl aR rfl rfl rfl rfl (Nat.le_of_ble_eq_true rfl) rfl rfl ?_
        refine za (r := b false) ?_
        refine zN ?_
        cases Option.some.inj h9_
        have hx10_ := hr9 _ rfl
        subst hx10_
        cases Option.some.inj h
      ·refine RunC.regionW ?_
       refine zm (r := i64 v12) ?_
       refine zl (r := i64 x13) (LOp.eqr (LOp.rem rfl rfl rfl (nz hz7)) (congrArg (ik .i64) hx8)) ?_
       refine zl (r := b false) (LOp.eqb (LOp.eql rfl rfl rfl) hc9) ?_
       refine zN ?_
       refine RunC.cond_false rfl rfl ?_
       refine RunC.skip ?_
       exact ⟨v6, v7, l8, (Le.of ⟨aR, aR, aR, aR, trivial⟩ ⟨⟨rfl, .inr rfl⟩, ⟨rfl, .inr rfl⟩, ⟨rfl, .inr rfl⟩, ⟨rfl, .inr rfl⟩, trivial⟩), h9_⟩
     ·rintro τ11 Γ11 ⟨v18, v19, l20, hw11, h9_⟩
      refine RunC.le hw11 ?_
      unfold i_PowerMatrix_k2 at h9_
      refine RunC.seq ?_
      obtain ⟨hz12, h9_⟩ := need_some h9_
      obtain ⟨x21, hx13, h9_⟩ := olet_some h9_
      refine RunC.regionW ?_
      refine zm (r := i64 v12) ?_
      refine zl (r := i64 x21) (LOp.eqr (LOp.quo rfl rfl rfl (nz hz12)) (congrArg (ik .i64) hx13)) ?_
      refine za (r := i64 x21) ?_
      refine zN ?_
      refine RunC.seq ?_
      rcases bsel_some h9_ with ⟨hc14, h9_⟩ | ⟨hc14, h9_⟩
      ·refine RunC.regionW ?_
       refine zm (r := i64 x21) ?_
       refine zl (r := b true) (LOp.eqb (LOp.gtr rfl rfl rfl) hc14) ?_
       refine zN ?_
       refine RunC.cond_true rfl rfl ?_
       refine RunC.seq ?_
       obtain ⟨r22, r23, r24, r25, hf15, h9_⟩ := obind4_some h9_
       rcases bsel_some h9_ with ⟨hc16, h9_⟩ | ⟨hc16, h9_⟩
       ·refine RunC.regionW ?_
        iterate 2 (refine ROps.d (r := agg (mXc v9 v10 l11)) (fs := []) (Γ' := [⟨1, some zMx⟩, ⟨1, some (mXc v18 v19 l20)⟩, ⟨1, some (mXc v9 v10 l11)⟩, ⟨0, none⟩]) rfl rfl rfl (TOp.loadAgg_o rfl agg26 siz26 rfl rfl rfl rfl) rfl ?_)
        refine ROps.d (r := tup [agg (mXc r22 r23 r25), b r24]) (fs := []) (Γ' := [⟨1, some zMx⟩, ⟨1, some (mXc v18 v19 l20)⟩, ⟨1, some (mXc v9 v10 l11)⟩, ⟨0, none⟩]) rfl rfl rfl (TOp.callS (CallAs.func ent11 rfl rfl) (ALes.cons aR (ALes.cons aR ALes.nil)) (lts_cons (lt_agg (lts_cons rfl (lts_cons rfl (lts_cons (lt_sl (fun _ => rfl)) lts_nil)))) (lts_cons (lt_agg (lts_cons rfl (lts_cons rfl (lts_cons (lt_sl (fun _ => rfl)) lts_nil)))) lts_nil)) (lt_tup (lts_cons (lt_agg (lts_cons rfl (lts_cons rfl (lts_cons (lt_sl (fun _ => rfl)) lts_nil)))) (lts_cons rfl lts_nil))) (i_MulMatrices_ok v9 v10 l11 v9 v10 l11 r22 r23 r24 r25 hf15) (Bor.tup (Bors.cons (Bor.agg (Bors.cons (Bor.pure rfl) (Bors.cons (Bor.pure rfl) (Bors.cons (Bor.own (f := f32) (fun _ => rfl) rfl rfl) Bors.nil)))) (Bors.cons (Bor.pure rfl) Bors.nil)))) rfl ?_
        refine zm (r := tup [agg (mXc r22 r23 r25), b r24]) ?_
        refine zl (r := agg (mXc r22 r23 r25)) (LOp.extract rfl rfl rfl) ?_
        refine zl (r := b true) (LOp.eqb (LOp.extract rfl rfl rfl) hc16) ?_
        refine ROps.store_le (r := agg (mXc r22 r23 r25)) (l' := (mXc r22 r23 r25)) (Γ' := [⟨1, some zMx⟩, ⟨1, some (mXc v18 v19 l20)⟩, ⟨1, some (mXc r22 r23 r25)⟩, ⟨0, none⟩]) rfl siz26 rfl rfl rfl aR rfl rfl rfl rfl (Nat.le_of_ble_eq_true rfl) rfl rfl ?_
        refine za (r := b true) ?_
        refine zN ?_
        refine zQ ?_
        refine zm (r := b true) ?_
        refine zl (r := b false) (LOp.eqb (LOp.not rfl rfl) rfl) ?_
        refine zN ?_
        refine RunC.cond_false rfl rfl ?_
        refine RunC.skip ?_
        cases Option.some.inj h9_
        exact ⟨_, rfl, (Le.of ⟨aR, aR, aR, aR, trivial⟩ ⟨⟨rfl, .inr rfl⟩, ⟨rfl, .inr rfl⟩, ⟨rfl, .inr rfl⟩, ⟨rfl, .inr rfl⟩, trivial⟩)⟩
       ·refine RunC.regionW ?_
        iterate 2 (refine ROps.d (r := agg (mXc v9 v10 l11)) (fs := []) (Γ' := [⟨1, some zMx⟩, ⟨1, some (mXc v18 v19 l20)⟩, ⟨1, some (mXc v9 v10 l11)⟩, ⟨0, none⟩]) rfl rfl rfl (TOp.loadAgg_o rfl agg26 siz26 rfl rfl rfl rfl) rfl ?_)
        refine ROps.d (r := tup [agg (mXc r22 r23 r25), b r24]) (fs := []) (Γ' := [⟨1, some zMx⟩, ⟨1, some (mXc v18 v19 l20)⟩, ⟨1, some (mXc v9 v10 l11)⟩, ⟨0, none⟩]) rfl rfl rfl (TOp.callS (CallAs.func ent11 rfl rfl) (ALes.cons aR (ALes.cons aR ALes.nil)) (lts_cons (lt_agg (lts_cons rfl (lts_cons rfl (lts_cons (lt_sl (fun _ => rfl)) lts_nil)))) (lts_cons (lt_agg (lts_cons rfl (lts_cons rfl (lts_cons (lt_sl (fun _ => rfl)) lts_nil)))) lts_nil)) (lt_tup (lts_cons (lt_agg (lts_cons rfl (lts_cons rfl (lts_cons (lt_sl (fun _ => rfl)) lts_nil)))) (lts_cons rfl lts_nil))) (i_MulMatrices_ok v9 v10 l11 v9 v10 l11 r22 r23 r24 r25 hf15) (Bor.tup (Bors.cons (Bor.agg (Bors.cons (Bor.pure rfl) (Bors.cons (Bor.pure rfl) (Bors.cons (Bor.own (f := f32) (fun _ => rfl) rfl rfl) Bors.nil)))) (Bors.cons (Bor.pure rfl) Bors.nil)))) rfl ?_
        refine zm (r := tup [agg (mXc r22 r23 r25), b r24]) ?_
        refine zl (r := agg (mXc r22 r23 r25)) (LOp.extract rfl rfl rfl) ?_
        refine zl (r := b false) (LOp.eqb (LOp.extract rfl rfl rfl) hc16) ?_
        refine ROps.store_le (r := agg (mXc r22 r23 r25)) (l' := (mXc r22 r23 r25)) (Γ' := [⟨1, some zMx⟩, ⟨1, some (mXc v18 v19 l20)⟩, ⟨1, some (mXc r22 r23 r25)⟩, ⟨0, none⟩]) rfl siz26 rfl rfl rfl aR rfl rfl rfl rfl (Nat.le_of_ble_eq_true rfl) rfl rfl ?_
        refine za (r := b false) ?_
        refine zN ?_
        refine zQ ?_
        refine zm (r := b false) ?_
        refine zl (r := b true) (LOp.eqb (LOp.not rfl rfl) rfl) ?_
        refine zN ?_
        refine RunC.cond_true rfl rfl ?_
        refine zQ ?_
        refine zl (r := agg zMx) (LOp.build (qs := []) zer26 zok26 und26 plc26 rfl trivial rfl) ?_
        refine ROps.store_le (r := agg zMx) (l' := zMx) (Γ' := [⟨1, some zMx⟩, ⟨1, some (mXc v18 v19 l20)⟩, ⟨1, some (mXc r22 r23 r25)⟩, ⟨0, none⟩]) rfl siz26 rfl rfl rfl aR rfl rfl rfl rfl (Nat.le_of_ble_eq_true rfl) rfl rfl ?_
        refine za (r := b false) ?_
        refine zN ?_
        cases Option.some.inj h9_
        have hx12_ := hr9 _ rfl
        subst hx12_
        cases Option.some.inj h
      ·refine RunC.regionW ?_
       refine zm (r := i64 x21) ?_
       refine zl (r := b false) (LOp.eqb (LOp.gtr rfl rfl rfl) hc14) ?_
       refine zN ?_
       refine RunC.cond_false rfl rfl ?_
       refine RunC.skip ?_
       cases Option.some.inj h9_
       exact ⟨_, rfl, (Le.of ⟨aR, aR, aR, aR, trivial⟩ ⟨⟨rfl, .inr rfl⟩, ⟨rfl, .inr rfl⟩, ⟨rfl, .inr rfl⟩, ⟨rfl, .inr rfl⟩, trivial⟩)⟩
    ·refine RunC.regionW ?_
     refine zm (r := i64 v12) ?_
     refine zl (r := b false) (LOp.eqb (LOp.gtr rfl rfl rfl) hc6) ?_
     refine zN ?_
     refine RunC.cond_false rfl rfl ?_
     refine RunC.exit ?_
     cases Option.some.inj h9_
     have hx := ho9 _ rfl
     exact ⟨v6, v7, l8, (Le.of ⟨aR, aR, trivial⟩ ⟨⟨rfl, .inr rfl⟩, ⟨rfl, .inr rfl⟩, ⟨rfl, .inl rfl⟩, ⟨rfl, .inr rfl⟩, trivial⟩), hx⟩
   ·rintro τ13 Γ13 ⟨v26, v27, l28, hw13, rfl⟩
    refine RunC.le hw13 ?_
    replace h : i_PowerMatrix_k3 v26 v27 l28 = some (Sum.inr (q0, q1, q2, q3)) := h
    unfold i_PowerMatrix_k3 at h
    refine zQ ?_
    refine ROps.d (r := agg (mXc v26 v27 l28)) (fs := []) (Γ' := [⟨1, some zMx⟩, ⟨1, some (mXc v26 v27 l28)⟩, ⟨1, none⟩, ⟨0, none⟩]) rfl rfl rfl (TOp.loadAgg_o rfl agg26 siz26 rfl rfl rfl rfl) rfl ?_
    refine ROps.store_le (r := agg (mXc v26 v27 l28)) (l' := (mXc v26 v27 l28)) (Γ' := [⟨1, some (mXc v26 v27 l28)⟩, ⟨1, some (mXc v26 v27 l28)⟩, ⟨1, none⟩, ⟨0, none⟩]) rfl siz26 rfl rfl rfl aR rfl rfl rfl rfl (Nat.le_of_ble_eq_true rfl) rfl rfl ?_
    refine za (r := b true) ?_
    refine zN ?_
    refine RunC.ret ?_
    have hq := Option.some.inj h
    have hq := Sum.inr.inj hq
    obtain ⟨hq0, hq⟩ := Prod.mk.inj hq
    obtain ⟨hq1, hq⟩ := Prod.mk.inj hq
    obtain ⟨hq2, hq⟩ := Prod.mk.inj hq
    subst q0
    subst q1
    subst q2
    subst q3
    exact bodyQ.pure (.inr rfl) (lt_tup (lts_cons (lt_agg (lts_cons rfl (lts_cons rfl (lts_cons (lt_sl (fun _ => rfl)) lts_nil)))) (lts_cons rfl lts_nil))) (Res.two rfl (RV.cell agg26 siz26 rfl rfl rfl rfl) (RV.tmp rfl))
  ·refine RunC.regionW ?_
   refine zl (r := agg (mXc a0 a1 a2)) (LOp.loadAgg agg26 siz26 rfl rfl rfl rfl) ?_
   refine ROps.d (r := b true) (fs := []) (Γ' := [⟨1, some zMx⟩, ⟨0, none⟩, ⟨0, none⟩, ⟨0, none⟩]) rfl rfl rfl (TOp.eqb (TOp.callB (CallAs.func ent116 rfl rfl) (Bors.cons (Bor.agg (Bors.cons (Bor.pure rfl) (Bors.cons (Bor.pure rfl) (Bors.cons (Bor.sl (fun _ => rfl)) Bors.nil)))) Bors.nil) rfl rfl (i_isSquare_ok a0 a1 a2 r1 hf1)) hc2) rfl ?_
   refine zl (r := b false) (LOp.eqb (LOp.not rfl rfl) rfl) ?_
   refine zm (r := b false) ?_
   refine zm (r := i64 a3) ?_
   refine ROps.d (r := b false) (fs := []) (Γ' := [⟨1, some zMx⟩, ⟨0, none⟩, ⟨0, none⟩, ⟨0, none⟩]) rfl rfl rfl (TOp.eqb (TOp.callB (CallAs.func ent65 rfl rfl) (Bors.cons (Bor.pure rfl) (Bors.cons (Bor.pure rfl) (Bors.cons (Bor.pure rfl) Bors.nil))) rfl rfl (i_inRange_ok a3 0 64 r2 hf3)) hc4) rfl ?_
   refine zl (r := b true) (LOp.eqb (LOp.not rfl rfl) rfl) ?_
   refine zl (r := b true) (LOp.pick_false rfl rfl rfl) ?_
   refine zN ?_
   refine RunC.cond_true rfl rfl ?_
   refine zQ ?_
   refine zl (r := agg zMx) (LOp.build (qs := []) zer26 zok26 und26 plc26 rfl trivial rfl) ?_
   refine ROps.store_le (r := agg zMx) (l' := zMx) (Γ' := [⟨1, some zMx⟩, ⟨0, none⟩, ⟨0, none⟩, ⟨0, none⟩]) rfl siz26 rfl rfl rfl aR rfl rfl rfl rfl (Nat.le_of_ble_eq_true rfl) rfl rfl ?_
   refine za (r := b false) ?_
   refine zN ?_
   cases Option.some.inj h
 ·refine RunC.regionW ?_
  refine zl (r := agg (mXc a0 a1 a2)) (LOp.loadAgg agg26 siz26 rfl rfl rfl rfl) ?_
  refine ROps.d (r := b false) (fs := []) (Γ' := [⟨1, some zMx⟩, ⟨0, none⟩, ⟨0, none⟩, ⟨0, none⟩]) rfl rfl rfl (TOp.eqb (TOp.callB (CallAs.func ent116 rfl rfl) (Bors.cons (Bor.agg (Bors.cons (Bor.pure rfl) (Bors.cons (Bor.pure rfl) (Bors.cons (Bor.sl (fun _ => rfl)) Bors.nil)))) Bors.nil) rfl rfl (i_isSquare_ok a0 a1 a2 r1 hf1)) hc2) rfl ?_
  refine zl (r := b true) (LOp.eqb (LOp.not rfl rfl) rfl) ?_
  refine zm (r := b true) ?_
  iterate 3 (refine ROps.s rfl rfl rfl ?_)
  refine zl (r := b true) (LOp.pick_true rfl rfl rfl) ?_
  refine zN ?_
  refine RunC.cond_true rfl rfl ?_
  refine zQ ?_
  refine zl (r := agg zMx) (LOp.build (qs := []) zer26 zok26 und26 plc26 rfl trivial rfl) ?_
  refine ROps.store_le (r := agg zMx) (l' := zMx) (Γ' := [⟨1, some zMx⟩, ⟨0, none⟩, ⟨0, none⟩, ⟨0, none⟩]) rfl siz26 rfl rfl rfl aR rfl rfl rfl rfl (Nat.le_of_ble_eq_true rfl) rfl rfl ?_
  refine za (r := b false) ?_
  refine zN ?_
  cases Option.some.inj h
noncomputable def i_UnitMatrix (a0 : Int) : Option (Int × Int × Bool × (List F)) :=
 obind (i_isSide a0) fun (r1 : Bool) =>
 bsel r1 (
  obind3 (i_unit a0) fun (r2 : Int) (r3 : Int) (r4 : List F) =>
  some (r2, r3, true, r4)) (
  some (0, 0, false, ([] : List F)))
theorem i_UnitMatrix_ok (a0 : Int) (q0 : Int) (q1 : Int) (q2 : Bool) (q3 : List F) (h : i_UnitMatrix a0 = some (q0, q1, q2, q3)) : Ev Try.prog 15 [i64 a0] [] (tup [agg (oXc q0 q1 0 0 q3.length), b q2]) [⟨0, some (q3.map f32)⟩] := by
 refine Ev.start Try.func15 rfl rfl 2 (τ := [(0, i64 a0)]) rfl (Γ' := [⟨0, none⟩, ⟨0, none⟩]) rfl (n := 21) rfl (g := 0) rfl (fun _ => rfl) ?_
 unfold i_UnitMatrix at h
 refine zQ ?_
 refine ROps.d (r := optr 0 1 0) (fs := [(0, zMx)]) (Γ' := [⟨1, some zMx⟩, ⟨0, none⟩]) rfl rfl rfl (TOp.alloc_o (g := ⟨0, none⟩) 0 rfl zer26 zok26 rfl) rfl ?_
 refine za (r := b false) ?_
 refine zN ?_
 iterate 2 (refine RunC.seq ?_)
 obtain ⟨r1, hf1, h⟩ := obind_some h
 rcases bsel_some h with ⟨hc2, h⟩ | ⟨hc2, h⟩
 ·refine RunC.regionW ?_
  refine zm (r := i64 a0) ?_
  refine ROps.d (r := b true) (fs := []) (Γ' := [⟨1, some zMx⟩, ⟨0, none⟩]) rfl rfl rfl (TOp.eqb (TOp.callB (CallAs.func ent59 rfl rfl) (Bors.cons (Bor.pure rfl) Bors.nil) rfl rfl (i_isSide_ok a0 r1 hf1)) hc2) rfl ?_
  refine zl (r := b false) (LOp.eqb (LOp.not rfl rfl) rfl) ?_
  refine zN ?_
  refine RunC.cond_false rfl rfl ?_
  refine RunC.skip ?_
  refine RunC.seq ?_
  obtain ⟨r2, r3, r4, hf3, h⟩ := obind3_some h
  refine RunC.regionW ?_
  refine zm (r := i64 a0) ?_
  refine ROps.d (r := agg (oXc r2 r3 1 1 r4.length)) (fs := [(1, (r4.map f32))]) (Γ' := [⟨1, some zMx⟩, ⟨1, some (r4.map f32)⟩]) rfl rfl rfl (TOp.callBN (ls := [(r4.map f32)]) [1] (CallAs.func ent68 rfl rfl) (Bors.cons (Bor.pure rfl) Bors.nil) rfl (i_unit_ok a0 r2 r3 r4 hf3) (and_all (lts0_map (f := f32) (fun _ => rfl) _) rfl) (and_all (noss_map (f := f32) (fun _ => rfl) _) rfl) rfl (by decide) (ns_of ⟨⟨_, rfl⟩, trivial⟩)) rfl ?_
  refine ROps.store_le (r := agg (oXc r2 r3 1 1 r4.length)) (l' := (oXc r2 r3 1 1 r4.length)) (Γ' := [⟨1, some (oXc r2 r3 1 1 r4.length)⟩, ⟨1, some (r4.map f32)⟩]) rfl siz26 rfl rfl rfl aR rfl rfl rfl rfl (Nat.le_of_ble_eq_true rfl) rfl rfl ?_
  refine za (r := b true) ?_
  refine zN ?_
  refine RunC.ret ?_
  have hq := Option.some.inj h
  obtain ⟨hq0, hq⟩ := Prod.mk.inj hq
  obtain ⟨hq1, hq⟩ := Prod.mk.inj hq
  obtain ⟨hq2, hq⟩ := Prod.mk.inj hq
  subst q0
  subst q1
  subst q2
  subst q3
  exact bodyQ.mk (r' := tup [agg (oXc r2 r3 1 1 r4.length), b true]) [(1, 1)] (.inr rfl) rfl (show List.Nodup [1] from by decide) rfl rfl (Res.two rfl (RV.cell agg26 siz26 rfl rfl rfl rfl) (RV.tmp rfl)) (SelL.arr0 (f := f32) (fun _ => rfl) rfl trivial)
 ·refine RunC.regionW ?_
  refine zm (r := i64 a0) ?_
  refine ROps.d (r := b false) (fs := []) (Γ' := [⟨1, some zMx⟩, ⟨0, none⟩]) rfl rfl rfl (TOp.eqb (TOp.callB (CallAs.func ent59 rfl rfl) (Bors.cons (Bor.pure rfl) Bors.nil) rfl rfl (i_isSide_ok a0 r1 hf1)) hc2) rfl ?_
  refine zl (r := b true) (LOp.eqb (LOp.not rfl rfl) rfl) ?_
  refine zN ?_
  refine RunC.cond_true rfl rfl ?_
  refine zQ ?_
  refine zl (r := agg zMx) (LOp.build (qs := []) zer26 zok26 und26 plc26 rfl trivial rfl) ?_
  refine ROps.store_le (r := agg zMx) (l' := zMx) (Γ' := [⟨1, some zMx⟩, ⟨0, none⟩]) rfl siz26 rfl rfl rfl aR rfl rfl rfl rfl (Nat.le_of_ble_eq_true rfl) rfl rfl ?_
  refine za (r := b false) ?_
  refine zN ?_
  refine RunC.nil_cell (l' := [i64 0, i64 0, oref 1 1 0 0]) (Γ' := [⟨1, some [i64 0, i64 0, oref 1 1 0 0]⟩, ⟨1, some (([] : List F).map f32)⟩]) 0 2 1 rfl rfl rfl rfl rfl ?_
  refine RunC.ret ?_
  have hq := Option.some.inj h
  obtain ⟨hq0, hq⟩ := Prod.mk.inj hq
  obtain ⟨hq1, hq⟩ := Prod.mk.inj hq
  obtain ⟨hq2, hq⟩ := Prod.mk.inj hq
  subst q0
  subst q1
  subst q2
  subst q3
  exact bodyQ.mk (r' := tup [agg [i64 0, i64 0, oref 1 1 0 (([] : List F).length)], b false]) [(1, 1)] (.inr rfl) rfl (show List.Nodup [1] from by decide) rfl rfl (Res.eq (Res.two rfl (RV.cell agg26 siz26 rfl rfl rfl rfl) (RV.tmp rfl)) (by rw [(show ([] : List F).length = 0 from rfl)] <;> rfl)) (SelL.arr0 (f := f32) (fun _ => rfl) rfl trivial)
noncomputable def i_Matrix_trace_b1 (a0 : Int) (a1 : Int) (a2 : List F) (y1 : F) (v2 : Int) : Option (LR (F × Int) (F) (F)) :=
 bsel (decide (v2 < a0)) (
  obind (i_Matrix_at a0 a1 a2 v2 v2) fun (r3 : F) =>
  olet (fop .add .f32 y1 r3) fun (x4 : F) =>
  olet (IntKind.i64.wrap (v2 + 1)) fun (x5 : Int) =>
  some (LR.next (x4, x5))) (
  some (LR.out y1))
noncomputable def i_Matrix_trace_s1 (a0 : Int) (a1 : Int) (a2 : List F) : (F × Int) → Option (LR (F × Int) (F) (F)) := fun s => i_Matrix_trace_b1 a0 a1 a2 s.1 s.2
noncomputable def i_Matrix_trace_k1 (y6 : F) : Option (F) :=
 some y6
noncomputable def i_Matrix_trace (a0 : Int) (a1 : Int) (a2 : List F) : Option (F) :=
 obind (loopM (i_Matrix_trace_s1 a0 a1 a2) (some 0, 0)) fun z => osum z (fun e => i_Matrix_trace_k1 e) (fun r => some r)
theorem i_Matrix_trace_ok (a0 : Int) (a1 : Int) (a2 : List F) (q0 : F) (h : i_Matrix_trace a0 a1 a2 = some q0) : Ev Try.prog 118 [agg (mXc a0 a1 a2)] [] (f32 q0) [] := by
 refine Ev.start Try.func118 rfl rfl 0 (τ := [(0, agg (mXc a0 a1 a2))]) rfl (Γ' := []) rfl (n := 37) rfl (g := 0) rfl (fun _ => rfl) ?_
 unfold i_Matrix_trace at h
 refine zQ ?_
 refine ROps.d (r := ptr (mXc a0 a1 a2)) (fs := []) (Γ' := []) rfl rfl rfl (TOp.box_s rfl rfl rfl) rfl ?_
 refine zl (r := f32 (some 0)) (LOp.le (LOp.assign rfl rfl) (ALe.fl (by kernel_rfl) (by kernel_rfl))) ?_
 refine zN ?_
 refine zQ ?_
 refine zl (r := f32 (some 0)) (LOp.le (LOp.assign rfl rfl) (ALe.fl (by kernel_rfl) (by kernel_rfl))) ?_
 refine zN ?_
 refine RunC.seq ?_
 refine zQ ?_
 refine zl (r := ptr (mXc a0 a1 a2)) (LOp.fap und26 rfl siz2 rfl rfl rfl) ?_
 refine zl (r := i64 a0) (LOp.load1 agg2 rfl rfl) ?_
 refine zm (r := i64 0) ?_
 refine zN ?_
 obtain ⟨z2, hz_2, h⟩ := obind_some h
 refine RunC.cutN (fun τ Γ => ∃ (y6 : F), WeakLe τ [(3, f32 y6)] ∧ DeadLe Γ [] ∧ z2 = .inl y6) ?_ ?_
 ·refine RunC.block (RunC.loop (RunL.loopM (x := z2) (i_Matrix_trace_s1 a0 a1 a2) (fun (s : F × Int) τ Γ => WeakLe τ [(1, ptr (mXc a0 a1 a2)), (3, f32 s.1), (6, i64 a0), (7, i64 s.2)] ∧ DeadLe Γ []) ?_ _ _ _ hz_2 ⟨⟨aR, aR, aR, aR, trivial⟩, trivial⟩))
  rintro ⟨y1, v2⟩ τ2 Γ2 y2_ ⟨hw2, hd2⟩ h2_ ho2 hr2
  refine RunC.wl (τ' := [(1, ptr (mXc a0 a1 a2)), (3, f32 y1), (6, i64 a0), (7, i64 v2)]) (Γ' := []) hw2 hd2 ?_
  replace h2_ : i_Matrix_trace_b1 a0 a1 a2 y1 v2 = some y2_ := h2_
  unfold i_Matrix_trace_b1 at h2_
  refine RunC.seq ?_
  rcases bsel_some h2_ with ⟨hc1, h2_⟩ | ⟨hc1, h2_⟩
  ·refine RunC.regionW ?_
   refine zl (r := b true) (LOp.eqb (LOp.lss rfl rfl rfl) hc1) ?_
   refine zN ?_
   refine RunC.seq ?_
   refine RunC.cond_true rfl rfl ?_
   refine RunC.skip ?_
   refine RunC.seq ?_
   refine RunC.block ?_
   refine zQ ?_
   refine zm (r := i64 v2) ?_
   refine za (r := i64 v2) ?_
   refine zN ?_
   obtain ⟨r3, hf2, h2_⟩ := obind_some h2_
   obtain ⟨x4, hx3, h2_⟩ := olet_some h2_
   refine RunC.regionW ?_
   refine zm (r := f32 y1) ?_
   refine zl (r := agg (mXc a0 a1 a2)) (LOp.loadAgg agg26 siz26 rfl rfl rfl rfl) ?_
   iterate 2 (refine zm (r := i64 v2) ?_)
   refine ROps.d (r := f32 r3) (fs := []) (Γ' := []) rfl rfl rfl (TOp.callB (CallAs.func ent76 rfl rfl) (Bors.cons (Bor.agg (Bors.cons (Bor.pure rfl) (Bors.cons (Bor.pure rfl) (Bors.cons (Bor.sl (fun _ => rfl)) Bors.nil)))) (Bors.cons (Bor.pure rfl) (Bors.cons (Bor.pure rfl) Bors.nil))) rfl rfl (i_Matrix_at_ok a0 a1 a2 v2 v2 r3 hf2)) rfl ?_
   refine ROps.d (r := f32 x4) (fs := []) (Γ' := []) rfl rfl rfl (TOp.eqr (TOp.fop (.inl rfl) rfl (OpF.tmp rfl) (OpF.tmp rfl)) (congrArg (f .f32) hx3)) rfl ?_
   refine za (r := f32 x4) ?_
   refine zN ?_
   obtain ⟨x5, hx4, h2_⟩ := olet_some h2_
   refine RunC.regionW ?_
   refine zl (r := i64 x5) (LOp.eqr (LOp.add rfl rfl rfl) (congrArg (ik .i64) hx4)) ?_
   refine zm (r := i64 x5) ?_
   refine zN ?_
   cases Option.some.inj h2_
   exact ⟨_, rfl, ⟨aR, aR, aR, aR, trivial⟩, trivial⟩
  ·refine RunC.regionW ?_
   refine zl (r := b false) (LOp.eqb (LOp.lss rfl rfl rfl) hc1) ?_
   refine zN ?_
   refine RunC.seq ?_
   refine RunC.cond_false rfl rfl ?_
   refine RunC.exit ?_
   cases Option.some.inj h2_
   have hx := ho2 _ rfl
   exact ⟨y1, ⟨aR, trivial⟩, trivial, hx⟩
 ·rintro τ3 Γ3 ⟨y6, hw3, hd3, rfl⟩
  refine RunC.wl hw3 hd3 ?_
  replace h : i_Matrix_trace_k1 y6 = some q0 := h
  unfold i_Matrix_trace_k1 at h
  refine zQ ?_
  refine zm (r := f32 y6) ?_
  refine za (r := f32 y6) ?_
  refine zN ?_
  refine RunC.ret ?_
  have hq := Option.some.inj h
  subst q0
  exact bodyQ.pure (.inr rfl) rfl (Res.one rfl (RV.tmp rfl))
noncomputable def i_finite (a0 : F) : Option (F × Bool) :=
 obind (i_IsFinite a0) fun (r1 : Bool) =>
 bsel r1 (
  some (a0, true)) (
  some (some 0, false))
theorem i_finite_ok (a0 : F) (q0 : F) (q1 : Bool) (h : i_finite a0 = some (q0, q1)) : Ev Try.prog 117 [f32 a0] [] (tup [f32 q0, b q1]) [] := by
 refine Ev.start Try.func117 rfl rfl 0 (τ := [(0, f32 a0)]) rfl (Γ' := []) rfl (n := 17) rfl (g := 0) rfl (fun _ => rfl) ?_
 unfold i_finite at h
 refine zQ ?_
 refine zl (r := f32 (some 0)) (LOp.le (LOp.assign rfl rfl) (ALe.fl (by kernel_rfl) (by kernel_rfl))) ?_
 refine za (r := b false) ?_
 refine zN ?_
 iterate 2 (refine RunC.seq ?_)
 obtain ⟨r1, hf1, h⟩ := obind_some h
 rcases bsel_some h with ⟨hc2, h⟩ | ⟨hc2, h⟩
 ·refine RunC.regionW ?_
  refine zm (r := f32 a0) ?_
  refine ROps.d (r := b true) (fs := []) (Γ' := []) rfl rfl rfl (TOp.eqb (TOp.callB (CallAs.func ent107 rfl rfl) (Bors.cons (Bor.pure rfl) Bors.nil) rfl rfl (i_IsFinite_ok a0 r1 hf1)) hc2) rfl ?_
  refine zl (r := b false) (LOp.eqb (LOp.not rfl rfl) rfl) ?_
  refine zN ?_
  refine RunC.cond_false rfl rfl ?_
  refine RunC.skip ?_
  refine zQ ?_
  refine zm (r := f32 a0) ?_
  refine za (r := f32 a0) ?_
  refine za (r := b true) ?_
  refine zN ?_
  refine RunC.ret ?_
  have hq := Option.some.inj h
  obtain ⟨hq0, hq⟩ := Prod.mk.inj hq
  subst q0
  subst q1
  exact bodyQ.pure (.inr rfl) rfl (Res.two rfl (RV.tmp rfl) (RV.tmp rfl))
 ·refine RunC.regionW ?_
  refine zm (r := f32 a0) ?_
  refine ROps.d (r := b false) (fs := []) (Γ' := []) rfl rfl rfl (TOp.eqb (TOp.callB (CallAs.func ent107 rfl rfl) (Bors.cons (Bor.pure rfl) Bors.nil) rfl rfl (i_IsFinite_ok a0 r1 hf1)) hc2) rfl ?_
  refine zl (r := b true) (LOp.eqb (LOp.not rfl rfl) rfl) ?_
  refine zN ?_
  refine RunC.cond_true rfl rfl ?_
  refine zQ ?_
  refine zl (r := f32 (some 0)) (LOp.le (LOp.assign rfl rfl) (ALe.fl (by kernel_rfl) (by kernel_rfl))) ?_
  refine za (r := b false) ?_
  refine zN ?_
  refine RunC.ret ?_
  have hq := Option.some.inj h
  obtain ⟨hq0, hq⟩ := Prod.mk.inj hq
  subst q0
  subst q1
  exact bodyQ.pure (.inr rfl) rfl (Res.two rfl (RV.tmp rfl) (RV.tmp rfl))
noncomputable def i_TraceOf (a0 : Int) (a1 : Int) (a2 : List F) : Option (F × Bool) :=
 obind (i_isSquare a0 a1 a2) fun (r1 : Bool) =>
 bsel r1 (
  obind (i_Matrix_trace a0 a1 a2) fun (r2 : F) =>
  obind2 (i_finite r2) fun (r3 : F) (r4 : Bool) =>
  some (r3, r4)) (
  some (some 0, false))
theorem i_TraceOf_ok (a0 : Int) (a1 : Int) (a2 : List F) (q0 : F) (q1 : Bool) (h : i_TraceOf a0 a1 a2 = some (q0, q1)) : Ev Try.prog 46 [agg (mXc a0 a1 a2)] [] (tup [f32 q0, b q1]) [] := by
 refine Ev.start Try.func46 rfl rfl 0 (τ := [(0, agg (mXc a0 a1 a2))]) rfl (Γ' := []) rfl (n := 25) rfl (g := 0) rfl (fun _ => rfl) ?_
 unfold i_TraceOf at h
 refine zQ ?_
 refine ROps.d (r := ptr (mXc a0 a1 a2)) (fs := []) (Γ' := []) rfl rfl rfl (TOp.box_s rfl rfl rfl) rfl ?_
 refine zl (r := f32 (some 0)) (LOp.le (LOp.assign rfl rfl) (ALe.fl (by kernel_rfl) (by kernel_rfl))) ?_
 refine za (r := b false) ?_
 refine zN ?_
 iterate 2 (refine RunC.seq ?_)
 obtain ⟨r1, hf1, h⟩ := obind_some h
 rcases bsel_some h with ⟨hc2, h⟩ | ⟨hc2, h⟩
 ·refine RunC.regionW ?_
  refine zl (r := agg (mXc a0 a1 a2)) (LOp.loadAgg agg26 siz26 rfl rfl rfl rfl) ?_
  refine ROps.d (r := b true) (fs := []) (Γ' := []) rfl rfl rfl (TOp.eqb (TOp.callB (CallAs.func ent116 rfl rfl) (Bors.cons (Bor.agg (Bors.cons (Bor.pure rfl) (Bors.cons (Bor.pure rfl) (Bors.cons (Bor.sl (fun _ => rfl)) Bors.nil)))) Bors.nil) rfl rfl (i_isSquare_ok a0 a1 a2 r1 hf1)) hc2) rfl ?_
  refine zl (r := b false) (LOp.eqb (LOp.not rfl rfl) rfl) ?_
  refine zN ?_
  refine RunC.cond_false rfl rfl ?_
  refine RunC.skip ?_
  refine RunC.seq ?_
  obtain ⟨r2, hf3, h⟩ := obind_some h
  obtain ⟨r3, r4, hf4, h⟩ := obind2_some h
  refine RunC.regionW ?_
  refine zl (r := agg (mXc a0 a1 a2)) (LOp.loadAgg agg26 siz26 rfl rfl rfl rfl) ?_
  refine ROps.d (r := f32 r2) (fs := []) (Γ' := []) rfl rfl rfl (TOp.callB (CallAs.func ent118 rfl rfl) (Bors.cons (Bor.agg (Bors.cons (Bor.pure rfl) (Bors.cons (Bor.pure rfl) (Bors.cons (Bor.sl (fun _ => rfl)) Bors.nil)))) Bors.nil) rfl rfl (i_Matrix_trace_ok a0 a1 a2 r2 hf3)) rfl ?_
  refine ROps.d (r := tup [f32 r3, b r4]) (fs := []) (Γ' := []) rfl rfl rfl (TOp.callB (CallAs.func ent117 rfl rfl) (Bors.cons (Bor.pure rfl) Bors.nil) rfl rfl (i_finite_ok r2 r3 r4 hf4)) rfl ?_
  refine zl (r := f32 r3) (LOp.extract rfl rfl rfl) ?_
  refine zl (r := b r4) (LOp.extract rfl rfl rfl) ?_
  refine za (r := f32 r3) ?_
  refine za (r := b r4) ?_
  refine zN ?_
  refine RunC.ret ?_
  have hq := Option.some.inj h
  obtain ⟨hq0, hq⟩ := Prod.mk.inj hq
  subst q0
  subst q1
  exact bodyQ.pure (.inr rfl) rfl (Res.two rfl (RV.tmp rfl) (RV.tmp rfl))
 ·refine RunC.regionW ?_
  refine zl (r := agg (mXc a0 a1 a2)) (LOp.loadAgg agg26 siz26 rfl rfl rfl rfl) ?_
  refine ROps.d (r := b false) (fs := []) (Γ' := []) rfl rfl rfl (TOp.eqb (TOp.callB (CallAs.func ent116 rfl rfl) (Bors.cons (Bor.agg (Bors.cons (Bor.pure rfl) (Bors.cons (Bor.pure rfl) (Bors.cons (Bor.sl (fun _ => rfl)) Bors.nil)))) Bors.nil) rfl rfl (i_isSquare_ok a0 a1 a2 r1 hf1)) hc2) rfl ?_
  refine zl (r := b true) (LOp.eqb (LOp.not rfl rfl) rfl) ?_
  refine zN ?_
  refine RunC.cond_true rfl rfl ?_
  refine zQ ?_
  refine zl (r := f32 (some 0)) (LOp.le (LOp.assign rfl rfl) (ALe.fl (by kernel_rfl) (by kernel_rfl))) ?_
  refine za (r := b false) ?_
  refine zN ?_
  refine RunC.ret ?_
  have hq := Option.some.inj h
  obtain ⟨hq0, hq⟩ := Prod.mk.inj hq
  subst q0
  subst q1
  exact bodyQ.pure (.inr rfl) rfl (Res.two rfl (RV.tmp rfl) (RV.tmp rfl))
noncomputable def s_l08DrawVector_0p0_C0_b1 (a1 : List Int) (L3 : List F) (v4 : Int) (v5 : Int) (v6 : Int) : Option (LR ((List F) × Int × Int × Int) ((List F) × Int × Int) (Int × Int × (List F))) :=
 bsel (decide (0 < v6)) (
  obind3 (s_l00Src_pick_0p0_C0 33 a1 v4 v5) fun (r7 : Int) (r8 : Int) (r9 : Int) =>
  olet (IntKind.i64.wrap (r7 - 16)) fun (x10 : Int) =>
  olet (fint .f32 x10) fun (x11 : F) =>
  olet (fop .quo .f32 x11 (some 1082130432)) fun (x12 : F) =>
  need (apok 4 L3.length 1) <|
  olet (IntKind.i64.wrap (v6 - 1)) fun (x13 : Int) =>
  some (LR.next ((L3 ++ ([x12] : List F)), r8, r9, x13))) (
  some (LR.out (L3, v4, v5)))
noncomputable def s_l08DrawVector_0p0_C0_s1 (a1 : List Int) : ((List F) × Int × Int × Int) → Option (LR ((List F) × Int × Int × Int) ((List F) × Int × Int) (Int × Int × (List F))) := fun s => s_l08DrawVector_0p0_C0_b1 a1 s.1 s.2.1 s.2.2.1 s.2.2.2
noncomputable def s_l08DrawVector_0p0_C0_k1 (L16 : List F) (v17 : Int) (v18 : Int) : Option (Int × Int × (List F)) :=
 some (v17, v18, L16)
noncomputable def s_l08DrawVector_0p0_C0 (a0 : Int) (a1 : List Int) (a2 : Int) (a3 : Int) : Option (Int × Int × (List F)) :=
 obind (loopM (s_l08DrawVector_0p0_C0_s1 a1) (([] : List F), a2, a3, a0)) fun z => osum z (fun e => s_l08DrawVector_0p0_C0_k1 e.1 e.2.1 e.2.2) (fun r => some r)
theorem s_l08DrawVector_0p0_C0_ok (a0 : Int) (a1 : List Int) (a2 : Int) (a3 : Int) (q0 : Int) (q1 : Int) (q2 : List F) (h : s_l08DrawVector_0p0_C0 a0 a1 a2 a3 = some (q0, q1, q2)) : Ev Try.prog 119 [optr 0 0 0, i64 a0] [⟨0, some [sl a1.length (a1.map (ik .u8)), i64 a2, ik .u64 a3]⟩] (oref 1 0 0 q2.length) [⟨0, some [sl a1.length (a1.map (ik .u8)), i64 q0, ik .u64 q1]⟩, ⟨0, some (q2.map f32)⟩] := by
 refine Ev.start Try.func119 rfl rfl 2 (τ := [(0, optr 0 0 0), (1, i64 a0)]) rfl (Γ' := [⟨0, some [sl a1.length (a1.map (ik .u8)), i64 a2, ik .u64 a3]⟩, ⟨0, none⟩, ⟨0, none⟩]) rfl (n := 40) rfl (g := 1) rfl (by decide) ?_
 unfold s_l08DrawVector_0p0_C0 at h
 refine zQ ?_
 refine za (r := nilsl) ?_
 refine zN ?_
 refine zQ ?_
 refine ROps.d (r := oref 1 1 0 0) (fs := [(1, (([] : List F).map f32))]) (Γ' := [⟨0, some [sl a1.length (a1.map (ik .u8)), i64 a2, ik .u64 a3]⟩, ⟨1, some (([] : List F).map f32)⟩, ⟨0, none⟩]) rfl rfl rfl (TOp.buildSlice_o (g := ⟨0, none⟩) (za := f32 (some 0)) (qs := []) 1 rfl und24 siz36 zer36 rfl zel36 rfl rfl trivial rfl) rfl ?_
 refine za (r := oref 1 1 0 0) ?_
 refine zN ?_
 refine RunC.seq ?_
 obtain ⟨z2, hz_2, h⟩ := obind_some h
 refine RunC.cutN (fun τ Γ => ∃ (L16 : List F) (v17 : Int) (v18 : Int) (u14 : Nat) (u15 : Nat), WeakLe τ [(5, oref 1 u14 0 L16.length)] ∧ DeadLe Γ [⟨0, some [sl a1.length (a1.map (ik .u8)), i64 v17, ik .u64 v18]⟩, ⟨u14, some (L16.map f32)⟩, ⟨u15, none⟩] ∧ z2 = .inl (L16, v17, v18)) ?_ ?_
 ·refine RunC.block (RunC.loop (RunL.loopM (x := z2) (s_l08DrawVector_0p0_C0_s1 a1) (fun (s : (List F) × Int × Int × Int) τ Γ => ∃ (u1 : Nat) (u2 : Nat), WeakLe τ [(0, optr 0 0 0), (1, i64 s.2.2.2), (5, oref 1 u1 0 s.1.length)] ∧ DeadLe Γ [⟨0, some [sl a1.length (a1.map (ik .u8)), i64 s.2.1, ik .u64 s.2.2.1]⟩, ⟨u1, some (s.1.map f32)⟩, ⟨u2, none⟩]) ?_ _ _ _ hz_2 ⟨1, 0, ⟨aR, aR, aR, trivial⟩, ⟨⟨rfl, .inr rfl⟩, ⟨rfl, .inr rfl⟩, ⟨rfl, .inl rfl⟩, trivial⟩⟩))
  rintro ⟨L3, v4, v5, v6⟩ τ2 Γ2 y2_ ⟨u1, u2, hw2, hd2⟩ h2_ ho2 hr2
  refine RunC.wl (τ' := [(0, optr 0 0 0), (1, i64 v6), (5, oref 1 u1 0 L3.length)]) (Γ' := [⟨0, some [sl a1.length (a1.map (ik .u8)), i64 v4, ik .u64 v5]⟩, ⟨u1, some (L3.map f32)⟩, ⟨u2, none⟩]) hw2 hd2 ?_
  replace h2_ : s_l08DrawVector_0p0_C0_b1 a1 L3 v4 v5 v6 = some y2_ := h2_
  unfold s_l08DrawVector_0p0_C0_b1 at h2_
  iterate 2 (refine RunC.seq ?_)
  rcases bsel_some h2_ with ⟨hc1, h2_⟩ | ⟨hc1, h2_⟩
  ·refine RunC.regionW ?_
   refine zm (r := i64 v6) ?_
   refine zl (r := b true) (LOp.eqb (LOp.gtr rfl rfl rfl) hc1) ?_
   refine zN ?_
   refine RunC.cond_true rfl rfl ?_
   refine RunC.skip ?_
   refine RunC.seq ?_
   refine RunC.block ?_
   obtain ⟨r7, r8, r9, hf2, h2_⟩ := obind3_some h2_
   obtain ⟨x10, hx3, h2_⟩ := olet_some h2_
   obtain ⟨x11, hx4, h2_⟩ := olet_some h2_
   obtain ⟨x12, hx5, h2_⟩ := olet_some h2_
   obtain ⟨hm6, h2_⟩ := need_some h2_
   refine RunC.regionW ?_
   refine zm (r := oref 1 u1 0 L3.length) ?_
   refine zm (r := optr 0 0 0) ?_
   refine ROps.callO (A := [optr 0 0 0, i64 33]) (args := [optr 0 0 0, i64 33]) (Γc := [⟨0, some [sl a1.length (a1.map (ik .u8)), i64 v4, ik .u64 v5]⟩]) (Γc' := [⟨0, some [sl a1.length (a1.map (ik .u8)), i64 r8, ik .u64 r9]⟩]) (r' := i64 r7) (Γ' := [⟨0, some [sl a1.length (a1.map (ik .u8)), i64 r8, ik .u64 r9]⟩, ⟨u1, some (L3.map f32)⟩, ⟨u2, none⟩]) [(0, 0)] [] rfl (CallAs.func ent112 rfl rfl) rfl rfl (SelOk.of (show List.Nodup [0] from by decide) (SelL.cells0 rfl (by simp [ren, rens, sigma, rens_f32, rens_f64, rens_i64, rens_ik, rens_str, rens_cp]) (lts_cons (lt_slk (fun _ => rfl)) (lts_cons rfl (lts_cons rfl lts_nil))) trivial)) (live_of ⟨⟨_, _, rfl⟩, trivial⟩) (by simp [ren, rens, sigma, rens_f32, rens_f64, rens_i64, rens_ik, rens_str, rens_cp]) rfl (s_l00Src_pick_0p0_C0_ok 33 a1 v4 v5 r7 r8 r9 hf2) rfl (news_of trivial) (show List.Nodup [0] from by decide) (by simp [ren, rens, sigma]) (by simp [backOb, sigma, ren, rens, rens_f32, rens_f64, rens_i64, rens_ik, rens_str, rens_cp]) ?_
   refine zl (r := i64 x10) (LOp.eqr (LOp.sub rfl rfl rfl) (congrArg (ik .i64) hx3)) ?_
   refine zl (r := f32 x11) (LOp.eqr (LOp.i2f (src := 2) (dst := 36) ⟨_, pun2⟩ pun36 rfl rfl) (congrArg (f .f32) hx4)) ?_
   refine ROps.d (r := f32 x12) (fs := []) (Γ' := [⟨0, some [sl a1.length (a1.map (ik .u8)), i64 r8, ik .u64 r9]⟩, ⟨u1, some (L3.map f32)⟩, ⟨u2, none⟩]) rfl rfl rfl (TOp.eqr (TOp.fop (.inr (.inr (.inr rfl))) rfl (OpF.tmp rfl) (OpF.const rfl (by kernel_rfl) (by kernel_rfl))) (congrArg (f .f32) hx5)) rfl ?_
   refine ROps.d (r := oref 2 (u2 + 1) 0 1) (fs := [(2, (([x12] : List F).map f32))]) (Γ' := [⟨0, some [sl a1.length (a1.map (ik .u8)), i64 r8, ik .u64 r9]⟩, ⟨u1, some (L3.map f32)⟩, ⟨(u2 + 1), some (([x12] : List F).map f32)⟩]) rfl rfl rfl (TOp.buildSlice_o (g := ⟨u2, none⟩) (za := f32 (some 0)) (qs := [(0, [f32 x12])]) 2 rfl und24 siz36 zer36 rfl zel36 rfl rfl ⟨rfl, ⟨_, ALe.refl _, rfl⟩, trivial⟩ rfl) rfl ?_
   refine ROps.app (f := f32) (xs := L3) (ys := ([x12] : List F)) (Γ' := [⟨0, some [sl a1.length (a1.map (ik .u8)), i64 r8, ik .u64 r9]⟩, ⟨(u1 + 1), some ((L3 ++ ([x12] : List F)).map f32)⟩, ⟨(u2 + 1), some (([x12] : List F).map f32)⟩]) rfl pun24 inf36 rfl rfl rfl rfl rfl rfl rfl rfl rfl (by simp) (ReadAs.own rfl (by simp)) (ones_map (fun _ => rfl)) (ap_by hm6) (ap_mx hm6) rfl ?_
   refine za (r := oref 1 (u1 + 1) 0 (L3.length + 1)) ?_
   refine zN ?_
   refine RunC.wl (τ' := [(0, optr 0 0 0), (1, i64 v6), (5, oref 1 (u1 + 1) 0 (L3.length + 1))]) (Γ' := [⟨0, some [sl a1.length (a1.map (ik .u8)), i64 r8, ik .u64 r9]⟩, ⟨(u1 + 1), some ((L3 ++ ([x12] : List F)).map f32)⟩, ⟨(u2 + 1), none⟩]) ⟨aR, aR, aR, trivial⟩ ⟨⟨rfl, .inr rfl⟩, ⟨rfl, .inr rfl⟩, ⟨rfl, .inl rfl⟩, trivial⟩ ?_
   obtain ⟨x13, hx7, h2_⟩ := olet_some h2_
   refine RunC.regionW ?_
   refine zm (r := i64 v6) ?_
   refine zl (r := i64 x13) (LOp.eqr (LOp.sub rfl rfl rfl) (congrArg (ik .i64) hx7)) ?_
   refine za (r := i64 x13) ?_
   refine zN ?_
   cases Option.some.inj h2_
   exact ⟨_, rfl, (u1 + 1), (u2 + 1), ⟨aR, aR, (ALe.eq (by rw [(app_len rfl rfl)] <;> rfl)), trivial⟩, ⟨⟨rfl, .inr rfl⟩, ⟨rfl, .inr rfl⟩, ⟨rfl, .inl rfl⟩, trivial⟩⟩
  ·refine RunC.regionW ?_
   refine zm (r := i64 v6) ?_
   refine zl (r := b false) (LOp.eqb (LOp.gtr rfl rfl rfl) hc1) ?_
   refine zN ?_
   refine RunC.cond_false rfl rfl ?_
   refine RunC.exit ?_
   cases Option.some.inj h2_
   have hx := ho2 _ rfl
   exact ⟨L3, v4, v5, u1, u2, ⟨aR, trivial⟩, ⟨⟨rfl, .inr rfl⟩, ⟨rfl, .inr rfl⟩, ⟨rfl, .inl rfl⟩, trivial⟩, hx⟩
 ·rintro τ3 Γ3 ⟨L16, v17, v18, u14, u15, hw3, hd3, rfl⟩
  refine RunC.wl hw3 hd3 ?_
  replace h : s_l08DrawVector_0p0_C0_k1 L16 v17 v18 = some (q0, q1, q2) := h
  unfold s_l08DrawVector_0p0_C0_k1 at h
  refine zQ ?_
  refine zm (r := oref 1 u14 0 L16.length) ?_
  refine za (r := oref 1 u14 0 L16.length) ?_
  refine zN ?_
  refine RunC.ret ?_
  have hq := Option.some.inj h
  obtain ⟨hq0, hq⟩ := Prod.mk.inj hq
  obtain ⟨hq1, hq⟩ := Prod.mk.inj hq
  subst q0
  subst q1
  subst q2
  exact bodyQ.mk (r' := oref 1 u14 0 L16.length) [(0, 0), (1, u14)] (.inr rfl) rfl (show List.Nodup [0, 1] from by decide) (by simp [ren, rens, sigma]) rfl (Res.one rfl (RV.tmp rfl)) (SelL.cells rfl (by first | rfl | simp [ren, rens, sigma, rens_f32, rens_f64, rens_i64, rens_ik, rens_str, rens_cp]) (lts_cons (lt_slk (fun _ => rfl)) (lts_cons rfl (lts_cons rfl lts_nil))) (SelL.arr0 (f := f32) (fun _ => rfl) rfl trivial))
noncomputable def s_R8Vector (a0 : List Int) (a1 : Int) : Option ((List F)) :=
 obind3 (s_l00From a0) fun (r1 : List Int) (r2 : Int) (r3 : Int) =>
 obind3 (s_l08DrawVector_0p0_C0 a1 r1 r2 r3) fun (r4 : Int) (r5 : Int) (r6 : List F) =>
 some r6
theorem s_R8Vector_ok (a0 : List Int) (a1 : Int) (q0 : List F) (h : s_R8Vector a0 a1 = some q0) : Ev Try.prog 47 [sl a0.length (a0.map (ik .u8)), i64 a1] [] (oref 0 0 0 q0.length) [⟨0, some (q0.map f32)⟩] := by
 refine Ev.start Try.func47 rfl rfl 2 (τ := [(0, sl a0.length (a0.map (ik .u8))), (1, i64 a1)]) rfl (Γ' := [⟨0, none⟩, ⟨0, none⟩]) rfl (n := 23) rfl (g := 0) rfl (fun _ => rfl) ?_
 unfold s_R8Vector at h
 refine zQ ?_
 refine za (r := nilsl) ?_
 refine zN ?_
 refine RunC.seq ?_
 obtain ⟨r1, r2, r3, hf1, h⟩ := obind3_some h
 refine RunC.regionW ?_
 refine zm (r := sl a0.length (a0.map (ik .u8))) ?_
 refine ROps.d (r := optr 0 1 0) (fs := [(0, [sl r1.length (r1.map (ik .u8)), i64 r2, ik .u64 r3])]) (Γ' := [⟨1, some [sl r1.length (r1.map (ik .u8)), i64 r2, ik .u64 r3]⟩, ⟨0, none⟩]) rfl rfl rfl (TOp.callN (A := [sl a0.length (a0.map (ik .u8))]) (ls := [[sl r1.length (r1.map (ik .u8)), i64 r2, ik .u64 r3]]) [0] (by exact (CallAs.func ent53 rfl rfl)) (lts_cons (lt_sl (fun _ => rfl)) lts_nil) (s_l00From_ok a0 r1 r2 r3 hf1) (and_all (lts_cons (lt_sl (fun _ => rfl)) (lts_cons rfl (lts_cons rfl lts_nil))) rfl) rfl (by decide) (ns_of ⟨⟨_, rfl⟩, trivial⟩)) rfl ?_
 refine za (r := optr 0 1 0) ?_
 refine zN ?_
 refine RunC.seq ?_
 obtain ⟨r4, r5, r6, hf2, h⟩ := obind3_some h
 refine RunC.regionW ?_
 refine zm (r := optr 0 1 0) ?_
 refine zm (r := i64 a1) ?_
 refine ROps.callO (A := [optr 0 1 0, i64 a1]) (args := [optr 0 0 0, i64 a1]) (Γc := [⟨0, some [sl r1.length (r1.map (ik .u8)), i64 r2, ik .u64 r3]⟩]) (Γc' := [⟨0, some [sl r1.length (r1.map (ik .u8)), i64 r4, ik .u64 r5]⟩, ⟨0, some (r6.map f32)⟩]) (r' := oref 1 1 0 r6.length) (Γ' := [⟨1, some [sl r1.length (r1.map (ik .u8)), i64 r4, ik .u64 r5]⟩, ⟨1, some (r6.map f32)⟩]) [(0, 1)] [(1, 1)] rfl (CallAs.func ent119 rfl rfl) rfl rfl (SelOk.of (show List.Nodup [0] from by decide) (SelL.cells0 rfl (by simp [ren, rens, sigma, rens_f32, rens_f64, rens_i64, rens_ik, rens_str, rens_cp]) (lts_cons (lt_slk (fun _ => rfl)) (lts_cons rfl (lts_cons rfl lts_nil))) trivial)) (live_of ⟨⟨_, _, rfl⟩, trivial⟩) (by simp [ren, rens, sigma, rens_f32, rens_f64, rens_i64, rens_ik, rens_str, rens_cp]) rfl (s_l08DrawVector_0p0_C0_ok a1 r1 r2 r3 r4 r5 r6 hf2) rfl (news_of ⟨⟨_, rfl, rfl⟩, trivial⟩) (show List.Nodup [0, 1] from by decide) (by simp [ren, rens, sigma]) (by simp [backOb, sigma, ren, rens, rens_f32, rens_f64, rens_i64, rens_ik, rens_str, rens_cp]) ?_
 refine za (r := oref 1 1 0 r6.length) ?_
 refine zN ?_
 refine RunC.ret ?_
 have hq := Option.some.inj h
 subst q0
 exact bodyQ.mk (r' := oref 1 1 0 r6.length) [(1, 1)] (.inr rfl) rfl (show List.Nodup [1] from by decide) rfl rfl (Res.one rfl (RV.tmp rfl)) (SelL.arr0 (f := f32) (fun _ => rfl) rfl trivial)
noncomputable def i_IsVector (a0 : List F) : Option (Bool) :=
 obind (i_length_float32 a0) fun (r1 : Int) =>
 obind (i_inRange r1 1 256) fun (r2 : Bool) =>
 bsel r2 (
  obind (i_areFinite a0) fun (r3 : Bool) =>
  some r3) (
  some false)
theorem i_IsVector_ok (a0 : List F) (q0 : Bool) (h : i_IsVector a0 = some q0) : Ev Try.prog 70 [(sFc a0)] [] (b q0) [] := by
 refine Ev.start Try.func70 rfl rfl 0 (τ := [(0, (sFc a0))]) rfl (Γ' := []) rfl (n := 21) rfl (g := 0) rfl (fun _ => rfl) ?_
 unfold i_IsVector at h
 refine zQ ?_
 refine za (r := b false) ?_
 refine zN ?_
 refine RunC.seq ?_
 obtain ⟨r1, hf1, h⟩ := obind_some h
 obtain ⟨r2, hf2, h⟩ := obind_some h
 rcases bsel_some h with ⟨hc3, h⟩ | ⟨hc3, h⟩
 ·obtain ⟨r3, hf4, h⟩ := obind_some h
  refine RunC.regionW ?_
  refine zm (r := (sFc a0)) ?_
  refine ROps.d (r := i64 r1) (fs := []) (Γ' := []) rfl rfl rfl (TOp.callB (CallAs.func ent71 rfl rfl) (Bors.cons (Bor.sl (fun _ => rfl)) Bors.nil) rfl rfl (i_length_float32_ok a0 r1 hf1)) rfl ?_
  refine ROps.d (r := b true) (fs := []) (Γ' := []) rfl rfl rfl (TOp.eqb (TOp.callB (CallAs.func ent65 rfl rfl) (Bors.cons (Bor.pure rfl) (Bors.cons (Bor.pure rfl) (Bors.cons (Bor.pure rfl) Bors.nil))) rfl rfl (i_inRange_ok r1 1 256 r2 hf2)) hc3) rfl ?_
  refine zm (r := b true) ?_
  refine zm (r := (sFc a0)) ?_
  refine ROps.d (r := b r3) (fs := []) (Γ' := []) rfl rfl rfl (TOp.callB (CallAs.func ent79 rfl rfl) (Bors.cons (Bor.sl (fun _ => rfl)) Bors.nil) rfl rfl (i_areFinite_ok a0 r3 hf4)) rfl ?_
  refine zl (r := b r3) (LOp.pick_true rfl rfl rfl) ?_
  refine za (r := b r3) ?_
  refine zN ?_
  refine RunC.ret ?_
  have hq := Option.some.inj h
  subst q0
  exact bodyQ.pure (.inr rfl) rfl (Res.one rfl (RV.tmp rfl))
 ·refine RunC.regionW ?_
  refine zm (r := (sFc a0)) ?_
  refine ROps.d (r := i64 r1) (fs := []) (Γ' := []) rfl rfl rfl (TOp.callB (CallAs.func ent71 rfl rfl) (Bors.cons (Bor.sl (fun _ => rfl)) Bors.nil) rfl rfl (i_length_float32_ok a0 r1 hf1)) rfl ?_
  refine ROps.d (r := b false) (fs := []) (Γ' := []) rfl rfl rfl (TOp.eqb (TOp.callB (CallAs.func ent65 rfl rfl) (Bors.cons (Bor.pure rfl) (Bors.cons (Bor.pure rfl) (Bors.cons (Bor.pure rfl) Bors.nil))) rfl rfl (i_inRange_ok r1 1 256 r2 hf2)) hc3) rfl ?_
  refine zm (r := b false) ?_
  iterate 2 (refine ROps.s rfl rfl rfl ?_)
  refine zl (r := b false) (LOp.pick_false rfl rfl rfl) ?_
  refine za (r := b false) ?_
  refine zN ?_
  refine RunC.ret ?_
  have hq := Option.some.inj h
  subst q0
  exact bodyQ.pure (.inr rfl) rfl (Res.one rfl (RV.tmp rfl))
noncomputable def i_OuterMatrix_1 (a0 : Int) (a1 : Int) (a2 : List F) (a3 : List F) : Option (F) :=
 obind (at? a2 a0) fun (e1 : F) =>
 obind (at? a3 a1) fun (e2 : F) =>
 obind (i_mul e1 e2) fun (r3 : F) =>
 some r3
theorem i_OuterMatrix_1_ok (a0 : Int) (a1 : Int) (a2 : List F) (a3 : List F) (q0 : F) (h : i_OuterMatrix_1 a0 a1 a2 a3 = some q0) : Ev Try.prog 120 [i64 a0, i64 a1, ptr [(sFc a2)], ptr [(sFc a3)]] [] (f32 q0) [] := by
 refine Ev.start Try.func120 rfl rfl 0 (τ := [(0, i64 a0), (1, i64 a1), (2, ptr [(sFc a2)]), (3, ptr [(sFc a3)])]) rfl (Γ' := []) rfl (n := 33) rfl (g := 0) rfl (fun _ => rfl) ?_
 unfold i_OuterMatrix_1 at h
 refine zQ ?_
 refine zl (r := f32 (some 0)) (LOp.le (LOp.assign rfl rfl) (ALe.fl (by kernel_rfl) (by kernel_rfl))) ?_
 refine zN ?_
 refine RunC.seq ?_
 obtain ⟨e1, he1, h⟩ := obind_some h
 obtain ⟨e2, he2, h⟩ := obind_some h
 obtain ⟨r3, hf3, h⟩ := obind_some h
 refine RunC.region_draw (Γ' := []) 10 mixed 
  (TR.l (r := (sFc a2)) rfl rfl (LOp.load1 agg24 rfl rfl) <|
  (TR.l (r := i64 a0) rfl rfl (LOp.move rfl rfl) <|
  (TR.l (r := ptr [f32 e1]) rfl rfl (LOp.le (LOp.ix (f := f32) und24 siz36 rfl rfl rfl rfl he1) ALe.ptr) <|
  (TR.l (r := f32 e1) rfl rfl (LOp.load1 agg36 rfl rfl) <|
  (TR.l (r := (sFc a3)) rfl rfl (LOp.load1 agg24 rfl rfl) <|
  (TR.l (r := i64 a1) rfl rfl (LOp.move rfl rfl) <|
  (TR.l (r := ptr [f32 e2]) rfl rfl (LOp.le (LOp.ix (f := f32) und24 siz36 rfl rfl rfl rfl he2) ALe.ptr) <|
  (TR.l (r := f32 e2) rfl rfl (LOp.load1 agg36 rfl rfl) <|
  (TR.d (r := f32 r3) (fs := []) rfl rfl (TOp.callB (CallAs.func ent109 rfl rfl) (Bors.cons (Bor.pure rfl) (Bors.cons (Bor.pure rfl) Bors.nil)) rfl rfl (i_mul_ok e1 e2 r3 hf3)) <|
  (TR.l (r := f32 r3) rfl rfl (LOp.assign rfl rfl) <|
  TR.nil)))))))))) rfl (by kernel_rfl) rfl fills_nil rfl ?_
 iterate 10 refine ROps.dropS ?_
 refine ROps.drop0 ?_
 refine zN ?_
 refine RunC.ret ?_
 have hq := Option.some.inj h
 subst q0
 exact bodyQ.pure (.inr rfl) rfl (Res.one rfl (RV.tmp rfl))
noncomputable def i_made_2Fi_OuterMatrix_1_b2 (a1 : Int) (a2 : List F) (a3 : List F) (r1 : Int) (r2 : Int) (r3 : List F) (v6 : Int) (L7 : List F) (v9 : Int) : Option (LR ((List F) × Int) ((List F)) (Int × Int × (List F))) :=
 bsel (decide (v9 < a1)) (
  obind (i_OuterMatrix_1 v6 v9 a2 a3) fun (r11 : F) =>
  obind (i_Matrix_set_02o r1 r2 v6 v9 r11 L7) fun (r12 : List F) =>
  need (decide (r12.length = r3.length)) <|
  olet (IntKind.i64.wrap (v9 + 1)) fun (x13 : Int) =>
  some (LR.next (r12, x13))) (
  some (LR.out L7))
noncomputable def i_made_2Fi_OuterMatrix_1_s2 (a1 : Int) (a2 : List F) (a3 : List F) (r1 : Int) (r2 : Int) (r3 : List F) (v6 : Int) : ((List F) × Int) → Option (LR ((List F) × Int) ((List F)) (Int × Int × (List F))) := fun s => i_made_2Fi_OuterMatrix_1_b2 a1 a2 a3 r1 r2 r3 v6 s.1 s.2
noncomputable def i_made_2Fi_OuterMatrix_1_k2 (v6 : Int) (L14 : List F) : Option (LR ((List F) × Int) ((List F)) (Int × Int × (List F))) :=
 olet (IntKind.i64.wrap (v6 + 1)) fun (x16 : Int) =>
 some (LR.next (L14, x16))
noncomputable def i_made_2Fi_OuterMatrix_1_b3 (a0 : Int) (a1 : Int) (a2 : List F) (a3 : List F) (r1 : Int) (r2 : Int) (r3 : List F) (L4 : List F) (v6 : Int) : Option (LR ((List F) × Int) ((List F)) (Int × Int × (List F))) :=
 bsel (decide (v6 < a0)) (
  obind (loopM (i_made_2Fi_OuterMatrix_1_s2 a1 a2 a3 r1 r2 r3 v6) (L4, 0)) fun z => osum z (fun e => i_made_2Fi_OuterMatrix_1_k2 v6 e) (fun r => some (LR.ret r))) (
  some (LR.out L4))
noncomputable def i_made_2Fi_OuterMatrix_1_s3 (a0 : Int) (a1 : Int) (a2 : List F) (a3 : List F) (r1 : Int) (r2 : Int) (r3 : List F) : ((List F) × Int) → Option (LR ((List F) × Int) ((List F)) (Int × Int × (List F))) := fun s => i_made_2Fi_OuterMatrix_1_b3 a0 a1 a2 a3 r1 r2 r3 s.1 s.2
noncomputable def i_made_2Fi_OuterMatrix_1_k3 (r1 : Int) (r2 : Int) (L17 : List F) : Option (Int × Int × (List F)) :=
 some (r1, r2, L17)
noncomputable def i_made_2Fi_OuterMatrix_1 (a0 : Int) (a1 : Int) (a2 : List F) (a3 : List F) : Option (Int × Int × (List F)) :=
 obind3 (i_newMatrix a0 a1) fun (r1 : Int) (r2 : Int) (r3 : List F) =>
 obind (loopM (i_made_2Fi_OuterMatrix_1_s3 a0 a1 a2 a3 r1 r2 r3) (r3, 0)) fun z => osum z (fun e => i_made_2Fi_OuterMatrix_1_k3 r1 r2 e) (fun r => some r)
theorem i_made_2Fi_OuterMatrix_1_ok (a0 : Int) (a1 : Int) (a2 : List F) (a3 : List F) (q0 : Int) (q1 : Int) (q2 : List F) (h : i_made_2Fi_OuterMatrix_1 a0 a1 a2 a3 = some (q0, q1, q2)) : Ev Try.prog 60 [i64 a0, i64 a1, fn (.func 120) [] [ptr [(sFc a2)], ptr [(sFc a3)]]] [] (agg (oXc q0 q1 0 0 q2.length)) [⟨0, some (q2.map f32)⟩] := by
 refine Ev.start Try.func60 rfl rfl 3 (τ := [(0, i64 a0), (1, i64 a1), (2, fn (.func 120) [] [ptr [(sFc a2)], ptr [(sFc a3)]])]) rfl (Γ' := [⟨0, none⟩, ⟨0, none⟩, ⟨0, none⟩]) rfl (n := 65) rfl (g := 0) rfl (fun _ => rfl) ?_
 unfold i_made_2Fi_OuterMatrix_1 at h
 refine zQ ?_
 refine ROps.d (r := optr 0 1 0) (fs := [(0, zMx)]) (Γ' := [⟨1, some zMx⟩, ⟨0, none⟩, ⟨0, none⟩]) rfl rfl rfl (TOp.alloc_o (g := ⟨0, none⟩) 0 rfl zer26 zok26 rfl) rfl ?_
 refine zN ?_
 refine RunC.seq ?_
 obtain ⟨r1, r2, r3, hf1, h⟩ := obind3_some h
 refine RunC.regionW ?_
 refine zm (r := i64 a0) ?_
 refine zm (r := i64 a1) ?_
 refine ROps.d (r := agg (oXc r1 r2 1 1 r3.length)) (fs := [(1, (r3.map f32))]) (Γ' := [⟨1, some zMx⟩, ⟨1, some (r3.map f32)⟩, ⟨0, none⟩]) rfl rfl rfl (TOp.callBN (ls := [(r3.map f32)]) [1] (CallAs.func ent126 rfl rfl) (Bors.cons (Bor.pure rfl) (Bors.cons (Bor.pure rfl) Bors.nil)) rfl (i_newMatrix_ok a0 a1 r1 r2 r3 hf1) (and_all (lts0_map (f := f32) (fun _ => rfl) _) rfl) (and_all (noss_map (f := f32) (fun _ => rfl) _) rfl) rfl (by decide) (ns_of ⟨⟨_, rfl⟩, trivial⟩)) rfl ?_
 refine ROps.d (r := optr 2 1 0) (fs := [(2, zMx)]) (Γ' := [⟨1, some zMx⟩, ⟨1, some (r3.map f32)⟩, ⟨1, some zMx⟩]) rfl rfl rfl (TOp.alloc_o (g := ⟨0, none⟩) 2 rfl zer26 zok26 rfl) rfl ?_
 refine ROps.store_le (r := agg (oXc r1 r2 1 1 r3.length)) (l' := (oXc r1 r2 1 1 r3.length)) (Γ' := [⟨1, some zMx⟩, ⟨1, some (r3.map f32)⟩, ⟨1, some (oXc r1 r2 1 1 r3.length)⟩]) rfl siz26 rfl rfl rfl aR rfl rfl rfl rfl (Nat.le_of_ble_eq_true rfl) rfl rfl ?_
 refine zN ?_
 refine RunC.seq ?_
 refine zQ ?_
 refine zm (r := i64 a0) ?_
 refine zm (r := i64 0) ?_
 refine zN ?_
 obtain ⟨z4, hz_4, h⟩ := obind_some h
 refine RunC.cutN (fun τ Γ => ∃ (L17 : List F), L17.length = r3.length ∧ WeakLe τ [(6, optr 0 1 0), (7, optr 2 1 0)] ∧ DeadLe Γ [⟨1, some zMx⟩, ⟨1, some (L17.map f32)⟩, ⟨1, some (oXc r1 r2 1 1 r3.length)⟩] ∧ z4 = .inl L17) ?_ ?_
 ·refine RunC.block (RunC.loop (RunL.loopM (x := z4) (i_made_2Fi_OuterMatrix_1_s3 a0 a1 a2 a3 r1 r2 r3) (fun (s : (List F) × Int) τ Γ => s.1.length = r3.length ∧ WeakLe τ [(1, i64 a1), (2, fn (.func 120) [] [ptr [(sFc a2)], ptr [(sFc a3)]]), (6, optr 0 1 0), (7, optr 2 1 0), (13, i64 a0), (14, i64 s.2)] ∧ DeadLe Γ [⟨1, some zMx⟩, ⟨1, some (s.1.map f32)⟩, ⟨1, some (oXc r1 r2 1 1 r3.length)⟩]) ?_ _ _ _ hz_4 ⟨rfl, ⟨aR, aR, aR, aR, aR, aR, trivial⟩, ⟨⟨rfl, .inr rfl⟩, ⟨rfl, .inr rfl⟩, ⟨rfl, .inr rfl⟩, trivial⟩⟩))
  rintro ⟨L4, v6⟩ τ4 Γ4 y4_ ⟨hl5, hw4, hd4⟩ h4_ ho4 hr4
  refine RunC.wl (τ' := [(1, i64 a1), (2, fn (.func 120) [] [ptr [(sFc a2)], ptr [(sFc a3)]]), (6, optr 0 1 0), (7, optr 2 1 0), (13, i64 a0), (14, i64 v6)]) (Γ' := [⟨1, some zMx⟩, ⟨1, some (L4.map f32)⟩, ⟨1, some (oXc r1 r2 1 1 r3.length)⟩]) hw4 hd4 ?_
  replace hl5 : L4.length = r3.length := hl5
  replace h4_ : i_made_2Fi_OuterMatrix_1_b3 a0 a1 a2 a3 r1 r2 r3 L4 v6 = some y4_ := h4_
  unfold i_made_2Fi_OuterMatrix_1_b3 at h4_
  refine RunC.seq ?_
  rcases bsel_some h4_ with ⟨hc2, h4_⟩ | ⟨hc2, h4_⟩
  ·refine RunC.regionW ?_
   refine zl (r := b true) (LOp.eqb (LOp.lss rfl rfl rfl) hc2) ?_
   refine zN ?_
   refine RunC.seq ?_
   refine RunC.cond_true rfl rfl ?_
   refine RunC.skip ?_
   refine RunC.seq ?_
   refine RunC.block ?_
   refine zQ ?_
   refine zm (r := i64 v6) ?_
   refine za (r := i64 v6) ?_
   refine zN ?_
   refine zQ ?_
   refine zm (r := i64 a1) ?_
   refine zm (r := i64 0) ?_
   refine zN ?_
   obtain ⟨z5, hz_5, h4_⟩ := obind_some h4_
   refine RunC.cutN (fun τ Γ => ∃ (L14 : List F), L14.length = r3.length ∧ WeakLe τ [(1, i64 a1), (2, fn (.func 120) [] [ptr [(sFc a2)], ptr [(sFc a3)]]), (6, optr 0 1 0), (7, optr 2 1 0), (13, i64 a0), (14, i64 v6)] ∧ DeadLe Γ [⟨1, some zMx⟩, ⟨1, some (L14.map f32)⟩, ⟨1, some (oXc r1 r2 1 1 r3.length)⟩] ∧ z5 = .inl L14) ?_ ?_
   ·refine RunC.block (RunC.loop (RunL.loopM (x := z5) (i_made_2Fi_OuterMatrix_1_s2 a1 a2 a3 r1 r2 r3 v6) (fun (s : (List F) × Int) τ Γ => s.1.length = r3.length ∧ WeakLe τ [(1, i64 a1), (2, fn (.func 120) [] [ptr [(sFc a2)], ptr [(sFc a3)]]), (6, optr 0 1 0), (7, optr 2 1 0), (8, i64 v6), (13, i64 a0), (14, i64 v6), (17, i64 a1), (18, i64 s.2)] ∧ DeadLe Γ [⟨1, some zMx⟩, ⟨1, some (s.1.map f32)⟩, ⟨1, some (oXc r1 r2 1 1 r3.length)⟩]) ?_ _ _ _ hz_5 ⟨hl5, ⟨aR, aR, aR, aR, aR, aR, aR, aR, aR, trivial⟩, ⟨⟨rfl, .inr rfl⟩, ⟨rfl, .inr rfl⟩, ⟨rfl, .inr rfl⟩, trivial⟩⟩))
    rintro ⟨L7, v9⟩ τ5 Γ5 y5_ ⟨hl8, hw5, hd5⟩ h5_ ho5 hr5
    refine RunC.wl (τ' := [(1, i64 a1), (2, fn (.func 120) [] [ptr [(sFc a2)], ptr [(sFc a3)]]), (6, optr 0 1 0), (7, optr 2 1 0), (8, i64 v6), (13, i64 a0), (14, i64 v6), (17, i64 a1), (18, i64 v9)]) (Γ' := [⟨1, some zMx⟩, ⟨1, some (L7.map f32)⟩, ⟨1, some (oXc r1 r2 1 1 r3.length)⟩]) hw5 hd5 ?_
    replace hl8 : L7.length = r3.length := hl8
    replace h5_ : i_made_2Fi_OuterMatrix_1_b2 a1 a2 a3 r1 r2 r3 v6 L7 v9 = some y5_ := h5_
    unfold i_made_2Fi_OuterMatrix_1_b2 at h5_
    refine RunC.seq ?_
    rcases bsel_some h5_ with ⟨hc3, h5_⟩ | ⟨hc3, h5_⟩
    ·refine RunC.regionW ?_
     refine zl (r := b true) (LOp.eqb (LOp.lss rfl rfl rfl) hc3) ?_
     refine zN ?_
     refine RunC.seq ?_
     refine RunC.cond_true rfl rfl ?_
     refine RunC.skip ?_
     refine RunC.seq ?_
     refine RunC.block ?_
     refine zQ ?_
     refine zm (r := i64 v9) ?_
     refine za (r := i64 v9) ?_
     refine zN ?_
     obtain ⟨r11, hf5, h5_⟩ := obind_some h5_
     obtain ⟨r12, hf6, h5_⟩ := obind_some h5_
     obtain ⟨hn7, h5_⟩ := need_some h5_
     refine RunC.region_draw (Γ' := [⟨1, some zMx⟩, ⟨1, some (L7.map f32)⟩, ⟨1, some (oXc r1 r2 1 1 r3.length)⟩]) 7 mixed 
      (TR.d (r := agg (oXc r1 r2 1 1 r3.length)) (fs := []) rfl rfl (TOp.loadAgg_o rfl agg26 siz26 rfl rfl rfl rfl) <|
      (TR.l (r := i64 v6) rfl rfl (LOp.move rfl rfl) <|
      (TR.l (r := i64 v9) rfl rfl (LOp.move rfl rfl) <|
      (TR.l (r := fn (.func 120) [] [ptr [(sFc a2)], ptr [(sFc a3)]]) rfl rfl (LOp.move rfl rfl) <|
      (TR.l (r := i64 v6) rfl rfl (LOp.move rfl rfl) <|
      (TR.l (r := i64 v9) rfl rfl (LOp.move rfl rfl) <|
      (TR.d (r := f32 r11) (fs := []) rfl rfl (TOp.callB (CallAs.fn ent120 rfl rfl rfl rfl) (Bors.cons (Bor.pure rfl) (Bors.cons (Bor.pure rfl) (Bors.cons (Bor.ptr (Bors.cons (Bor.sl (fun _ => rfl)) Bors.nil)) (Bors.cons (Bor.ptr (Bors.cons (Bor.sl (fun _ => rfl)) Bors.nil)) Bors.nil)))) rfl rfl (i_OuterMatrix_1_ok v6 v9 a2 a3 r11 hf5)) <|
      TR.nil))))))) rfl (by kernel_rfl) rfl fills_nil rfl ?_
     iterate 7 refine ROps.dropS ?_
     refine ROps.drop0 ?_
     refine ROps.callO (A := [agg (oXc r1 r2 1 1 r3.length), i64 v6, i64 v9, f32 r11]) (args := [agg (oXc r1 r2 0 0 L7.length), i64 v6, i64 v9, f32 r11]) (Γc := [⟨0, some (L7.map f32)⟩]) (Γc' := [⟨0, some (r12.map f32)⟩]) (r' := tup []) (Γ' := [⟨1, some zMx⟩, ⟨1, some (r12.map f32)⟩, ⟨1, some (oXc r1 r2 1 1 r3.length)⟩]) [(1, 1)] [] rfl (CallAs.func ent78 rfl rfl) rfl rfl (SelOk.of (show List.Nodup [1] from by decide) (SelL.arr0 (f := f32) (fun _ => rfl) rfl trivial)) (live_of ⟨⟨_, _, rfl⟩, trivial⟩) (by simp [ren, rens, sigma, rens_f32, rens_f64, rens_i64, rens_ik, rens_str, rens_cp, hl8]) rfl (i_Matrix_set_02o_ok r1 r2 v6 v9 r11 L7 r12 hf6) rfl (news_of trivial) (show List.Nodup [1] from by decide) (by simp [ren, rens, sigma, of_decide_eq_true hn7]) (by simp [backOb, sigma, ren, rens, rens_f32, rens_f64, rens_i64, rens_ik, rens_str, rens_cp]) ?_
     refine zN ?_
     obtain ⟨x13, hx8, h5_⟩ := olet_some h5_
     refine RunC.regionW ?_
     refine zl (r := i64 x13) (LOp.eqr (LOp.add rfl rfl rfl) (congrArg (ik .i64) hx8)) ?_
     refine zm (r := i64 x13) ?_
     refine zN ?_
     cases Option.some.inj h5_
     exact ⟨_, rfl, (of_decide_eq_true hn7), ⟨aR, aR, aR, aR, aR, aR, aR, aR, aR, trivial⟩, ⟨⟨rfl, .inr rfl⟩, ⟨rfl, .inr rfl⟩, ⟨rfl, .inr rfl⟩, trivial⟩⟩
    ·refine RunC.regionW ?_
     refine zl (r := b false) (LOp.eqb (LOp.lss rfl rfl rfl) hc3) ?_
     refine zN ?_
     refine RunC.seq ?_
     refine RunC.cond_false rfl rfl ?_
     refine RunC.exit ?_
     cases Option.some.inj h5_
     have hx := ho5 _ rfl
     exact ⟨L7, hl8, ⟨aR, aR, aR, aR, aR, aR, trivial⟩, ⟨⟨rfl, .inr rfl⟩, ⟨rfl, .inr rfl⟩, ⟨rfl, .inr rfl⟩, trivial⟩, hx⟩
   ·rintro τ6 Γ6 ⟨L14, hl15, hw6, hd6, rfl⟩
    refine RunC.wl hw6 hd6 ?_
    replace h4_ : i_made_2Fi_OuterMatrix_1_k2 v6 L14 = some y4_ := h4_
    unfold i_made_2Fi_OuterMatrix_1_k2 at h4_
    obtain ⟨x16, hx9, h4_⟩ := olet_some h4_
    refine RunC.regionW ?_
    refine zl (r := i64 x16) (LOp.eqr (LOp.add rfl rfl rfl) (congrArg (ik .i64) hx9)) ?_
    refine zm (r := i64 x16) ?_
    refine zN ?_
    cases Option.some.inj h4_
    exact ⟨_, rfl, hl15, ⟨aR, aR, aR, aR, aR, aR, trivial⟩, ⟨⟨rfl, .inr rfl⟩, ⟨rfl, .inr rfl⟩, ⟨rfl, .inr rfl⟩, trivial⟩⟩
  ·refine RunC.regionW ?_
   refine zl (r := b false) (LOp.eqb (LOp.lss rfl rfl rfl) hc2) ?_
   refine zN ?_
   refine RunC.seq ?_
   refine RunC.cond_false rfl rfl ?_
   refine RunC.exit ?_
   cases Option.some.inj h4_
   have hx := ho4 _ rfl
   exact ⟨L4, hl5, ⟨aR, aR, trivial⟩, ⟨⟨rfl, .inr rfl⟩, ⟨rfl, .inr rfl⟩, ⟨rfl, .inr rfl⟩, trivial⟩, hx⟩
 ·rintro τ7 Γ7 ⟨L17, hl18, hw7, hd7, rfl⟩
  refine RunC.wl hw7 hd7 ?_
  replace h : i_made_2Fi_OuterMatrix_1_k3 r1 r2 L17 = some (q0, q1, q2) := h
  unfold i_made_2Fi_OuterMatrix_1_k3 at h
  refine zQ ?_
  refine ROps.d (r := agg (oXc r1 r2 1 1 r3.length)) (fs := []) (Γ' := [⟨1, some zMx⟩, ⟨1, some (L17.map f32)⟩, ⟨1, some (oXc r1 r2 1 1 r3.length)⟩]) rfl rfl rfl (TOp.loadAgg_o rfl agg26 siz26 rfl rfl rfl rfl) rfl ?_
  refine ROps.store_le (r := agg (oXc r1 r2 1 1 r3.length)) (l' := (oXc r1 r2 1 1 r3.length)) (Γ' := [⟨1, some (oXc r1 r2 1 1 r3.length)⟩, ⟨1, some (L17.map f32)⟩, ⟨1, some (oXc r1 r2 1 1 r3.length)⟩]) rfl siz26 rfl rfl rfl aR rfl rfl rfl rfl (Nat.le_of_ble_eq_true rfl) rfl rfl ?_
  refine zN ?_
  refine RunC.ret ?_
  have hq := Option.some.inj h
  obtain ⟨hq0, hq⟩ := Prod.mk.inj hq
  obtain ⟨hq1, hq⟩ := Prod.mk.inj hq
  subst q0
  subst q1
  subst q2
  exact bodyQ.mk (r' := agg (oXc r1 r2 1 1 L17.length)) [(1, 1)] (.inr rfl) rfl (show List.Nodup [1] from by decide) rfl rfl (Res.eq (Res.one rfl (RV.cell agg26 siz26 rfl rfl rfl rfl)) (by rw [(show L17.length = r3.length from hl18)] <;> rfl)) (SelL.arr0 (f := f32) (fun _ => rfl) rfl trivial)
end Go.Proofs.Ytcjbfpoaidjpaaa
