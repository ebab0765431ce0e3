/- Generated. -/
import Derived.Test.YtcoookgeialmnaaGreatTys
namespace Go.Proofs.YtcoookgeialmnaaGreat
open Go Go.AM Go.AM.AV
set_option maxRecDepth 20000
set_option maxHeartbeats 4000000
set_option linter.unusedVariables false
set_option linter.unusedSimpArgs false
noncomputable def w_szFloat32S (a0 : List F) (a1 : Int) : Option (Int) :=
 olet (IntKind.i64.wrap (a1 - (a0.length : Int))) fun (x1 : Int) =>
 bsel (decide (x1 < 0)) (
  some (-1)) (
  some x1)
theorem w_szFloat32S_ok (a0 : List F) (a1 : Int) (q0 : Int) (h : w_szFloat32S a0 a1 = some q0) : Ev Tryz.prog 15 [sl a0.length (a0.map f32), i64 a1] [] (i64 q0) [] := by
 refine Ev.start Tryz.func15 rfl rfl 0 (τ := [(0, sl a0.length (a0.map f32)), (1, i64 a1)]) rfl (Γ' := []) rfl (n := 25) rfl (g := 0) rfl (fun _ => rfl) ?_
 unfold w_szFloat32S at h
 refine zQ ?_
 refine zA (r := i64 0) rfl rfl rfl rfl rfl ?_
 refine zN ?_
 refine RunC.seq ?_
 obtain ⟨x1, hx1, h⟩ := olet_some h
 refine RunC.regionW ?_
 refine zM (r := i64 a1) rfl rfl rfl rfl rfl ?_
 refine zM (r := sl a0.length (a0.map f32)) rfl rfl rfl rfl rfl ?_
 refine zL (r := i64 (a0.length : Int)) rfl rfl rfl (LOp.len_sl und22 rfl rfl) ?_
 refine zL (r := i64 x1) rfl rfl rfl (LOp.eqr (LOp.sub rfl rfl rfl) (congrArg (ik .i64) hx1)) ?_
 refine zA (r := i64 x1) rfl rfl rfl rfl rfl ?_
 refine zN ?_
 refine RunC.seq ?_
 refine RunC.seq ?_
 rcases bsel_some h with ⟨hc2, h⟩ | ⟨hc2, h⟩
 ·refine RunC.regionW ?_
  refine zM (r := i64 x1) rfl rfl rfl rfl rfl ?_
  refine zL (r := b true) rfl rfl rfl (LOp.eqb (LOp.lss rfl rfl rfl) hc2) ?_
  refine zN ?_
  refine RunC.cond_true rfl rfl ?_
  refine zQ ?_
  refine zA (r := i64 (-1)) rfl rfl rfl rfl rfl ?_
  refine zN ?_
  refine RunC.ret ?_
  have hq := Option.some.inj h
  subst q0
  exact bodyQ.pure (.inr rfl) rfl (Res.one rfl (RV.tmp rfl))
 ·refine RunC.regionW ?_
  refine zM (r := i64 x1) rfl rfl rfl rfl rfl ?_
  refine zL (r := b false) rfl rfl rfl (LOp.eqb (LOp.lss rfl rfl rfl) hc2) ?_
  refine zN ?_
  refine RunC.cond_false rfl rfl ?_
  refine RunC.skip ?_
  refine zQ ?_
  refine zM (r := i64 x1) rfl rfl rfl rfl rfl ?_
  refine zA (r := i64 x1) rfl rfl rfl rfl rfl ?_
  refine zN ?_
  refine RunC.ret ?_
  have hq := Option.some.inj h
  subst q0
  exact bodyQ.pure (.inr rfl) rfl (Res.one rfl (RV.tmp rfl))
noncomputable def w_szMatrix (a0 : Int) (a1 : Int) (a2 : List F) (a3 : Int) : Option (Int) :=
 obind (w_szFloat32S a2 a3) fun (r1 : Int) =>
 bsel (decide (r1 < 0)) (
  some (-1)) (
  some r1)
theorem w_szMatrix_ok (a0 : Int) (a1 : Int) (a2 : List F) (a3 : Int) (q0 : Int) (h : w_szMatrix a0 a1 a2 a3 = some q0) : Ev Tryz.prog 5 [agg [i64 a0, i64 a1, sl a2.length (a2.map f32)], i64 a3] [] (i64 q0) [] := by
 refine Ev.start Tryz.func5 rfl rfl 0 (τ := [(0, agg [i64 a0, i64 a1, sl a2.length (a2.map f32)]), (1, i64 a3)]) rfl (Γ' := []) rfl (n := 25) rfl (g := 0) rfl (fun _ => rfl) ?_
 unfold w_szMatrix at h
 refine zQ ?_
 refine ROps.d (r := ptr [i64 a0, i64 a1, sl a2.length (a2.map f32)]) (fs := []) (Γ' := []) rfl rfl rfl (TOp.box_s rfl rfl rfl) rfl ?_
 refine zA (r := i64 0) rfl rfl rfl rfl rfl ?_
 refine zN ?_
 refine RunC.seq ?_
 obtain ⟨r1, hf1, h⟩ := obind_some h
 refine RunC.regionW ?_
 refine zL (r := ptr [sl a2.length (a2.map f32)]) rfl rfl rfl (LOp.fap und24 rfl siz22 rfl rfl rfl) ?_
 refine zL (r := sl a2.length (a2.map f32)) rfl rfl rfl (LOp.load1 agg22 rfl rfl) ?_
 refine zM (r := i64 a3) rfl rfl rfl rfl rfl ?_
 refine ROps.d (r := i64 r1) (fs := []) (Γ' := []) rfl rfl rfl (TOp.callB (CallAs.func ent15 rfl rfl) (Bors.cons (Bor.sl (fun _ => rfl)) (Bors.cons (Bor.pure rfl) Bors.nil)) rfl rfl (w_szFloat32S_ok a2 a3 r1 hf1)) rfl ?_
 refine zA (r := i64 r1) rfl rfl rfl rfl rfl ?_
 refine zN ?_
 refine RunC.seq ?_
 refine RunC.seq ?_
 rcases bsel_some h with ⟨hc2, h⟩ | ⟨hc2, h⟩
 ·refine RunC.regionW ?_
  refine zM (r := i64 r1) rfl rfl rfl rfl rfl ?_
  refine zL (r := b true) rfl rfl rfl (LOp.eqb (LOp.lss rfl rfl rfl) hc2) ?_
  refine zN ?_
  refine RunC.cond_true rfl rfl ?_
  refine zQ ?_
  refine zA (r := i64 (-1)) rfl rfl rfl rfl rfl ?_
  refine zN ?_
  refine RunC.ret ?_
  have hq := Option.some.inj h
  subst q0
  exact bodyQ.pure (.inr rfl) rfl (Res.one rfl (RV.tmp rfl))
 ·refine RunC.regionW ?_
  refine zM (r := i64 r1) rfl rfl rfl rfl rfl ?_
  refine zL (r := b false) rfl rfl rfl (LOp.eqb (LOp.lss rfl rfl rfl) hc2) ?_
  refine zN ?_
  refine RunC.cond_false rfl rfl ?_
  refine RunC.skip ?_
  refine zQ ?_
  refine zM (r := i64 r1) rfl rfl rfl rfl rfl ?_
  refine zA (r := i64 r1) rfl rfl rfl rfl rfl ?_
  refine zN ?_
  refine RunC.ret ?_
  have hq := Option.some.inj h
  subst q0
  exact bodyQ.pure (.inr rfl) rfl (Res.one rfl (RV.tmp rfl))
noncomputable def w_toFloat32S_b1 (a0 : List F) (L1 : List F) (v3 : Int) : Option (LR ((List F) × Int) ((List F)) ((List F))) :=
 bsel (decide (v3 < (a0.length : Int))) (
  obind (at? a0 v3) fun (e4 : F) =>
  obind (setAt? L1 v3 e4) fun (L5 : List F) =>
  olet (IntKind.i64.wrap (v3 + 1)) fun (x6 : Int) =>
  some (LR.next (L5, x6))) (
  some (LR.out L1))
noncomputable def w_toFloat32S_s1 (a0 : List F) : ((List F) × Int) → Option (LR ((List F) × Int) ((List F)) ((List F))) := fun s => w_toFloat32S_b1 a0 s.1 s.2
noncomputable def w_toFloat32S_k1 (L7 : List F) : Option ((List F)) :=
 some L7
noncomputable def w_toFloat32S (a0 : List F) : Option ((List F)) :=
 need (mkok 4 (a0.length : Int)) <|
 obind (loopM (w_toFloat32S_s1 a0) ((List.replicate (a0.length : Int).toNat (some 0)), 0)) fun z => osum z (fun e => w_toFloat32S_k1 e) (fun r => some r)
theorem w_toFloat32S_ok (a0 : List F) (q0 : List F) (h : w_toFloat32S a0 = some q0) : Ev Tryz.prog 23 [sl a0.length (a0.map f32)] [] (oref 0 0 0 q0.length) [⟨0, some (q0.map f32)⟩] := by
 refine Ev.start Tryz.func23 rfl rfl 1 (τ := [(0, sl a0.length (a0.map f32))]) rfl (Γ' := [⟨0, none⟩]) rfl (n := 45) rfl (g := 0) rfl (fun _ => rfl) ?_
 unfold w_toFloat32S at h
 refine zQ ?_
 refine zA (r := nilsl) rfl rfl rfl rfl rfl ?_
 refine zN ?_
 refine RunC.seq ?_
 obtain ⟨hm1, h⟩ := need_some h
 refine RunC.regionW ?_
 refine zM (r := sl a0.length (a0.map f32)) rfl rfl rfl rfl rfl ?_
 refine zL (r := i64 (a0.length : Int)) rfl rfl rfl (LOp.len_sl und22 rfl rfl) ?_
 refine ROps.d (r := oref 0 1 0 ((a0.length : Int).toNat)) (fs := [(0, ((List.replicate (a0.length : Int).toNat (some 0)).map f32))]) (Γ' := [⟨1, some ((List.replicate (a0.length : Int).toNat (some 0)).map f32)⟩]) rfl rfl rfl (TOp.mkS (g := ⟨0, none⟩) (t := 22) (e := 33) (by_ := 4) (f := f32) (zv := some 0) 0 rfl und22 tin33 rfl siz33 zer33 rfl zel33 rfl rfl rfl hm1) rfl ?_
 refine zA (r := oref 0 1 0 ((a0.length : Int).toNat)) rfl rfl rfl rfl rfl ?_
 refine zN ?_
 refine RunC.seq ?_
 refine zQ ?_
 refine zA (r := i64 0) rfl rfl rfl rfl rfl ?_
 refine zN ?_
 obtain ⟨z2, hz_2, h⟩ := obind_some h
 refine RunC.cutN (fun τ Γ => ∃ (L7 : List F), L7.length = (a0.length : Int).toNat ∧ WeakLe τ [(3, oref 0 1 0 ((a0.length : Int).toNat))] ∧ DeadLe Γ [⟨1, some (L7.map f32)⟩] ∧ z2 = .inl L7) ?_ ?_
 ·refine RunC.block (RunC.loop (RunL.loopM (x := z2) (w_toFloat32S_s1 a0) (fun (s : (List F) × Int) τ Γ => s.1.length = (a0.length : Int).toNat ∧ WeakLe τ [(0, sl a0.length (a0.map f32)), (3, oref 0 1 0 ((a0.length : Int).toNat)), (4, i64 s.2)] ∧ DeadLe Γ [⟨1, some (s.1.map f32)⟩]) ?_ _ _ _ hz_2 ⟨List.length_replicate, ⟨aR, aR, aR, trivial⟩, ⟨⟨rfl, .inr rfl⟩, trivial⟩⟩))
  rintro ⟨L1, v3⟩ τ2 Γ2 y2_ ⟨hl2, hw2, hd2⟩ h2_ ho2 hr2
  refine RunC.wl (τ' := [(0, sl a0.length (a0.map f32)), (3, oref 0 1 0 ((a0.length : Int).toNat)), (4, i64 v3)]) (Γ' := [⟨1, some (L1.map f32)⟩]) hw2 hd2 ?_
  replace hl2 : L1.length = (a0.length : Int).toNat := hl2
  replace h2_ : w_toFloat32S_b1 a0 L1 v3 = some y2_ := h2_
  unfold w_toFloat32S_b1 at h2_
  refine RunC.seq ?_
  refine RunC.seq ?_
  rcases bsel_some h2_ with ⟨hc2, h2_⟩ | ⟨hc2, h2_⟩
  ·refine RunC.regionW ?_
   refine zM (r := i64 v3) rfl rfl rfl rfl rfl ?_
   refine zM (r := sl a0.length (a0.map f32)) rfl rfl rfl rfl rfl ?_
   refine zL (r := i64 (a0.length : Int)) rfl rfl rfl (LOp.len_sl und22 rfl rfl) ?_
   refine zL (r := b true) rfl rfl rfl (LOp.eqb (LOp.lss rfl rfl rfl) hc2) ?_
   refine zN ?_
   refine RunC.cond_true rfl rfl ?_
   refine RunC.skip ?_
   refine RunC.seq ?_
   refine RunC.block ?_
   obtain ⟨e4, he3, h2_⟩ := obind_some h2_
   obtain ⟨L5, he4, h2_⟩ := obind_some h2_
   refine RunC.regionW ?_
   refine zM (r := oref 0 1 0 ((a0.length : Int).toNat)) rfl rfl rfl rfl rfl ?_
   refine zM (r := i64 v3) rfl rfl rfl rfl rfl ?_
   refine zM (r := sl a0.length (a0.map f32)) rfl rfl rfl rfl rfl ?_
   refine zM (r := i64 v3) rfl rfl rfl rfl rfl ?_
   refine zL (r := ptr [f32 e4]) rfl rfl rfl (LOp.le (LOp.ix (f := f32) und22 siz33 rfl rfl rfl rfl he3) ALe.ptr) ?_
   refine zL (r := f32 e4) rfl rfl rfl (LOp.load1 agg33 rfl rfl) ?_
   refine ROps.d (r := optr 0 1 v3.toNat) (fs := []) (Γ' := [⟨1, some (L1.map f32)⟩]) rfl rfl rfl (TOp.ixo und22 siz33 rfl rfl rfl (set_in he4 hl2) rfl) rfl ?_
   refine ROps.st (f := f32) (i := v3) (Γ' := [⟨1, some (L5.map f32)⟩]) rfl siz33 rfl rfl rfl aR rfl rfl rfl he4 rfl ?_
   refine zN ?_
   obtain ⟨x6, hx5, h2_⟩ := olet_some h2_
   refine RunC.regionW ?_
   refine zM (r := i64 v3) rfl rfl rfl rfl rfl ?_
   refine zL (r := i64 x6) rfl rfl rfl (LOp.eqr (LOp.add rfl rfl rfl) (congrArg (ik .i64) hx5)) ?_
   refine zA (r := i64 x6) rfl rfl rfl rfl rfl ?_
   refine zN ?_
   cases Option.some.inj h2_
   exact ⟨_, rfl, ((setAt?_len he4).trans hl2), ⟨aR, aR, aR, trivial⟩, ⟨⟨rfl, .inr rfl⟩, trivial⟩⟩
  ·refine RunC.regionW ?_
   refine zM (r := i64 v3) rfl rfl rfl rfl rfl ?_
   refine zM (r := sl a0.length (a0.map f32)) rfl rfl rfl rfl rfl ?_
   refine zL (r := i64 (a0.length : Int)) rfl rfl rfl (LOp.len_sl und22 rfl rfl) ?_
   refine zL (r := b false) rfl rfl rfl (LOp.eqb (LOp.lss rfl rfl rfl) hc2) ?_
   refine zN ?_
   refine RunC.cond_false rfl rfl ?_
   refine RunC.exit ?_
   cases Option.some.inj h2_
   have hx := ho2 _ rfl
   exact ⟨L1, hl2, ⟨aR, trivial⟩, ⟨⟨rfl, .inr rfl⟩, trivial⟩, hx⟩
 ·rintro τ3 Γ3 ⟨L7, hl8, hw3, hd3, rfl⟩
  refine RunC.wl hw3 hd3 ?_
  replace h : w_toFloat32S_k1 L7 = some q0 := h
  unfold w_toFloat32S_k1 at h
  refine zQ ?_
  refine zM (r := oref 0 1 0 ((a0.length : Int).toNat)) rfl rfl rfl rfl rfl ?_
  refine zA (r := oref 0 1 0 ((a0.length : Int).toNat)) rfl rfl rfl rfl rfl ?_
  refine zN ?_
  refine RunC.ret ?_
  have hq := Option.some.inj h
  subst q0
  exact bodyQ.mk (r' := oref 0 1 0 L7.length) [(0, 1)] (.inr rfl) rfl (show List.Nodup [0] from by decide) rfl rfl (Res.eq (Res.one rfl (RV.tmp rfl)) (by rw [(show L7.length = (a0.length : Int).toNat from hl8)] <;> rfl)) (SelL.arr0 (f := f32) (fun _ => rfl) rfl trivial)
noncomputable def w_toMatrix (a0 : Int) (a1 : Int) (a2 : List F) : Option (Int × Int × (List F)) :=
 obind (w_toFloat32S a2) fun (r1 : List F) =>
 some (a0, a1, r1)
theorem w_toMatrix_ok (a0 : Int) (a1 : Int) (a2 : List F) (q0 : Int) (q1 : Int) (q2 : List F) (h : w_toMatrix a0 a1 a2 = some (q0, q1, q2)) : Ev Tryz.prog 7 [agg [i64 a0, i64 a1, sl a2.length (a2.map f32)]] [] (agg [i64 q0, i64 q1, oref 0 0 0 q2.length]) [⟨0, some (q2.map f32)⟩] := by
 refine Ev.start Tryz.func7 rfl rfl 3 (τ := [(0, agg [i64 a0, i64 a1, sl a2.length (a2.map f32)])]) rfl (Γ' := [⟨0, none⟩, ⟨0, none⟩, ⟨0, none⟩]) rfl (n := 31) rfl (g := 0) rfl (fun _ => rfl) ?_
 unfold w_toMatrix at h
 refine zQ ?_
 refine ROps.d (r := ptr [i64 a0, i64 a1, sl a2.length (a2.map f32)]) (fs := []) (Γ' := [⟨0, none⟩, ⟨0, none⟩, ⟨0, none⟩]) rfl rfl rfl (TOp.box_s rfl rfl rfl) rfl ?_
 refine ROps.d (r := optr 0 1 0) (fs := [(0, [i64 0, i64 0, nilsl])]) (Γ' := [⟨1, some [i64 0, i64 0, nilsl]⟩, ⟨0, none⟩, ⟨0, none⟩]) rfl rfl rfl (TOp.alloc_o (g := ⟨0, none⟩) 0 rfl zer26 zok26 rfl) rfl ?_
 refine zN ?_
 refine zQ ?_
 refine ROps.d (r := optr 1 1 0) (fs := [(1, [i64 0, i64 0, nilsl])]) (Γ' := [⟨1, some [i64 0, i64 0, nilsl]⟩, ⟨1, some [i64 0, i64 0, nilsl]⟩, ⟨0, none⟩]) rfl rfl rfl (TOp.alloc_o (g := ⟨0, none⟩) 1 rfl zer26 zok26 rfl) rfl ?_
 refine zN ?_
 refine zQ ?_
 refine zL (r := ptr [i64 a0, i64 a1, sl a2.length (a2.map f32)]) rfl rfl rfl (LOp.fap und24 rfl siz2 rfl rfl rfl) ?_
 refine zL (r := i64 a0) rfl rfl rfl (LOp.load1 agg2 rfl rfl) ?_
 refine zL (r := optr 1 1 0) rfl rfl rfl (LOp.fao und26 rfl siz2 rfl rfl rfl) ?_
 refine ROps.store_le (r := i64 a0) (l' := [i64 a0, i64 0, nilsl]) (Γ' := [⟨1, some [i64 0, i64 0, nilsl]⟩, ⟨1, some [i64 a0, i64 0, nilsl]⟩, ⟨0, none⟩]) rfl siz2 rfl rfl rfl aR rfl rfl rfl rfl (Nat.le_of_ble_eq_true rfl) rfl rfl ?_
 refine zN ?_
 refine zQ ?_
 refine zL (r := ptr [i64 a1, sl a2.length (a2.map f32)]) rfl rfl rfl (LOp.fap und24 rfl siz2 rfl rfl rfl) ?_
 refine zL (r := i64 a1) rfl rfl rfl (LOp.load1 agg2 rfl rfl) ?_
 refine zL (r := optr 1 1 1) rfl rfl rfl (LOp.fao und26 rfl siz2 rfl rfl rfl) ?_
 refine ROps.store_le (r := i64 a1) (l' := [i64 a0, i64 a1, nilsl]) (Γ' := [⟨1, some [i64 0, i64 0, nilsl]⟩, ⟨1, some [i64 a0, i64 a1, nilsl]⟩, ⟨0, none⟩]) rfl siz2 rfl rfl rfl aR rfl rfl rfl rfl (Nat.le_of_ble_eq_true rfl) rfl rfl ?_
 refine zN ?_
 refine RunC.seq ?_
 obtain ⟨r1, hf1, h⟩ := obind_some h
 refine RunC.regionW ?_
 refine zL (r := ptr [sl a2.length (a2.map f32)]) rfl rfl rfl (LOp.fap und24 rfl siz22 rfl rfl rfl) ?_
 refine zL (r := sl a2.length (a2.map f32)) rfl rfl rfl (LOp.load1 agg22 rfl rfl) ?_
 refine ROps.d (r := oref 2 1 0 r1.length) (fs := [(2, (r1.map f32))]) (Γ' := [⟨1, some [i64 0, i64 0, nilsl]⟩, ⟨1, some [i64 a0, i64 a1, nilsl]⟩, ⟨1, some (r1.map f32)⟩]) rfl rfl rfl (TOp.callBN (ls := [(r1.map f32)]) [2] (CallAs.func ent23 rfl rfl) (Bors.cons (Bor.sl (fun _ => rfl)) Bors.nil) rfl (w_toFloat32S_ok a2 r1 hf1) (and_all (lts0_map (f := f32) (fun _ => rfl) _) rfl) (and_all (noss_map (f := f32) (fun _ => rfl) _) rfl) rfl (by decide) (ns_of ⟨⟨_, rfl⟩, trivial⟩)) rfl ?_
 refine zL (r := optr 1 1 2) rfl rfl rfl (LOp.fao und26 rfl siz22 rfl rfl rfl) ?_
 refine ROps.store_le (r := oref 2 1 0 r1.length) (l' := [i64 a0, i64 a1, oref 2 1 0 r1.length]) (Γ' := [⟨1, some [i64 0, i64 0, nilsl]⟩, ⟨1, some [i64 a0, i64 a1, oref 2 1 0 r1.length]⟩, ⟨1, some (r1.map f32)⟩]) rfl siz22 rfl rfl rfl aR rfl rfl rfl rfl (Nat.le_of_ble_eq_true rfl) rfl rfl ?_
 refine zN ?_
 refine zQ ?_
 refine ROps.d (r := agg [i64 a0, i64 a1, oref 2 1 0 r1.length]) (fs := []) (Γ' := [⟨1, some [i64 0, i64 0, nilsl]⟩, ⟨1, some [i64 a0, i64 a1, oref 2 1 0 r1.length]⟩, ⟨1, some (r1.map f32)⟩]) rfl rfl rfl (TOp.loadAgg_o rfl agg26 siz26 rfl rfl rfl rfl) rfl ?_
 refine ROps.store_le (r := agg [i64 a0, i64 a1, oref 2 1 0 r1.length]) (l' := [i64 a0, i64 a1, oref 2 1 0 r1.length]) (Γ' := [⟨1, some [i64 a0, i64 a1, oref 2 1 0 r1.length]⟩, ⟨1, some [i64 a0, i64 a1, oref 2 1 0 r1.length]⟩, ⟨1, some (r1.map f32)⟩]) rfl siz26 rfl rfl rfl aR rfl rfl rfl rfl (Nat.le_of_ble_eq_true rfl) rfl rfl ?_
 refine zN ?_
 refine RunC.ret ?_
 have hq := Option.some.inj h
 obtain ⟨hq0, hq⟩ := Prod.mk.inj hq
 obtain ⟨hq1, hq⟩ := Prod.mk.inj hq
 subst q0
 subst q1
 subst q2
 exact bodyQ.mk (r' := agg [i64 a0, i64 a1, oref 2 1 0 r1.length]) [(2, 1)] (.inr rfl) rfl (show List.Nodup [2] from by decide) rfl rfl (Res.one rfl (RV.cell agg26 siz26 rfl rfl rfl rfl)) (SelL.arr0 (f := f32) (fun _ => rfl) rfl trivial)
noncomputable def s_l00In (a0 : Int) (a1 : Int) (a2 : Int) : Option (Bool) :=
 bsel (decide (a1 ≤ a0)) (
  some (decide (a0 ≤ a2))) (
  some false)
theorem s_l00In_ok (a0 : Int) (a1 : Int) (a2 : Int) (q0 : Bool) (h : s_l00In a0 a1 a2 = some q0) : Ev Tryz.prog 17 [i64 a0, i64 a1, i64 a2] [] (b q0) [] := by
 refine Ev.start Tryz.func17 rfl rfl 0 (τ := [(0, i64 a0), (1, i64 a1), (2, i64 a2)]) rfl (Γ' := []) rfl (n := 31) rfl (g := 0) rfl (fun _ => rfl) ?_
 unfold s_l00In at h
 refine zQ ?_
 refine zA (r := b false) rfl rfl rfl rfl rfl ?_
 refine zN ?_
 refine RunC.seq ?_
 rcases bsel_some h with ⟨hc1, h⟩ | ⟨hc1, h⟩
 ·refine RunC.regionW ?_
  refine zM (r := i64 a0) rfl rfl rfl rfl rfl ?_
  refine zM (r := i64 a1) rfl rfl rfl rfl rfl ?_
  refine zL (r := b true) rfl rfl rfl (LOp.eqb (LOp.geq rfl rfl rfl) hc1) ?_
  refine zM (r := b true) rfl rfl rfl rfl rfl ?_
  refine zM (r := i64 a0) rfl rfl rfl rfl rfl ?_
  refine zM (r := i64 a2) rfl rfl rfl rfl rfl ?_
  refine zL (r := b (decide (a0 ≤ a2))) rfl rfl rfl (LOp.leq rfl rfl rfl) ?_
  refine zL (r := b (decide (a0 ≤ a2))) rfl rfl rfl (LOp.pick_true rfl rfl rfl) ?_
  refine zA (r := b (decide (a0 ≤ a2))) rfl rfl rfl rfl rfl ?_
  refine zN ?_
  refine RunC.ret ?_
  have hq := Option.some.inj h
  subst q0
  exact bodyQ.pure (.inr rfl) rfl (Res.one rfl (RV.tmp rfl))
 ·refine RunC.regionW ?_
  refine zM (r := i64 a0) rfl rfl rfl rfl rfl ?_
  refine zM (r := i64 a1) rfl rfl rfl rfl rfl ?_
  refine zL (r := b false) rfl rfl rfl (LOp.eqb (LOp.geq rfl rfl rfl) hc1) ?_
  refine zM (r := b false) rfl rfl rfl rfl rfl ?_
  refine ROps.s rfl rfl rfl ?_
  refine ROps.s rfl rfl rfl ?_
  refine ROps.s rfl rfl rfl ?_
  refine zL (r := b false) rfl rfl rfl (LOp.pick_false rfl rfl rfl) ?_
  refine zA (r := b false) rfl rfl rfl rfl rfl ?_
  refine zN ?_
  refine RunC.ret ?_
  have hq := Option.some.inj h
  subst q0
  exact bodyQ.pure (.inr rfl) rfl (Res.one rfl (RV.tmp rfl))
noncomputable def s_l02Sides (a0 : Int) (a1 : Int) : Option (Bool) :=
 obind (s_l00In a0 1 12) fun (r1 : Bool) =>
 bsel r1 (
  obind (s_l00In a1 1 12) fun (r2 : Bool) =>
  some r2) (
  some false)
theorem s_l02Sides_ok (a0 : Int) (a1 : Int) (q0 : Bool) (h : s_l02Sides a0 a1 = some q0) : Ev Tryz.prog 93 [i64 a0, i64 a1] [] (b q0) [] := by
 refine Ev.start Tryz.func93 rfl rfl 0 (τ := [(0, i64 a0), (1, i64 a1)]) rfl (Γ' := []) rfl (n := 23) rfl (g := 0) rfl (fun _ => rfl) ?_
 unfold s_l02Sides at h
 refine zQ ?_
 refine zA (r := b false) rfl rfl rfl rfl rfl ?_
 refine zN ?_
 refine RunC.seq ?_
 obtain ⟨r1, hf1, h⟩ := obind_some h
 rcases bsel_some h with ⟨hc2, h⟩ | ⟨hc2, h⟩
 ·obtain ⟨r2, hf3, h⟩ := obind_some h
  refine RunC.regionW ?_
  refine zM (r := i64 a0) rfl rfl rfl rfl rfl ?_
  refine ROps.d (r := b true) (fs := []) (Γ' := []) rfl rfl rfl (TOp.eqb (TOp.callB (CallAs.func ent17 rfl rfl) (Bors.cons (Bor.pure rfl) (Bors.cons (Bor.pure rfl) (Bors.cons (Bor.pure rfl) Bors.nil))) rfl rfl (s_l00In_ok a0 1 12 r1 hf1)) hc2) rfl ?_
  refine zM (r := b true) rfl rfl rfl rfl rfl ?_
  refine zM (r := i64 a1) rfl rfl rfl rfl rfl ?_
  refine ROps.d (r := b r2) (fs := []) (Γ' := []) rfl rfl rfl (TOp.callB (CallAs.func ent17 rfl rfl) (Bors.cons (Bor.pure rfl) (Bors.cons (Bor.pure rfl) (Bors.cons (Bor.pure rfl) Bors.nil))) rfl rfl (s_l00In_ok a1 1 12 r2 hf3)) rfl ?_
  refine zL (r := b r2) rfl rfl rfl (LOp.pick_true rfl rfl rfl) ?_
  refine zA (r := b r2) rfl rfl rfl rfl rfl ?_
  refine zN ?_
  refine RunC.ret ?_
  have hq := Option.some.inj h
  subst q0
  exact bodyQ.pure (.inr rfl) rfl (Res.one rfl (RV.tmp rfl))
 ·refine RunC.regionW ?_
  refine zM (r := i64 a0) rfl rfl rfl rfl rfl ?_
  refine ROps.d (r := b false) (fs := []) (Γ' := []) rfl rfl rfl (TOp.eqb (TOp.callB (CallAs.func ent17 rfl rfl) (Bors.cons (Bor.pure rfl) (Bors.cons (Bor.pure rfl) (Bors.cons (Bor.pure rfl) Bors.nil))) rfl rfl (s_l00In_ok a0 1 12 r1 hf1)) hc2) rfl ?_
  refine zM (r := b false) rfl rfl rfl rfl rfl ?_
  refine ROps.s rfl rfl rfl ?_
  refine ROps.s rfl rfl rfl ?_
  refine zL (r := b false) rfl rfl rfl (LOp.pick_false rfl rfl rfl) ?_
  refine zA (r := b false) rfl rfl rfl rfl rfl ?_
  refine zN ?_
  refine RunC.ret ?_
  have hq := Option.some.inj h
  subst q0
  exact bodyQ.pure (.inr rfl) rfl (Res.one rfl (RV.tmp rfl))
noncomputable def s_l01Finite (a0 : F) : Option (Bool) :=
 olet (fop .sub .f32 a0 a0) fun (x1 : F) =>
 some (feq .f32 x1 (some 0))
theorem s_l01Finite_ok (a0 : F) (q0 : Bool) (h : s_l01Finite a0 = some q0) : Ev Tryz.prog 53 [f32 a0] [] (b q0) [] := by
 refine Ev.start Tryz.func53 rfl rfl 0 (τ := [(0, f32 a0)]) rfl (Γ' := []) rfl (n := 15) rfl (g := 0) rfl (fun _ => rfl) ?_
 unfold s_l01Finite at h
 refine zQ ?_
 refine zA (r := b false) rfl rfl rfl rfl rfl ?_
 refine zN ?_
 refine RunC.seq ?_
 obtain ⟨x1, hx1, h⟩ := olet_some h
 refine RunC.regionW ?_
 refine zM (r := f32 a0) rfl rfl rfl rfl rfl ?_
 refine zM (r := f32 a0) rfl rfl rfl rfl rfl ?_
 refine ROps.d (r := f32 x1) (fs := []) (Γ' := []) rfl rfl rfl (TOp.eqr (TOp.fop (.inr (.inl rfl)) rfl (OpF.tmp rfl) (OpF.tmp rfl)) (congrArg (f .f32) hx1)) rfl ?_
 refine zL (r := b (feq .f32 x1 (some 0))) rfl rfl rfl (LOp.feq rfl (OpF.tmp rfl) (OpF.const rfl (by kernel_rfl) (by kernel_rfl))) ?_
 refine zA (r := b (feq .f32 x1 (some 0))) rfl rfl rfl rfl rfl ?_
 refine zN ?_
 refine RunC.ret ?_
 have hq := Option.some.inj h
 subst q0
 exact bodyQ.pure (.inr rfl) rfl (Res.one rfl (RV.tmp rfl))
noncomputable def s_l02Finite_b1 (a0 : List F) (v1 : Int) : Option (LR (Int) (Unit) (Bool)) :=
 bsel (decide (v1 < (a0.length : Int))) (
  obind (at? a0 v1) fun (e2 : F) =>
  obind (s_l01Finite e2) fun (r3 : Bool) =>
  bsel r3 (
   olet (IntKind.i64.wrap (v1 + 1)) fun (x4 : Int) =>
   some (LR.next x4)) (
   some (LR.ret false))) (
  some (LR.out ()))
noncomputable def s_l02Finite_s1 (a0 : List F) : (Int) → Option (LR (Int) (Unit) (Bool)) := fun s => s_l02Finite_b1 a0 s
noncomputable def s_l02Finite_k1  : Option (Bool) :=
 some true
noncomputable def s_l02Finite (a0 : List F) : Option (Bool) :=
 obind (loopM (s_l02Finite_s1 a0) 0) fun z => osum z (fun _ => s_l02Finite_k1) (fun r => some r)
theorem s_l02Finite_ok (a0 : List F) (q0 : Bool) (h : s_l02Finite a0 = some q0) : Ev Tryz.prog 94 [sl a0.length (a0.map f32)] [] (b q0) [] := by
 refine Ev.start Tryz.func94 rfl rfl 0 (τ := [(0, sl a0.length (a0.map f32))]) rfl (Γ' := []) rfl (n := 33) rfl (g := 0) rfl (fun _ => rfl) ?_
 unfold s_l02Finite at h
 refine zQ ?_
 refine zA (r := b false) rfl rfl rfl rfl rfl ?_
 refine zN ?_
 refine RunC.seq ?_
 refine zQ ?_
 refine zA (r := i64 0) rfl rfl rfl rfl rfl ?_
 refine zN ?_
 obtain ⟨z2, hz_2, h⟩ := obind_some h
 refine RunC.cutN (fun τ Γ => WeakLe τ [] ∧ DeadLe Γ [] ∧ z2 = .inl ()) ?_ ?_
 ·refine RunC.block (RunC.loop (RunL.loopM (x := z2) (s_l02Finite_s1 a0) (fun (s : Int) τ Γ => WeakLe τ [(0, sl a0.length (a0.map f32)), (3, i64 s)] ∧ DeadLe Γ []) ?_ _ _ _ hz_2 ⟨⟨aR, aR, trivial⟩, trivial⟩))
  rintro v1 τ2 Γ2 y2_ ⟨hw2, hd2⟩ h2_ ho2 hr2
  refine RunC.wl (τ' := [(0, sl a0.length (a0.map f32)), (3, i64 v1)]) (Γ' := []) hw2 hd2 ?_
  replace h2_ : s_l02Finite_b1 a0 v1 = some y2_ := h2_
  unfold s_l02Finite_b1 at h2_
  refine RunC.seq ?_
  refine RunC.seq ?_
  rcases bsel_some h2_ with ⟨hc1, h2_⟩ | ⟨hc1, h2_⟩
  ·refine RunC.regionW ?_
   refine zM (r := i64 v1) rfl rfl rfl rfl rfl ?_
   refine zM (r := sl a0.length (a0.map f32)) rfl rfl rfl rfl rfl ?_
   refine zL (r := i64 (a0.length : Int)) rfl rfl rfl (LOp.len_sl und22 rfl rfl) ?_
   refine zL (r := b true) rfl rfl rfl (LOp.eqb (LOp.lss rfl rfl rfl) hc1) ?_
   refine zN ?_
   refine RunC.cond_true rfl rfl ?_
   refine RunC.skip ?_
   refine RunC.seq ?_
   refine RunC.block ?_
   refine RunC.seq ?_
   obtain ⟨e2, he2, h2_⟩ := obind_some h2_
   obtain ⟨r3, hf3, h2_⟩ := obind_some h2_
   rcases bsel_some h2_ with ⟨hc4, h2_⟩ | ⟨hc4, h2_⟩
   ·refine RunC.regionW ?_
    refine zM (r := sl a0.length (a0.map f32)) rfl rfl rfl rfl rfl ?_
    refine zM (r := i64 v1) rfl rfl rfl rfl rfl ?_
    refine zL (r := ptr [f32 e2]) rfl rfl rfl (LOp.le (LOp.ix (f := f32) und22 siz33 rfl rfl rfl rfl he2) ALe.ptr) ?_
    refine zL (r := f32 e2) rfl rfl rfl (LOp.load1 agg33 rfl rfl) ?_
    refine ROps.d (r := b true) (fs := []) (Γ' := []) rfl rfl rfl (TOp.eqb (TOp.callB (CallAs.func ent53 rfl rfl) (Bors.cons (Bor.pure rfl) Bors.nil) rfl rfl (s_l01Finite_ok e2 r3 hf3)) hc4) rfl ?_
    refine zL (r := b false) rfl rfl rfl (LOp.eqb (LOp.not rfl rfl) rfl) ?_
    refine zN ?_
    refine RunC.cond_false rfl rfl ?_
    refine RunC.skip ?_
    obtain ⟨x4, hx5, h2_⟩ := olet_some h2_
    refine RunC.regionW ?_
    refine zM (r := i64 v1) rfl rfl rfl rfl rfl ?_
    refine zL (r := i64 x4) rfl rfl rfl (LOp.eqr (LOp.add rfl rfl rfl) (congrArg (ik .i64) hx5)) ?_
    refine zA (r := i64 x4) rfl rfl rfl rfl rfl ?_
    refine zN ?_
    cases Option.some.inj h2_
    exact ⟨_, rfl, ⟨aR, aR, trivial⟩, trivial⟩
   ·refine RunC.regionW ?_
    refine zM (r := sl a0.length (a0.map f32)) rfl rfl rfl rfl rfl ?_
    refine zM (r := i64 v1) rfl rfl rfl rfl rfl ?_
    refine zL (r := ptr [f32 e2]) rfl rfl rfl (LOp.le (LOp.ix (f := f32) und22 siz33 rfl rfl rfl rfl he2) ALe.ptr) ?_
    refine zL (r := f32 e2) rfl rfl rfl (LOp.load1 agg33 rfl rfl) ?_
    refine ROps.d (r := b false) (fs := []) (Γ' := []) rfl rfl rfl (TOp.eqb (TOp.callB (CallAs.func ent53 rfl rfl) (Bors.cons (Bor.pure rfl) Bors.nil) rfl rfl (s_l01Finite_ok e2 r3 hf3)) hc4) rfl ?_
    refine zL (r := b true) rfl rfl rfl (LOp.eqb (LOp.not rfl rfl) rfl) ?_
    refine zN ?_
    refine RunC.cond_true rfl rfl ?_
    refine zQ ?_
    refine zA (r := b false) rfl rfl rfl rfl rfl ?_
    refine zN ?_
    refine RunC.ret ?_
    cases Option.some.inj h2_
    have hx3_ := hr2 _ rfl
    subst hx3_
    have hq := Option.some.inj h
    subst q0
    exact bodyQ.pure (.inr rfl) rfl (Res.one rfl (RV.tmp rfl))
  ·refine RunC.regionW ?_
   refine zM (r := i64 v1) rfl rfl rfl rfl rfl ?_
   refine zM (r := sl a0.length (a0.map f32)) rfl rfl rfl rfl rfl ?_
   refine zL (r := i64 (a0.length : Int)) rfl rfl rfl (LOp.len_sl und22 rfl rfl) ?_
   refine zL (r := b false) rfl rfl rfl (LOp.eqb (LOp.lss rfl rfl rfl) hc1) ?_
   refine zN ?_
   refine RunC.cond_false rfl rfl ?_
   refine RunC.exit ?_
   cases Option.some.inj h2_
   have hx := ho2 _ rfl
   exact ⟨trivial, trivial, hx⟩
 ·rintro τ4 Γ4 ⟨hw4, hd4, rfl⟩
  refine RunC.wl hw4 hd4 ?_
  replace h : s_l02Finite_k1 = some q0 := h
  unfold s_l02Finite_k1 at h
  refine zQ ?_
  refine zA (r := b true) rfl rfl rfl rfl rfl ?_
  refine zN ?_
  refine RunC.ret ?_
  have hq := Option.some.inj h
  subst q0
  exact bodyQ.pure (.inr rfl) rfl (Res.one rfl (RV.tmp rfl))
noncomputable def s_l02Is (a0 : Int) (a1 : Int) (a2 : List F) : Option (Bool) :=
 obind (s_l02Sides a0 a1) fun (r1 : Bool) =>
 bsel r1 (
  olet (IntKind.i64.wrap (a0 * a1)) fun (x2 : Int) =>
  bsel (decide ((a2.length : Int) = x2)) (
   obind (s_l02Finite a2) fun (r3 : Bool) =>
   some r3) (
   some false)) (
  some false)
theorem s_l02Is_ok (a0 : Int) (a1 : Int) (a2 : List F) (q0 : Bool) (h : s_l02Is a0 a1 a2 = some q0) : Ev Tryz.prog 48 [ptr [i64 a0, i64 a1, sl a2.length (a2.map f32)]] [] (b q0) [] := by
 refine Ev.start Tryz.func48 rfl rfl 0 (τ := [(0, ptr [i64 a0, i64 a1, sl a2.length (a2.map f32)])]) rfl (Γ' := []) rfl (n := 73) rfl (g := 0) rfl (fun _ => rfl) ?_
 unfold s_l02Is at h
 refine zQ ?_
 refine zA (r := b false) rfl rfl rfl rfl rfl ?_
 refine zN ?_
 refine RunC.seq ?_
 obtain ⟨r1, hf1, h⟩ := obind_some h
 rcases bsel_some h with ⟨hc2, h⟩ | ⟨hc2, h⟩
 ·obtain ⟨x2, hx3, h⟩ := olet_some h
  rcases bsel_some h with ⟨hc4, h⟩ | ⟨hc4, h⟩
  ·obtain ⟨r3, hf5, h⟩ := obind_some h
   refine RunC.region_draw (Γ' := []) 34 mixed 
    (TR.l (r := ptr [i64 a0, i64 a1, sl a2.length (a2.map f32)]) rfl rfl (LOp.move rfl rfl) <|
    (TR.l (r := ptr [i64 a0, i64 a1, sl a2.length (a2.map f32)]) rfl rfl (LOp.nilCheck_ptr rfl rfl) <|
    (TR.l (r := ptr [i64 a0, i64 a1, sl a2.length (a2.map f32)]) rfl rfl (LOp.fap und26 rfl siz2 rfl rfl rfl) <|
    (TR.l (r := i64 a0) rfl rfl (LOp.load1 agg2 rfl rfl) <|
    (TR.l (r := ptr [i64 a0, i64 a1, sl a2.length (a2.map f32)]) rfl rfl (LOp.move rfl rfl) <|
    (TR.l (r := ptr [i64 a0, i64 a1, sl a2.length (a2.map f32)]) rfl rfl (LOp.nilCheck_ptr rfl rfl) <|
    (TR.l (r := ptr [i64 a1, sl a2.length (a2.map f32)]) rfl rfl (LOp.fap und26 rfl siz2 rfl rfl rfl) <|
    (TR.l (r := i64 a1) rfl rfl (LOp.load1 agg2 rfl rfl) <|
    (TR.d (r := b true) (fs := []) rfl rfl (TOp.eqb (TOp.callB (CallAs.func ent93 rfl rfl) (Bors.cons (Bor.pure rfl) (Bors.cons (Bor.pure rfl) Bors.nil)) rfl rfl (s_l02Sides_ok a0 a1 r1 hf1)) hc2) <|
    (TR.l (r := b true) rfl rfl (LOp.move rfl rfl) <|
    (TR.l (r := ptr [i64 a0, i64 a1, sl a2.length (a2.map f32)]) rfl rfl (LOp.move rfl rfl) <|
    (TR.l (r := ptr [i64 a0, i64 a1, sl a2.length (a2.map f32)]) rfl rfl (LOp.nilCheck_ptr rfl rfl) <|
    (TR.l (r := ptr [sl a2.length (a2.map f32)]) rfl rfl (LOp.fap und26 rfl siz22 rfl rfl rfl) <|
    (TR.l (r := sl a2.length (a2.map f32)) rfl rfl (LOp.load1 agg22 rfl rfl) <|
    (TR.l (r := i64 (a2.length : Int)) rfl rfl (LOp.len_sl und22 rfl rfl) <|
    (TR.l (r := ptr [i64 a0, i64 a1, sl a2.length (a2.map f32)]) rfl rfl (LOp.move rfl rfl) <|
    (TR.l (r := ptr [i64 a0, i64 a1, sl a2.length (a2.map f32)]) rfl rfl (LOp.nilCheck_ptr rfl rfl) <|
    (TR.l (r := ptr [i64 a0, i64 a1, sl a2.length (a2.map f32)]) rfl rfl (LOp.fap und26 rfl siz2 rfl rfl rfl) <|
    (TR.l (r := i64 a0) rfl rfl (LOp.load1 agg2 rfl rfl) <|
    (TR.l (r := ptr [i64 a0, i64 a1, sl a2.length (a2.map f32)]) rfl rfl (LOp.move rfl rfl) <|
    (TR.l (r := ptr [i64 a0, i64 a1, sl a2.length (a2.map f32)]) rfl rfl (LOp.nilCheck_ptr rfl rfl) <|
    (TR.l (r := ptr [i64 a1, sl a2.length (a2.map f32)]) rfl rfl (LOp.fap und26 rfl siz2 rfl rfl rfl) <|
    (TR.l (r := i64 a1) rfl rfl (LOp.load1 agg2 rfl rfl) <|
    (TR.l (r := i64 x2) rfl rfl (LOp.eqr (LOp.mul rfl rfl rfl) (congrArg (ik .i64) hx3)) <|
    (TR.l (r := b true) rfl rfl (LOp.eqb (LOp.eql rfl rfl rfl) hc4) <|
    (TR.l (r := b true) rfl rfl (LOp.pick_true rfl rfl rfl) <|
    (TR.l (r := b true) rfl rfl (LOp.move rfl rfl) <|
    (TR.l (r := ptr [i64 a0, i64 a1, sl a2.length (a2.map f32)]) rfl rfl (LOp.move rfl rfl) <|
    (TR.l (r := ptr [i64 a0, i64 a1, sl a2.length (a2.map f32)]) rfl rfl (LOp.nilCheck_ptr rfl rfl) <|
    (TR.l (r := ptr [sl a2.length (a2.map f32)]) rfl rfl (LOp.fap und26 rfl siz22 rfl rfl rfl) <|
    (TR.l (r := sl a2.length (a2.map f32)) rfl rfl (LOp.load1 agg22 rfl rfl) <|
    (TR.d (r := b r3) (fs := []) rfl rfl (TOp.callB (CallAs.func ent94 rfl rfl) (Bors.cons (Bor.sl (fun _ => rfl)) Bors.nil) rfl rfl (s_l02Finite_ok a2 r3 hf5)) <|
    (TR.l (r := b r3) rfl rfl (LOp.pick_true rfl rfl rfl) <|
    (TR.l (r := b r3) rfl rfl (LOp.assign rfl rfl) <|
    TR.nil)))))))))))))))))))))))))))))))))) rfl (by kernel_rfl) rfl fills_nil rfl ?_
   iterate 34 refine ROps.dropS ?_
   refine ROps.drop0 ?_
   refine zN ?_
   refine RunC.ret ?_
   have hq := Option.some.inj h
   subst q0
   exact bodyQ.pure (.inr rfl) rfl (Res.one rfl (RV.tmp rfl))
  ·refine RunC.region_draw (Γ' := []) 34 mixed 
    (TR.l (r := ptr [i64 a0, i64 a1, sl a2.length (a2.map f32)]) rfl rfl (LOp.move rfl rfl) <|
    (TR.l (r := ptr [i64 a0, i64 a1, sl a2.length (a2.map f32)]) rfl rfl (LOp.nilCheck_ptr rfl rfl) <|
    (TR.l (r := ptr [i64 a0, i64 a1, sl a2.length (a2.map f32)]) rfl rfl (LOp.fap und26 rfl siz2 rfl rfl rfl) <|
    (TR.l (r := i64 a0) rfl rfl (LOp.load1 agg2 rfl rfl) <|
    (TR.l (r := ptr [i64 a0, i64 a1, sl a2.length (a2.map f32)]) rfl rfl (LOp.move rfl rfl) <|
    (TR.l (r := ptr [i64 a0, i64 a1, sl a2.length (a2.map f32)]) rfl rfl (LOp.nilCheck_ptr rfl rfl) <|
    (TR.l (r := ptr [i64 a1, sl a2.length (a2.map f32)]) rfl rfl (LOp.fap und26 rfl siz2 rfl rfl rfl) <|
    (TR.l (r := i64 a1) rfl rfl (LOp.load1 agg2 rfl rfl) <|
    (TR.d (r := b true) (fs := []) rfl rfl (TOp.eqb (TOp.callB (CallAs.func ent93 rfl rfl) (Bors.cons (Bor.pure rfl) (Bors.cons (Bor.pure rfl) Bors.nil)) rfl rfl (s_l02Sides_ok a0 a1 r1 hf1)) hc2) <|
    (TR.l (r := b true) rfl rfl (LOp.move rfl rfl) <|
    (TR.l (r := ptr [i64 a0, i64 a1, sl a2.length (a2.map f32)]) rfl rfl (LOp.move rfl rfl) <|
    (TR.l (r := ptr [i64 a0, i64 a1, sl a2.length (a2.map f32)]) rfl rfl (LOp.nilCheck_ptr rfl rfl) <|
    (TR.l (r := ptr [sl a2.length (a2.map f32)]) rfl rfl (LOp.fap und26 rfl siz22 rfl rfl rfl) <|
    (TR.l (r := sl a2.length (a2.map f32)) rfl rfl (LOp.load1 agg22 rfl rfl) <|
    (TR.l (r := i64 (a2.length : Int)) rfl rfl (LOp.len_sl und22 rfl rfl) <|
    (TR.l (r := ptr [i64 a0, i64 a1, sl a2.length (a2.map f32)]) rfl rfl (LOp.move rfl rfl) <|
    (TR.l (r := ptr [i64 a0, i64 a1, sl a2.length (a2.map f32)]) rfl rfl (LOp.nilCheck_ptr rfl rfl) <|
    (TR.l (r := ptr [i64 a0, i64 a1, sl a2.length (a2.map f32)]) rfl rfl (LOp.fap und26 rfl siz2 rfl rfl rfl) <|
    (TR.l (r := i64 a0) rfl rfl (LOp.load1 agg2 rfl rfl) <|
    (TR.l (r := ptr [i64 a0, i64 a1, sl a2.length (a2.map f32)]) rfl rfl (LOp.move rfl rfl) <|
    (TR.l (r := ptr [i64 a0, i64 a1, sl a2.length (a2.map f32)]) rfl rfl (LOp.nilCheck_ptr rfl rfl) <|
    (TR.l (r := ptr [i64 a1, sl a2.length (a2.map f32)]) rfl rfl (LOp.fap und26 rfl siz2 rfl rfl rfl) <|
    (TR.l (r := i64 a1) rfl rfl (LOp.load1 agg2 rfl rfl) <|
    (TR.l (r := i64 x2) rfl rfl (LOp.eqr (LOp.mul rfl rfl rfl) (congrArg (ik .i64) hx3)) <|
    (TR.l (r := b false) rfl rfl (LOp.eqb (LOp.eql rfl rfl rfl) hc4) <|
    (TR.l (r := b false) rfl rfl (LOp.pick_true rfl rfl rfl) <|
    (TR.l (r := b false) rfl rfl (LOp.move rfl rfl) <|
    (TR.s rfl rfl <|
    (TR.s rfl rfl <|
    (TR.s rfl rfl <|
    (TR.s rfl rfl <|
    (TR.s rfl rfl <|
    (TR.l (r := b false) rfl rfl (LOp.pick_false rfl rfl rfl) <|
    (TR.l (r := b false) rfl rfl (LOp.assign rfl rfl) <|
    TR.nil)))))))))))))))))))))))))))))))))) rfl (by kernel_rfl) rfl fills_nil rfl ?_
   iterate 34 refine ROps.dropS ?_
   refine ROps.drop0 ?_
   refine zN ?_
   refine RunC.ret ?_
   have hq := Option.some.inj h
   subst q0
   exact bodyQ.pure (.inr rfl) rfl (Res.one rfl (RV.tmp rfl))
 ·refine RunC.region_draw (Γ' := []) 34 mixed 
   (TR.l (r := ptr [i64 a0, i64 a1, sl a2.length (a2.map f32)]) rfl rfl (LOp.move rfl rfl) <|
   (TR.l (r := ptr [i64 a0, i64 a1, sl a2.length (a2.map f32)]) rfl rfl (LOp.nilCheck_ptr rfl rfl) <|
   (TR.l (r := ptr [i64 a0, i64 a1, sl a2.length (a2.map f32)]) rfl rfl (LOp.fap und26 rfl siz2 rfl rfl rfl) <|
   (TR.l (r := i64 a0) rfl rfl (LOp.load1 agg2 rfl rfl) <|
   (TR.l (r := ptr [i64 a0, i64 a1, sl a2.length (a2.map f32)]) rfl rfl (LOp.move rfl rfl) <|
   (TR.l (r := ptr [i64 a0, i64 a1, sl a2.length (a2.map f32)]) rfl rfl (LOp.nilCheck_ptr rfl rfl) <|
   (TR.l (r := ptr [i64 a1, sl a2.length (a2.map f32)]) rfl rfl (LOp.fap und26 rfl siz2 rfl rfl rfl) <|
   (TR.l (r := i64 a1) rfl rfl (LOp.load1 agg2 rfl rfl) <|
   (TR.d (r := b false) (fs := []) rfl rfl (TOp.eqb (TOp.callB (CallAs.func ent93 rfl rfl) (Bors.cons (Bor.pure rfl) (Bors.cons (Bor.pure rfl) Bors.nil)) rfl rfl (s_l02Sides_ok a0 a1 r1 hf1)) hc2) <|
   (TR.l (r := b false) rfl rfl (LOp.move rfl rfl) <|
   (TR.s rfl rfl <|
   (TR.s rfl rfl <|
   (TR.s rfl rfl <|
   (TR.s rfl rfl <|
   (TR.s rfl rfl <|
   (TR.s rfl rfl <|
   (TR.s rfl rfl <|
   (TR.s rfl rfl <|
   (TR.s rfl rfl <|
   (TR.s rfl rfl <|
   (TR.s rfl rfl <|
   (TR.s rfl rfl <|
   (TR.s rfl rfl <|
   (TR.s rfl rfl <|
   (TR.s rfl rfl <|
   (TR.l (r := b false) rfl rfl (LOp.pick_false rfl rfl rfl) <|
   (TR.l (r := b false) rfl rfl (LOp.move rfl rfl) <|
   (TR.s rfl rfl <|
   (TR.s rfl rfl <|
   (TR.s rfl rfl <|
   (TR.s rfl rfl <|
   (TR.s rfl rfl <|
   (TR.l (r := b false) rfl rfl (LOp.pick_false rfl rfl rfl) <|
   (TR.l (r := b false) rfl rfl (LOp.assign rfl rfl) <|
   TR.nil)))))))))))))))))))))))))))))))))) rfl (by kernel_rfl) rfl fills_nil rfl ?_
  iterate 34 refine ROps.dropS ?_
  refine ROps.drop0 ?_
  refine zN ?_
  refine RunC.ret ?_
  have hq := Option.some.inj h
  subst q0
  exact bodyQ.pure (.inr rfl) rfl (Res.one rfl (RV.tmp rfl))
noncomputable def s_l02Square (a0 : Int) (a1 : Int) (a2 : List F) : Option (Bool) :=
 obind (s_l02Is a0 a1 a2) fun (r1 : Bool) =>
 bsel r1 (
  some (decide (a0 = a1))) (
  some false)
theorem s_l02Square_ok (a0 : Int) (a1 : Int) (a2 : List F) (q0 : Bool) (h : s_l02Square a0 a1 a2 = some q0) : Ev Tryz.prog 72 [ptr [i64 a0, i64 a1, sl a2.length (a2.map f32)]] [] (b q0) [] := by
 refine Ev.start Tryz.func72 rfl rfl 0 (τ := [(0, ptr [i64 a0, i64 a1, sl a2.length (a2.map f32)])]) rfl (Γ' := []) rfl (n := 33) rfl (g := 0) rfl (fun _ => rfl) ?_
 unfold s_l02Square at h
 refine zQ ?_
 refine zA (r := b false) rfl rfl rfl rfl rfl ?_
 refine zN ?_
 refine RunC.seq ?_
 obtain ⟨r1, hf1, h⟩ := obind_some h
 rcases bsel_some h with ⟨hc2, h⟩ | ⟨hc2, h⟩
 ·refine RunC.region_draw (Γ' := []) 14 mixed 
   (TR.l (r := ptr [i64 a0, i64 a1, sl a2.length (a2.map f32)]) rfl rfl (LOp.move rfl rfl) <|
   (TR.d (r := b true) (fs := []) rfl rfl (TOp.eqb (TOp.callB (CallAs.func ent48 rfl rfl) (Bors.cons (Bor.ptr (Bors.cons (Bor.pure rfl) (Bors.cons (Bor.pure rfl) (Bors.cons (Bor.sl (fun _ => rfl)) Bors.nil)))) Bors.nil) rfl rfl (s_l02Is_ok a0 a1 a2 r1 hf1)) hc2) <|
   (TR.l (r := b true) rfl rfl (LOp.move rfl rfl) <|
   (TR.l (r := ptr [i64 a0, i64 a1, sl a2.length (a2.map f32)]) rfl rfl (LOp.move rfl rfl) <|
   (TR.l (r := ptr [i64 a0, i64 a1, sl a2.length (a2.map f32)]) rfl rfl (LOp.nilCheck_ptr rfl rfl) <|
   (TR.l (r := ptr [i64 a0, i64 a1, sl a2.length (a2.map f32)]) rfl rfl (LOp.fap und26 rfl siz2 rfl rfl rfl) <|
   (TR.l (r := i64 a0) rfl rfl (LOp.load1 agg2 rfl rfl) <|
   (TR.l (r := ptr [i64 a0, i64 a1, sl a2.length (a2.map f32)]) rfl rfl (LOp.move rfl rfl) <|
   (TR.l (r := ptr [i64 a0, i64 a1, sl a2.length (a2.map f32)]) rfl rfl (LOp.nilCheck_ptr rfl rfl) <|
   (TR.l (r := ptr [i64 a1, sl a2.length (a2.map f32)]) rfl rfl (LOp.fap und26 rfl siz2 rfl rfl rfl) <|
   (TR.l (r := i64 a1) rfl rfl (LOp.load1 agg2 rfl rfl) <|
   (TR.l (r := b (decide (a0 = a1))) rfl rfl (LOp.eql rfl rfl rfl) <|
   (TR.l (r := b (decide (a0 = a1))) rfl rfl (LOp.pick_true rfl rfl rfl) <|
   (TR.l (r := b (decide (a0 = a1))) rfl rfl (LOp.assign rfl rfl) <|
   TR.nil)))))))))))))) rfl (by kernel_rfl) rfl fills_nil rfl ?_
  iterate 14 refine ROps.dropS ?_
  refine ROps.drop0 ?_
  refine zN ?_
  refine RunC.ret ?_
  have hq := Option.some.inj h
  subst q0
  exact bodyQ.pure (.inr rfl) rfl (Res.one rfl (RV.tmp rfl))
 ·refine RunC.region_draw (Γ' := []) 14 mixed 
   (TR.l (r := ptr [i64 a0, i64 a1, sl a2.length (a2.map f32)]) rfl rfl (LOp.move rfl rfl) <|
   (TR.d (r := b false) (fs := []) rfl rfl (TOp.eqb (TOp.callB (CallAs.func ent48 rfl rfl) (Bors.cons (Bor.ptr (Bors.cons (Bor.pure rfl) (Bors.cons (Bor.pure rfl) (Bors.cons (Bor.sl (fun _ => rfl)) Bors.nil)))) Bors.nil) rfl rfl (s_l02Is_ok a0 a1 a2 r1 hf1)) hc2) <|
   (TR.l (r := b false) rfl rfl (LOp.move rfl rfl) <|
   (TR.s rfl rfl <|
   (TR.s rfl rfl <|
   (TR.s rfl rfl <|
   (TR.s rfl rfl <|
   (TR.s rfl rfl <|
   (TR.s rfl rfl <|
   (TR.s rfl rfl <|
   (TR.s rfl rfl <|
   (TR.s rfl rfl <|
   (TR.l (r := b false) rfl rfl (LOp.pick_false rfl rfl rfl) <|
   (TR.l (r := b false) rfl rfl (LOp.assign rfl rfl) <|
   TR.nil)))))))))))))) rfl (by kernel_rfl) rfl fills_nil rfl ?_
  iterate 14 refine ROps.dropS ?_
  refine ROps.drop0 ?_
  refine zN ?_
  refine RunC.ret ?_
  have hq := Option.some.inj h
  subst q0
  exact bodyQ.pure (.inr rfl) rfl (Res.one rfl (RV.tmp rfl))
noncomputable def s_l02Own (a0 : Int) (a1 : Int) (a2 : List F) : Option (Int × Int × (List F)) :=
 need (apok 4 0 a2.length) <|
 some (a0, a1, (([] : List F) ++ a2))
theorem s_l02Own_ok (a0 : Int) (a1 : Int) (a2 : List F) (q0 : Int) (q1 : Int) (q2 : List F) (h : s_l02Own a0 a1 a2 = some (q0, q1, q2)) : Ev Tryz.prog 50 [ptr [i64 a0, i64 a1, sl a2.length (a2.map f32)]] [] (agg [i64 q0, i64 q1, oref 0 0 0 q2.length]) [⟨0, some (q2.map f32)⟩] := by
 refine Ev.start Tryz.func50 rfl rfl 2 (τ := [(0, ptr [i64 a0, i64 a1, sl a2.length (a2.map f32)])]) rfl (Γ' := [⟨0, none⟩, ⟨0, none⟩]) rfl (n := 37) rfl (g := 0) rfl (fun _ => rfl) ?_
 unfold s_l02Own at h
 refine zQ ?_
 refine ROps.d (r := optr 0 1 0) (fs := [(0, [i64 0, i64 0, nilsl])]) (Γ' := [⟨1, some [i64 0, i64 0, nilsl]⟩, ⟨0, none⟩]) rfl rfl rfl (TOp.alloc_o (g := ⟨0, none⟩) 0 rfl zer26 zok26 rfl) rfl ?_
 refine zN ?_
 refine RunC.seq ?_
 obtain ⟨hm1, h⟩ := need_some h
 refine RunC.region_draw (Γ' := [⟨1, some [i64 0, i64 0, nilsl]⟩, ⟨1, some (([] : List F).map f32)⟩]) 13 mixed 
  (TR.loose (r := ptr [i64 a0, i64 a1, sl a2.length (a2.map f32)]) rfl rfl (LOp.move rfl rfl) <|
  (TR.loose (r := ptr [i64 a0, i64 a1, sl a2.length (a2.map f32)]) rfl rfl (LOp.nilCheck_ptr rfl rfl) <|
  (TR.loose (r := ptr [i64 a0, i64 a1, sl a2.length (a2.map f32)]) rfl rfl (LOp.fap und26 rfl siz2 rfl rfl rfl) <|
  (TR.loose (r := i64 a0) rfl rfl (LOp.load1 agg2 rfl rfl) <|
  (TR.loose (r := ptr [i64 a0, i64 a1, sl a2.length (a2.map f32)]) rfl rfl (LOp.move rfl rfl) <|
  (TR.loose (r := ptr [i64 a0, i64 a1, sl a2.length (a2.map f32)]) rfl rfl (LOp.nilCheck_ptr rfl rfl) <|
  (TR.loose (r := ptr [i64 a1, sl a2.length (a2.map f32)]) rfl rfl (LOp.fap und26 rfl siz2 rfl rfl rfl) <|
  (TR.loose (r := i64 a1) rfl rfl (LOp.load1 agg2 rfl rfl) <|
  (TR.d (r := oref 1 1 0 0) (fs := [(1, (([] : List F).map f32))]) rfl rfl (TOp.buildSlice_o (g := ⟨0, none⟩) (za := f32 (some 0)) (qs := []) 1 rfl und22 siz33 zer33 rfl zel33 rfl rfl trivial rfl) <|
  (TR.l (r := ptr [i64 a0, i64 a1, sl a2.length (a2.map f32)]) rfl rfl (LOp.move rfl rfl) <|
  (TR.l (r := ptr [i64 a0, i64 a1, sl a2.length (a2.map f32)]) rfl rfl (LOp.nilCheck_ptr rfl rfl) <|
  (TR.l (r := ptr [sl a2.length (a2.map f32)]) rfl rfl (LOp.fap und26 rfl siz22 rfl rfl rfl) <|
  (TR.l (r := sl a2.length (a2.map f32)) rfl rfl (LOp.load1 agg22 rfl rfl) <|
  TR.nil))))))))))))) rfl (by kernel_rfl) rfl (fills_of (by show List.Nodup [1]; decide) ⟨⟨_, rfl⟩, trivial⟩) rfl ?_
 iterate 13 refine ROps.dropS ?_
 refine ROps.drop0 ?_
 refine ROps.app (f := f32) (xs := ([] : List F)) (ys := a2) (Γ' := [⟨1, some [i64 0, i64 0, nilsl]⟩, ⟨2, some ((([] : List F) ++ a2).map f32)⟩]) rfl pun22 inf33 rfl rfl rfl rfl rfl rfl rfl rfl rfl (by simp) (ReadAs.sl (by simp)) (ones_map (fun _ => rfl)) (ap_by hm1) (ap_mx hm1) rfl ?_
 refine zL (r := agg [i64 a0, i64 a1, oref 1 2 0 (0 + a2.length)]) rfl rfl rfl (LOp.build (qs := [(0, [i64 a0]), (1, [i64 a1]), (2, [oref 1 2 0 (0 + a2.length)])]) zer26 zok26 und26 plc26 rfl ⟨rfl, ⟨_, ALe.refl _, rfl⟩, ⟨rfl, ⟨_, ALe.refl _, rfl⟩, ⟨rfl, ⟨_, ALe.refl _, rfl⟩, trivial⟩⟩⟩ rfl) ?_
 refine ROps.store_le (r := agg [i64 a0, i64 a1, oref 1 2 0 (0 + a2.length)]) (l' := [i64 a0, i64 a1, oref 1 2 0 (0 + a2.length)]) (Γ' := [⟨1, some [i64 a0, i64 a1, oref 1 2 0 (0 + a2.length)]⟩, ⟨2, some ((([] : List F) ++ a2).map f32)⟩]) rfl siz26 rfl rfl rfl aR rfl rfl rfl rfl (Nat.le_of_ble_eq_true rfl) rfl rfl ?_
 refine zN ?_
 refine RunC.ret ?_
 have hq := Option.some.inj h
 obtain ⟨hq0, hq⟩ := Prod.mk.inj hq
 obtain ⟨hq1, hq⟩ := Prod.mk.inj hq
 subst q0
 subst q1
 subst q2
 exact bodyQ.mk (r' := agg [i64 a0, i64 a1, oref 1 2 0 ((([] : List F) ++ a2).length)]) [(1, 2)] (.inr rfl) rfl (show List.Nodup [1] from by decide) rfl rfl (Res.eq (Res.one rfl (RV.cell agg26 siz26 rfl rfl rfl rfl)) (by rw [(show (([] : List F) ++ a2).length = (0 + a2.length) from (app_len rfl rfl))] <;> rfl)) (SelL.arr0 (f := f32) (fun _ => rfl) rfl trivial)
noncomputable def s_l03Count_b1 (a0 : Int) (L3 : List Int) (v4 : Int) : Option (LR ((List Int) × Int) ((List Int)) ((List Int))) :=
 bsel (decide (v4 < a0)) (
  need (apok 8 L3.length 1) <|
  olet (IntKind.i64.wrap (v4 + 1)) fun (x5 : Int) =>
  some (LR.next ((L3 ++ ([v4] : List Int)), x5))) (
  some (LR.out L3))
noncomputable def s_l03Count_s1 (a0 : Int) : ((List Int) × Int) → Option (LR ((List Int) × Int) ((List Int)) ((List Int))) := fun s => s_l03Count_b1 a0 s.1 s.2
noncomputable def s_l03Count_k1 (L8 : List Int) : Option ((List Int)) :=
 some L8
noncomputable def s_l03Count (a0 : Int) : Option ((List Int)) :=
 obind (loopM (s_l03Count_s1 a0) (([] : List Int), 0)) fun z => osum z (fun e => s_l03Count_k1 e) (fun r => some r)
theorem s_l03Count_ok (a0 : Int) (q0 : List Int) (h : s_l03Count a0 = some q0) : Ev Tryz.prog 73 [i64 a0] [] (oref 0 0 0 q0.length) [⟨0, some (q0.map i64)⟩] := by
 refine Ev.start Tryz.func73 rfl rfl 2 (τ := [(0, i64 a0)]) rfl (Γ' := [⟨0, none⟩, ⟨0, none⟩]) rfl (n := 33) rfl (g := 0) rfl (fun _ => rfl) ?_
 unfold s_l03Count at h
 refine zQ ?_
 refine zA (r := nilsl) rfl rfl rfl rfl rfl ?_
 refine zN ?_
 refine zQ ?_
 refine ROps.d (r := oref 0 1 0 0) (fs := [(0, (([] : List Int).map i64))]) (Γ' := [⟨1, some (([] : List Int).map i64)⟩, ⟨0, none⟩]) rfl rfl rfl (TOp.buildSlice_o (g := ⟨0, none⟩) (za := i64 0) (qs := []) 0 rfl und53 siz2 zer2 rfl zel2 rfl rfl trivial rfl) rfl ?_
 refine zA (r := oref 0 1 0 0) rfl rfl rfl rfl rfl ?_
 refine zN ?_
 refine RunC.seq ?_
 refine zQ ?_
 refine zA (r := i64 0) rfl rfl rfl rfl rfl ?_
 refine zN ?_
 obtain ⟨z2, hz_2, h⟩ := obind_some h
 refine RunC.cutN (fun τ Γ => ∃ (L8 : List Int) (u6 : Nat) (u7 : Nat), WeakLe τ [(3, oref 0 u6 0 L8.length)] ∧ DeadLe Γ [⟨u6, some (L8.map i64)⟩, ⟨u7, none⟩] ∧ z2 = .inl L8) ?_ ?_
 ·refine RunC.block (RunC.loop (RunL.loopM (x := z2) (s_l03Count_s1 a0) (fun (s : (List Int) × Int) τ Γ => ∃ (u1 : Nat) (u2 : Nat), WeakLe τ [(0, i64 a0), (3, oref 0 u1 0 s.1.length), (4, i64 s.2)] ∧ DeadLe Γ [⟨u1, some (s.1.map i64)⟩, ⟨u2, none⟩]) ?_ _ _ _ hz_2 ⟨1, 0, ⟨aR, aR, aR, trivial⟩, ⟨⟨rfl, .inr rfl⟩, ⟨rfl, .inl rfl⟩, trivial⟩⟩))
  rintro ⟨L3, v4⟩ τ2 Γ2 y2_ ⟨u1, u2, hw2, hd2⟩ h2_ ho2 hr2
  refine RunC.wl (τ' := [(0, i64 a0), (3, oref 0 u1 0 L3.length), (4, i64 v4)]) (Γ' := [⟨u1, some (L3.map i64)⟩, ⟨u2, none⟩]) hw2 hd2 ?_
  replace h2_ : s_l03Count_b1 a0 L3 v4 = some y2_ := h2_
  unfold s_l03Count_b1 at h2_
  refine RunC.seq ?_
  refine RunC.seq ?_
  rcases bsel_some h2_ with ⟨hc1, h2_⟩ | ⟨hc1, h2_⟩
  ·refine RunC.regionW ?_
   refine zM (r := i64 v4) rfl rfl rfl rfl rfl ?_
   refine zM (r := i64 a0) rfl rfl rfl rfl rfl ?_
   refine zL (r := b true) rfl rfl rfl (LOp.eqb (LOp.lss rfl rfl rfl) hc1) ?_
   refine zN ?_
   refine RunC.cond_true rfl rfl ?_
   refine RunC.skip ?_
   refine RunC.seq ?_
   refine RunC.block ?_
   obtain ⟨hm2, h2_⟩ := need_some h2_
   refine RunC.regionW ?_
   refine zM (r := oref 0 u1 0 L3.length) rfl rfl rfl rfl rfl ?_
   refine zM (r := i64 v4) rfl rfl rfl rfl rfl ?_
   refine ROps.d (r := oref 1 (u2 + 1) 0 1) (fs := [(1, (([v4] : List Int).map i64))]) (Γ' := [⟨u1, some (L3.map i64)⟩, ⟨(u2 + 1), some (([v4] : List Int).map i64)⟩]) rfl rfl rfl (TOp.buildSlice_o (g := ⟨u2, none⟩) (za := i64 0) (qs := [(0, [i64 v4])]) 1 rfl und53 siz2 zer2 rfl zel2 rfl rfl ⟨rfl, ⟨_, ALe.refl _, rfl⟩, trivial⟩ rfl) rfl ?_
   refine ROps.app (f := i64) (xs := L3) (ys := ([v4] : List Int)) (Γ' := [⟨(u1 + 1), some ((L3 ++ ([v4] : List Int)).map i64)⟩, ⟨(u2 + 1), some (([v4] : List Int).map i64)⟩]) rfl pun53 inf2 rfl rfl rfl rfl rfl rfl rfl rfl rfl (by simp) (ReadAs.own rfl (by simp)) (ones_map (fun _ => rfl)) (ap_by hm2) (ap_mx hm2) rfl ?_
   refine zA (r := oref 0 (u1 + 1) 0 (L3.length + 1)) rfl rfl rfl rfl rfl ?_
   refine zN ?_
   refine RunC.wl (τ' := [(0, i64 a0), (3, oref 0 (u1 + 1) 0 (L3.length + 1)), (4, i64 v4)]) (Γ' := [⟨(u1 + 1), some ((L3 ++ ([v4] : List Int)).map i64)⟩, ⟨(u2 + 1), none⟩]) ⟨aR, aR, aR, trivial⟩ ⟨⟨rfl, .inr rfl⟩, ⟨rfl, .inl rfl⟩, trivial⟩ ?_
   obtain ⟨x5, hx3, h2_⟩ := olet_some h2_
   refine RunC.regionW ?_
   refine zM (r := i64 v4) rfl rfl rfl rfl rfl ?_
   refine zL (r := i64 x5) rfl rfl rfl (LOp.eqr (LOp.add rfl rfl rfl) (congrArg (ik .i64) hx3)) ?_
   refine zA (r := i64 x5) rfl rfl rfl rfl rfl ?_
   refine zN ?_
   cases Option.some.inj h2_
   exact ⟨_, rfl, (u1 + 1), (u2 + 1), ⟨aR, (ALe.eq (by rw [(app_len rfl rfl)] <;> rfl)), aR, trivial⟩, ⟨⟨rfl, .inr rfl⟩, ⟨rfl, .inl rfl⟩, trivial⟩⟩
  ·refine RunC.regionW ?_
   refine zM (r := i64 v4) rfl rfl rfl rfl rfl ?_
   refine zM (r := i64 a0) rfl rfl rfl rfl rfl ?_
   refine zL (r := b false) rfl rfl rfl (LOp.eqb (LOp.lss rfl rfl rfl) hc1) ?_
   refine zN ?_
   refine RunC.cond_false rfl rfl ?_
   refine RunC.exit ?_
   cases Option.some.inj h2_
   have hx := ho2 _ rfl
   exact ⟨L3, u1, u2, ⟨aR, trivial⟩, ⟨⟨rfl, .inr rfl⟩, ⟨rfl, .inl rfl⟩, trivial⟩, hx⟩
 ·rintro τ3 Γ3 ⟨L8, u6, u7, hw3, hd3, rfl⟩
  refine RunC.wl hw3 hd3 ?_
  replace h : s_l03Count_k1 L8 = some q0 := h
  unfold s_l03Count_k1 at h
  refine zQ ?_
  refine zM (r := oref 0 u6 0 L8.length) rfl rfl rfl rfl rfl ?_
  refine zA (r := oref 0 u6 0 L8.length) rfl rfl rfl rfl rfl ?_
  refine zN ?_
  refine RunC.ret ?_
  have hq := Option.some.inj h
  subst q0
  exact bodyQ.mk (r' := oref 0 u6 0 L8.length) [(0, u6)] (.inr rfl) rfl (show List.Nodup [0] from by decide) (by simp [ren, rens, sigma]) rfl (Res.one rfl (RV.tmp rfl)) (SelL.arr0 (f := i64) (fun _ => rfl) rfl trivial)
noncomputable def s_l02At (a0 : Int) (a1 : Int) (a2 : List F) (a3 : Int) (a4 : Int) : Option (F) :=
 olet (IntKind.i64.wrap (a3 * a1)) fun (x1 : Int) =>
 olet (IntKind.i64.wrap (x1 + a4)) fun (x2 : Int) =>
 obind (at? a2 x2) fun (e3 : F) =>
 some e3
theorem s_l02At_ok (a0 : Int) (a1 : Int) (a2 : List F) (a3 : Int) (a4 : Int) (q0 : F) (h : s_l02At a0 a1 a2 a3 a4 = some q0) : Ev Tryz.prog 21 [ptr [i64 a0, i64 a1, sl a2.length (a2.map f32)], i64 a3, i64 a4] [] (f32 q0) [] := by
 refine Ev.start Tryz.func21 rfl rfl 0 (τ := [(0, ptr [i64 a0, i64 a1, sl a2.length (a2.map f32)]), (1, i64 a3), (2, i64 a4)]) rfl (Γ' := []) rfl (n := 43) rfl (g := 0) rfl (fun _ => rfl) ?_
 unfold s_l02At at h
 refine zQ ?_
 refine zL (r := f32 (some 0)) rfl rfl rfl (LOp.le (LOp.assign rfl rfl) (ALe.fl (by kernel_rfl) (by kernel_rfl))) ?_
 refine zN ?_
 refine RunC.seq ?_
 obtain ⟨x1, hx1, h⟩ := olet_some h
 obtain ⟨x2, hx2, h⟩ := olet_some h
 obtain ⟨e3, he3, h⟩ := obind_some h
 refine RunC.region_draw (Γ' := []) 15 mixed 
  (TR.l (r := ptr [i64 a0, i64 a1, sl a2.length (a2.map f32)]) rfl rfl (LOp.move rfl rfl) <|
  (TR.l (r := ptr [i64 a0, i64 a1, sl a2.length (a2.map f32)]) rfl rfl (LOp.nilCheck_ptr rfl rfl) <|
  (TR.l (r := ptr [sl a2.length (a2.map f32)]) rfl rfl (LOp.fap und26 rfl siz22 rfl rfl rfl) <|
  (TR.l (r := sl a2.length (a2.map f32)) rfl rfl (LOp.load1 agg22 rfl rfl) <|
  (TR.l (r := i64 a3) rfl rfl (LOp.move rfl rfl) <|
  (TR.l (r := ptr [i64 a0, i64 a1, sl a2.length (a2.map f32)]) rfl rfl (LOp.move rfl rfl) <|
  (TR.l (r := ptr [i64 a0, i64 a1, sl a2.length (a2.map f32)]) rfl rfl (LOp.nilCheck_ptr rfl rfl) <|
  (TR.l (r := ptr [i64 a1, sl a2.length (a2.map f32)]) rfl rfl (LOp.fap und26 rfl siz2 rfl rfl rfl) <|
  (TR.l (r := i64 a1) rfl rfl (LOp.load1 agg2 rfl rfl) <|
  (TR.l (r := i64 x1) rfl rfl (LOp.eqr (LOp.mul rfl rfl rfl) (congrArg (ik .i64) hx1)) <|
  (TR.l (r := i64 a4) rfl rfl (LOp.move rfl rfl) <|
  (TR.l (r := i64 x2) rfl rfl (LOp.eqr (LOp.add rfl rfl rfl) (congrArg (ik .i64) hx2)) <|
  (TR.l (r := ptr [f32 e3]) rfl rfl (LOp.le (LOp.ix (f := f32) und22 siz33 rfl rfl rfl rfl he3) ALe.ptr) <|
  (TR.l (r := f32 e3) rfl rfl (LOp.load1 agg33 rfl rfl) <|
  (TR.l (r := f32 e3) rfl rfl (LOp.assign rfl rfl) <|
  TR.nil))))))))))))))) rfl (by kernel_rfl) rfl fills_nil rfl ?_
 iterate 15 refine ROps.dropS ?_
 refine ROps.drop0 ?_
 refine zN ?_
 refine RunC.ret ?_
 have hq := Option.some.inj h
 subst q0
 exact bodyQ.pure (.inr rfl) rfl (Res.one rfl (RV.tmp rfl))
noncomputable def s_l02Size (a0 : F) : Option (F) :=
 bsel (fle .f32 a0 (some 0)) (
  olet (fop .sub .f32 (some 0) a0) fun (x1 : F) =>
  some x1) (
  some a0)
theorem s_l02Size_ok (a0 : F) (q0 : F) (h : s_l02Size a0 = some q0) : Ev Tryz.prog 95 [f32 a0] [] (f32 q0) [] := by
 refine Ev.start Tryz.func95 rfl rfl 0 (τ := [(0, f32 a0)]) rfl (Γ' := []) rfl (n := 17) rfl (g := 0) rfl (fun _ => rfl) ?_
 unfold s_l02Size at h
 refine zQ ?_
 refine zL (r := f32 (some 0)) rfl rfl rfl (LOp.le (LOp.assign rfl rfl) (ALe.fl (by kernel_rfl) (by kernel_rfl))) ?_
 refine zN ?_
 refine RunC.seq ?_
 refine RunC.seq ?_
 rcases bsel_some h with ⟨hc1, h⟩ | ⟨hc1, h⟩
 ·refine RunC.regionW ?_
  refine zM (r := f32 a0) rfl rfl rfl rfl rfl ?_
  refine zL (r := b true) rfl rfl rfl (LOp.eqb (LOp.fle rfl (OpF.tmp rfl) (OpF.const rfl (by kernel_rfl) (by kernel_rfl))) hc1) ?_
  refine zN ?_
  refine RunC.cond_true rfl rfl ?_
  refine RunC.seq ?_
  obtain ⟨x1, hx2, h⟩ := olet_some h
  refine RunC.regionW ?_
  refine zM (r := f32 a0) rfl rfl rfl rfl rfl ?_
  refine ROps.d (r := f32 x1) (fs := []) (Γ' := []) rfl rfl rfl (TOp.eqr (TOp.fop (.inr (.inl rfl)) rfl (OpF.const rfl (by kernel_rfl) (by kernel_rfl)) (OpF.tmp rfl)) (congrArg (f .f32) hx2)) rfl ?_
  refine zA (r := f32 x1) rfl rfl rfl rfl rfl ?_
  refine zN ?_
  refine RunC.ret ?_
  have hq := Option.some.inj h
  subst q0
  exact bodyQ.pure (.inr rfl) rfl (Res.one rfl (RV.tmp rfl))
 ·refine RunC.regionW ?_
  refine zM (r := f32 a0) rfl rfl rfl rfl rfl ?_
  refine zL (r := b false) rfl rfl rfl (LOp.eqb (LOp.fle rfl (OpF.tmp rfl) (OpF.const rfl (by kernel_rfl) (by kernel_rfl))) hc1) ?_
  refine zN ?_
  refine RunC.cond_false rfl rfl ?_
  refine RunC.skip ?_
  refine zQ ?_
  refine zM (r := f32 a0) rfl rfl rfl rfl rfl ?_
  refine zA (r := f32 a0) rfl rfl rfl rfl rfl ?_
  refine zN ?_
  refine RunC.ret ?_
  have hq := Option.some.inj h
  subst q0
  exact bodyQ.pure (.inr rfl) rfl (Res.one rfl (RV.tmp rfl))
noncomputable def s_l03Find_k2 (v3 : Int) (v8 : Int) : Option (LR (Int × Int) (Int) (Int)) :=
 olet (IntKind.i64.wrap (v3 + 1)) fun (x9 : Int) =>
 some (LR.next (v8, x9))
noncomputable def s_l03Find_b3 (a0 : Int) (a1 : Int) (a2 : List F) (a3 : Int) (v2 : Int) (v3 : Int) : Option (LR (Int × Int) (Int) (Int)) :=
 bsel (decide (v3 < a0)) (
  obind (s_l02At a0 a1 a2 v3 a3) fun (r4 : F) =>
  obind (s_l02Size r4) fun (r5 : F) =>
  obind (s_l02At a0 a1 a2 v2 a3) fun (r6 : F) =>
  obind (s_l02Size r6) fun (r7 : F) =>
  bsel (flt .f32 r7 r5) (
   s_l03Find_k2 v3 v3) (
   s_l03Find_k2 v3 v2)) (
  some (LR.out v2))
noncomputable def s_l03Find_s3 (a0 : Int) (a1 : Int) (a2 : List F) (a3 : Int) : (Int × Int) → Option (LR (Int × Int) (Int) (Int)) := fun s => s_l03Find_b3 a0 a1 a2 a3 s.1 s.2
noncomputable def s_l03Find_k3 (v10 : Int) : Option (Int) :=
 some v10
noncomputable def s_l03Find (a0 : Int) (a1 : Int) (a2 : List F) (a3 : Int) : Option (Int) :=
 olet (IntKind.i64.wrap (a3 + 1)) fun (x1 : Int) =>
 obind (loopM (s_l03Find_s3 a0 a1 a2 a3) (a3, x1)) fun z => osum z (fun e => s_l03Find_k3 e) (fun r => some r)
theorem s_l03Find_ok (a0 : Int) (a1 : Int) (a2 : List F) (a3 : Int) (q0 : Int) (h : s_l03Find a0 a1 a2 a3 = some q0) : Ev Tryz.prog 74 [ptr [i64 a0, i64 a1, sl a2.length (a2.map f32)], i64 a3] [] (i64 q0) [] := by
 refine Ev.start Tryz.func74 rfl rfl 0 (τ := [(0, ptr [i64 a0, i64 a1, sl a2.length (a2.map f32)]), (1, i64 a3)]) rfl (Γ' := []) rfl (n := 63) rfl (g := 0) rfl (fun _ => rfl) ?_
 unfold s_l03Find at h
 refine zQ ?_
 refine zA (r := i64 0) rfl rfl rfl rfl rfl ?_
 refine zN ?_
 refine zQ ?_
 refine zM (r := i64 a3) rfl rfl rfl rfl rfl ?_
 refine zA (r := i64 a3) rfl rfl rfl rfl rfl ?_
 refine zN ?_
 refine RunC.seq ?_
 refine RunC.seq ?_
 obtain ⟨x1, hx1, h⟩ := olet_some h
 refine RunC.regionW ?_
 refine zM (r := i64 a3) rfl rfl rfl rfl rfl ?_
 refine zL (r := i64 x1) rfl rfl rfl (LOp.eqr (LOp.add rfl rfl rfl) (congrArg (ik .i64) hx1)) ?_
 refine zA (r := i64 x1) rfl rfl rfl rfl rfl ?_
 refine zN ?_
 obtain ⟨z4, hz_4, h⟩ := obind_some h
 refine RunC.cutN (fun τ Γ => ∃ (v10 : Int), WeakLe τ [(5, i64 v10)] ∧ DeadLe Γ [] ∧ z4 = .inl v10) ?_ ?_
 ·refine RunC.block (RunC.loop (RunL.loopM (x := z4) (s_l03Find_s3 a0 a1 a2 a3) (fun (s : Int × Int) τ Γ => WeakLe τ [(0, ptr [i64 a0, i64 a1, sl a2.length (a2.map f32)]), (1, i64 a3), (5, i64 s.1), (6, i64 s.2)] ∧ DeadLe Γ []) ?_ _ _ _ hz_4 ⟨⟨aR, aR, aR, aR, trivial⟩, trivial⟩))
  rintro ⟨v2, v3⟩ τ4 Γ4 y4_ ⟨hw4, hd4⟩ h4_ ho4 hr4
  refine RunC.wl (τ' := [(0, ptr [i64 a0, i64 a1, sl a2.length (a2.map f32)]), (1, i64 a3), (5, i64 v2), (6, i64 v3)]) (Γ' := []) hw4 hd4 ?_
  replace h4_ : s_l03Find_b3 a0 a1 a2 a3 v2 v3 = some y4_ := h4_
  unfold s_l03Find_b3 at h4_
  refine RunC.seq ?_
  refine RunC.seq ?_
  rcases bsel_some h4_ with ⟨hc2, h4_⟩ | ⟨hc2, h4_⟩
  ·refine RunC.regionW ?_
   refine zM (r := i64 v3) rfl rfl rfl rfl rfl ?_
   refine zM (r := ptr [i64 a0, i64 a1, sl a2.length (a2.map f32)]) rfl rfl rfl rfl rfl ?_
   refine zL (r := ptr [i64 a0, i64 a1, sl a2.length (a2.map f32)]) rfl rfl rfl (LOp.nilCheck_ptr rfl rfl) ?_
   refine zL (r := ptr [i64 a0, i64 a1, sl a2.length (a2.map f32)]) rfl rfl rfl (LOp.fap und26 rfl siz2 rfl rfl rfl) ?_
   refine zL (r := i64 a0) rfl rfl rfl (LOp.load1 agg2 rfl rfl) ?_
   refine zL (r := b true) rfl rfl rfl (LOp.eqb (LOp.lss rfl rfl rfl) hc2) ?_
   refine zN ?_
   refine RunC.cond_true rfl rfl ?_
   refine RunC.skip ?_
   refine RunC.seq ?_
   refine RunC.cutN (fun τ Γ => ∃ (v8 : Int), WeakLe τ [(0, ptr [i64 a0, i64 a1, sl a2.length (a2.map f32)]), (1, i64 a3), (5, i64 v8), (6, i64 v3)] ∧ DeadLe Γ [] ∧ s_l03Find_k2 v3 v8 = some y4_) ?_ ?_
   ·refine RunC.block ?_
    refine RunC.seq ?_
    obtain ⟨r4, hf3, h4_⟩ := obind_some h4_
    obtain ⟨r5, hf4, h4_⟩ := obind_some h4_
    obtain ⟨r6, hf5, h4_⟩ := obind_some h4_
    obtain ⟨r7, hf6, h4_⟩ := obind_some h4_
    rcases bsel_some h4_ with ⟨hc7, h4_⟩ | ⟨hc7, h4_⟩
    ·refine RunC.regionW ?_
     refine zM (r := ptr [i64 a0, i64 a1, sl a2.length (a2.map f32)]) rfl rfl rfl rfl rfl ?_
     refine zM (r := i64 v3) rfl rfl rfl rfl rfl ?_
     refine zM (r := i64 a3) rfl rfl rfl rfl rfl ?_
     refine ROps.d (r := f32 r4) (fs := []) (Γ' := []) rfl rfl rfl (TOp.callB (CallAs.func ent21 rfl rfl) (Bors.cons (Bor.ptr (Bors.cons (Bor.pure rfl) (Bors.cons (Bor.pure rfl) (Bors.cons (Bor.sl (fun _ => rfl)) Bors.nil)))) (Bors.cons (Bor.pure rfl) (Bors.cons (Bor.pure rfl) Bors.nil))) rfl rfl (s_l02At_ok a0 a1 a2 v3 a3 r4 hf3)) rfl ?_
     refine ROps.d (r := f32 r5) (fs := []) (Γ' := []) rfl rfl rfl (TOp.callB (CallAs.func ent95 rfl rfl) (Bors.cons (Bor.pure rfl) Bors.nil) rfl rfl (s_l02Size_ok r4 r5 hf4)) rfl ?_
     refine zM (r := ptr [i64 a0, i64 a1, sl a2.length (a2.map f32)]) rfl rfl rfl rfl rfl ?_
     refine zM (r := i64 v2) rfl rfl rfl rfl rfl ?_
     refine zM (r := i64 a3) rfl rfl rfl rfl rfl ?_
     refine ROps.d (r := f32 r6) (fs := []) (Γ' := []) rfl rfl rfl (TOp.callB (CallAs.func ent21 rfl rfl) (Bors.cons (Bor.ptr (Bors.cons (Bor.pure rfl) (Bors.cons (Bor.pure rfl) (Bors.cons (Bor.sl (fun _ => rfl)) Bors.nil)))) (Bors.cons (Bor.pure rfl) (Bors.cons (Bor.pure rfl) Bors.nil))) rfl rfl (s_l02At_ok a0 a1 a2 v2 a3 r6 hf5)) rfl ?_
     refine ROps.d (r := f32 r7) (fs := []) (Γ' := []) rfl rfl rfl (TOp.callB (CallAs.func ent95 rfl rfl) (Bors.cons (Bor.pure rfl) Bors.nil) rfl rfl (s_l02Size_ok r6 r7 hf6)) rfl ?_
     refine zL (r := b true) rfl rfl rfl (LOp.eqb (LOp.fgt rfl (OpF.tmp rfl) (OpF.tmp rfl)) hc7) ?_
     refine zN ?_
     refine RunC.wl (τ' := [(0, ptr [i64 a0, i64 a1, sl a2.length (a2.map f32)]), (1, i64 a3), (5, i64 v2), (6, i64 v3), (28, b true)]) (Γ' := []) ⟨aR, aR, aR, aR, aR, trivial⟩ trivial ?_
     refine RunC.cond_true rfl rfl ?_
     refine RunC.regionW ?_
     refine zM (r := i64 v3) rfl rfl rfl rfl rfl ?_
     refine zA (r := i64 v3) rfl rfl rfl rfl rfl ?_
     refine zN ?_
     exact ⟨v3, ⟨aR, aR, aR, aR, trivial⟩, trivial, h4_⟩
    ·refine RunC.regionW ?_
     refine zM (r := ptr [i64 a0, i64 a1, sl a2.length (a2.map f32)]) rfl rfl rfl rfl rfl ?_
     refine zM (r := i64 v3) rfl rfl rfl rfl rfl ?_
     refine zM (r := i64 a3) rfl rfl rfl rfl rfl ?_
     refine ROps.d (r := f32 r4) (fs := []) (Γ' := []) rfl rfl rfl (TOp.callB (CallAs.func ent21 rfl rfl) (Bors.cons (Bor.ptr (Bors.cons (Bor.pure rfl) (Bors.cons (Bor.pure rfl) (Bors.cons (Bor.sl (fun _ => rfl)) Bors.nil)))) (Bors.cons (Bor.pure rfl) (Bors.cons (Bor.pure rfl) Bors.nil))) rfl rfl (s_l02At_ok a0 a1 a2 v3 a3 r4 hf3)) rfl ?_
     refine ROps.d (r := f32 r5) (fs := []) (Γ' := []) rfl rfl rfl (TOp.callB (CallAs.func ent95 rfl rfl) (Bors.cons (Bor.pure rfl) Bors.nil) rfl rfl (s_l02Size_ok r4 r5 hf4)) rfl ?_
     refine zM (r := ptr [i64 a0, i64 a1, sl a2.length (a2.map f32)]) rfl rfl rfl rfl rfl ?_
     refine zM (r := i64 v2) rfl rfl rfl rfl rfl ?_
     refine zM (r := i64 a3) rfl rfl rfl rfl rfl ?_
     refine ROps.d (r := f32 r6) (fs := []) (Γ' := []) rfl rfl rfl (TOp.callB (CallAs.func ent21 rfl rfl) (Bors.cons (Bor.ptr (Bors.cons (Bor.pure rfl) (Bors.cons (Bor.pure rfl) (Bors.cons (Bor.sl (fun _ => rfl)) Bors.nil)))) (Bors.cons (Bor.pure rfl) (Bors.cons (Bor.pure rfl) Bors.nil))) rfl rfl (s_l02At_ok a0 a1 a2 v2 a3 r6 hf5)) rfl ?_
     refine ROps.d (r := f32 r7) (fs := []) (Γ' := []) rfl rfl rfl (TOp.callB (CallAs.func ent95 rfl rfl) (Bors.cons (Bor.pure rfl) Bors.nil) rfl rfl (s_l02Size_ok r6 r7 hf6)) rfl ?_
     refine zL (r := b false) rfl rfl rfl (LOp.eqb (LOp.fgt rfl (OpF.tmp rfl) (OpF.tmp rfl)) hc7) ?_
     refine zN ?_
     refine RunC.wl (τ' := [(0, ptr [i64 a0, i64 a1, sl a2.length (a2.map f32)]), (1, i64 a3), (5, i64 v2), (6, i64 v3), (28, b false)]) (Γ' := []) ⟨aR, aR, aR, aR, aR, trivial⟩ trivial ?_
     refine RunC.cond_false rfl rfl ?_
     refine RunC.skip ?_
     exact ⟨v2, ⟨aR, aR, aR, aR, trivial⟩, trivial, h4_⟩
   ·rintro τ5 Γ5 ⟨v8, hw5, hd5, h4_⟩
    refine RunC.wl hw5 hd5 ?_
    unfold s_l03Find_k2 at h4_
    obtain ⟨x9, hx8, h4_⟩ := olet_some h4_
    refine RunC.regionW ?_
    refine zM (r := i64 v3) rfl rfl rfl rfl rfl ?_
    refine zL (r := i64 x9) rfl rfl rfl (LOp.eqr (LOp.add rfl rfl rfl) (congrArg (ik .i64) hx8)) ?_
    refine zA (r := i64 x9) rfl rfl rfl rfl rfl ?_
    refine zN ?_
    cases Option.some.inj h4_
    exact ⟨_, rfl, ⟨aR, aR, aR, aR, trivial⟩, trivial⟩
  ·refine RunC.regionW ?_
   refine zM (r := i64 v3) rfl rfl rfl rfl rfl ?_
   refine zM (r := ptr [i64 a0, i64 a1, sl a2.length (a2.map f32)]) rfl rfl rfl rfl rfl ?_
   refine zL (r := ptr [i64 a0, i64 a1, sl a2.length (a2.map f32)]) rfl rfl rfl (LOp.nilCheck_ptr rfl rfl) ?_
   refine zL (r := ptr [i64 a0, i64 a1, sl a2.length (a2.map f32)]) rfl rfl rfl (LOp.fap und26 rfl siz2 rfl rfl rfl) ?_
   refine zL (r := i64 a0) rfl rfl rfl (LOp.load1 agg2 rfl rfl) ?_
   refine zL (r := b false) rfl rfl rfl (LOp.eqb (LOp.lss rfl rfl rfl) hc2) ?_
   refine zN ?_
   refine RunC.cond_false rfl rfl ?_
   refine RunC.exit ?_
   cases Option.some.inj h4_
   have hx := ho4 _ rfl
   exact ⟨v2, ⟨aR, trivial⟩, trivial, hx⟩
 ·rintro τ6 Γ6 ⟨v10, hw6, hd6, rfl⟩
  refine RunC.wl hw6 hd6 ?_
  replace h : s_l03Find_k3 v10 = some q0 := h
  unfold s_l03Find_k3 at h
  refine zQ ?_
  refine zM (r := i64 v10) rfl rfl rfl rfl rfl ?_
  refine zA (r := i64 v10) rfl rfl rfl rfl rfl ?_
  refine zN ?_
  refine RunC.ret ?_
  have hq := Option.some.inj h
  subst q0
  exact bodyQ.pure (.inr rfl) rfl (Res.one rfl (RV.tmp rfl))
noncomputable def s_l03Swap_0p0_C02o1_3o2_b1 (a0 : Int) (a1 : Int) (a3 : Int) (L1 : List F) (v3 : Int) : Option (LR ((List F) × Int) ((List F)) ((List F) × (List Int))) :=
 bsel (decide (v3 < a3)) (
  olet (IntKind.i64.wrap (a0 * a3)) fun (x4 : Int) =>
  olet (IntKind.i64.wrap (x4 + v3)) fun (x5 : Int) =>
  obind (at? L1 x5) fun (e6 : F) =>
  olet (IntKind.i64.wrap (a0 * a3)) fun (x7 : Int) =>
  olet (IntKind.i64.wrap (x7 + v3)) fun (x8 : Int) =>
  olet (IntKind.i64.wrap (a1 * a3)) fun (x9 : Int) =>
  olet (IntKind.i64.wrap (x9 + v3)) fun (x10 : Int) =>
  obind (at? L1 x10) fun (e11 : F) =>
  obind (setAt? L1 x8 e11) fun (L12 : List F) =>
  olet (IntKind.i64.wrap (a1 * a3)) fun (x13 : Int) =>
  olet (IntKind.i64.wrap (x13 + v3)) fun (x14 : Int) =>
  obind (setAt? L12 x14 e6) fun (L15 : List F) =>
  olet (IntKind.i64.wrap (v3 + 1)) fun (x16 : Int) =>
  some (LR.next (L15, x16))) (
  some (LR.out L1))
noncomputable def s_l03Swap_0p0_C02o1_3o2_s1 (a0 : Int) (a1 : Int) (a3 : Int) : ((List F) × Int) → Option (LR ((List F) × Int) ((List F)) ((List F) × (List Int))) := fun s => s_l03Swap_0p0_C02o1_3o2_b1 a0 a1 a3 s.1 s.2
noncomputable def s_l03Swap_0p0_C02o1_3o2_k1 (a5 : List Int) (L17 : List F) : Option ((List F) × (List Int)) :=
 some (L17, a5)
noncomputable def s_l03Swap_0p0_C02o1_3o2 (a0 : Int) (a1 : Int) (a2 : Int) (a3 : Int) (a4 : List F) (a5 : List Int) : Option ((List F) × (List Int)) :=
 obind (loopM (s_l03Swap_0p0_C02o1_3o2_s1 a0 a1 a3) (a4, 0)) fun z => osum z (fun e => s_l03Swap_0p0_C02o1_3o2_k1 a5 e) (fun r => some r)
theorem s_l03Swap_0p0_C02o1_3o2_ok (a0 : Int) (a1 : Int) (a2 : Int) (a3 : Int) (a4 : List F) (a5 : List Int) (q0 : List F) (q1 : List Int) (h : s_l03Swap_0p0_C02o1_3o2 a0 a1 a2 a3 a4 a5 = some (q0, q1)) : Ev Tryz.prog 75 [optr 0 0 0, i64 a0, i64 a1] [⟨0, some [i64 a2, i64 a3, oref 1 0 0 a4.length, oref 2 0 0 a5.length]⟩, ⟨0, some (a4.map f32)⟩, ⟨0, some (a5.map i64)⟩] (tup []) [⟨0, some [i64 a2, i64 a3, oref 1 0 0 a4.length, oref 2 0 0 a5.length]⟩, ⟨0, some (q0.map f32)⟩, ⟨0, some (q1.map i64)⟩] := by
 refine Ev.start Tryz.func75 rfl rfl 0 (τ := [(0, optr 0 0 0), (1, i64 a0), (2, i64 a1)]) rfl (Γ' := [⟨0, some [i64 a2, i64 a3, oref 1 0 0 a4.length, oref 2 0 0 a5.length]⟩, ⟨0, some (a4.map f32)⟩, ⟨0, some (a5.map i64)⟩]) rfl (n := 142) rfl (g := 3) rfl (by decide) ?_
 unfold s_l03Swap_0p0_C02o1_3o2 at h
 refine zQ ?_
 refine zA (r := i64 0) rfl rfl rfl rfl rfl ?_
 refine zN ?_
 obtain ⟨z2, hz_2, h⟩ := obind_some h
 refine RunC.cutN (fun τ Γ => ∃ (L17 : List F), L17.length = a4.length ∧ WeakLe τ [] ∧ DeadLe Γ [⟨0, some [i64 a2, i64 a3, oref 1 0 0 a4.length, oref 2 0 0 a5.length]⟩, ⟨0, some (L17.map f32)⟩, ⟨0, some (a5.map i64)⟩] ∧ z2 = .inl L17) ?_ ?_
 ·refine RunC.block (RunC.loop (RunL.loopM (x := z2) (s_l03Swap_0p0_C02o1_3o2_s1 a0 a1 a3) (fun (s : (List F) × Int) τ Γ => s.1.length = a4.length ∧ WeakLe τ [(0, optr 0 0 0), (1, i64 a0), (2, i64 a1), (6, i64 s.2)] ∧ DeadLe Γ [⟨0, some [i64 a2, i64 a3, oref 1 0 0 a4.length, oref 2 0 0 a5.length]⟩, ⟨0, some (s.1.map f32)⟩, ⟨0, some (a5.map i64)⟩]) ?_ _ _ _ hz_2 ⟨rfl, ⟨aR, aR, aR, aR, trivial⟩, ⟨⟨rfl, .inr rfl⟩, ⟨rfl, .inr rfl⟩, ⟨rfl, .inr rfl⟩, trivial⟩⟩))
  rintro ⟨L1, v3⟩ τ2 Γ2 y2_ ⟨hl2, hw2, hd2⟩ h2_ ho2 hr2
  refine RunC.wl (τ' := [(0, optr 0 0 0), (1, i64 a0), (2, i64 a1), (6, i64 v3)]) (Γ' := [⟨0, some [i64 a2, i64 a3, oref 1 0 0 a4.length, oref 2 0 0 a5.length]⟩, ⟨0, some (L1.map f32)⟩, ⟨0, some (a5.map i64)⟩]) hw2 hd2 ?_
  replace hl2 : L1.length = a4.length := hl2
  replace h2_ : s_l03Swap_0p0_C02o1_3o2_b1 a0 a1 a3 L1 v3 = some y2_ := h2_
  unfold s_l03Swap_0p0_C02o1_3o2_b1 at h2_
  refine RunC.seq ?_
  refine RunC.seq ?_
  rcases bsel_some h2_ with ⟨hc1, h2_⟩ | ⟨hc1, h2_⟩
  ·refine RunC.regionW ?_
   refine zM (r := i64 v3) rfl rfl rfl rfl rfl ?_
   refine zM (r := optr 0 0 0) rfl rfl rfl rfl rfl ?_
   refine zL (r := optr 0 0 0) rfl rfl rfl (LOp.nilCheck_optr rfl rfl) ?_
   refine zL (r := optr 0 0 1) rfl rfl rfl (LOp.fao und26 rfl siz2 rfl rfl rfl) ?_
   refine ROps.d (r := i64 a3) (fs := []) (Γ' := [⟨0, some [i64 a2, i64 a3, oref 1 0 0 a4.length, oref 2 0 0 a5.length]⟩, ⟨0, some (L1.map f32)⟩, ⟨0, some (a5.map i64)⟩]) rfl rfl rfl (TOp.load1_o rfl rfl agg2 rfl rfl) rfl ?_
   refine zL (r := b true) rfl rfl rfl (LOp.eqb (LOp.lss rfl rfl rfl) hc1) ?_
   refine zN ?_
   refine RunC.cond_true rfl rfl ?_
   refine RunC.skip ?_
   refine RunC.seq ?_
   refine RunC.block ?_
   refine RunC.seq ?_
   obtain ⟨x4, hx2, h2_⟩ := olet_some h2_
   obtain ⟨x5, hx3, h2_⟩ := olet_some h2_
   obtain ⟨e6, he4, h2_⟩ := obind_some h2_
   refine RunC.region_draw (Γ' := [⟨0, some [i64 a2, i64 a3, oref 1 0 0 a4.length, oref 2 0 0 a5.length]⟩, ⟨0, some (L1.map f32)⟩, ⟨0, some (a5.map i64)⟩]) 15 mixed 
    (TR.l (r := optr 0 0 0) rfl rfl (LOp.move rfl rfl) <|
    (TR.l (r := optr 0 0 0) rfl rfl (LOp.nilCheck_optr rfl rfl) <|
    (TR.l (r := optr 0 0 2) rfl rfl (LOp.fao und26 rfl siz22 rfl rfl rfl) <|
    (TR.d (r := oref 1 0 0 a4.length) (fs := []) rfl rfl (TOp.load1_o rfl rfl agg22 rfl rfl) <|
    (TR.l (r := i64 a0) rfl rfl (LOp.move rfl rfl) <|
    (TR.l (r := optr 0 0 0) rfl rfl (LOp.move rfl rfl) <|
    (TR.l (r := optr 0 0 0) rfl rfl (LOp.nilCheck_optr rfl rfl) <|
    (TR.l (r := optr 0 0 1) rfl rfl (LOp.fao und26 rfl siz2 rfl rfl rfl) <|
    (TR.d (r := i64 a3) (fs := []) rfl rfl (TOp.load1_o rfl rfl agg2 rfl rfl) <|
    (TR.l (r := i64 x4) rfl rfl (LOp.eqr (LOp.mul rfl rfl rfl) (congrArg (ik .i64) hx2)) <|
    (TR.l (r := i64 v3) rfl rfl (LOp.move rfl rfl) <|
    (TR.l (r := i64 x5) rfl rfl (LOp.eqr (LOp.add rfl rfl rfl) (congrArg (ik .i64) hx3)) <|
    (TR.d (r := optr 1 0 x5.toNat) (fs := []) rfl rfl (TOp.ixo und22 siz33 rfl rfl rfl (at_in he4 hl2) rfl) <|
    (TR.d (r := f32 e6) (fs := []) rfl rfl (TOp.load1_o rfl (at_cell he4) agg33 rfl rfl) <|
    (TR.l (r := f32 e6) rfl rfl (LOp.assign rfl rfl) <|
    TR.nil))))))))))))))) rfl (by kernel_rfl) rfl fills_nil rfl ?_
   iterate 15 refine ROps.dropS ?_
   refine ROps.drop0 ?_
   refine zN ?_
   refine RunC.wl (τ' := [(0, optr 0 0 0), (1, i64 a0), (2, i64 a1), (6, i64 v3), (7, f32 e6)]) (Γ' := [⟨0, some [i64 a2, i64 a3, oref 1 0 0 a4.length, oref 2 0 0 a5.length]⟩, ⟨0, some (L1.map f32)⟩, ⟨0, some (a5.map i64)⟩]) ⟨aR, aR, aR, aR, aR, trivial⟩ ⟨⟨rfl, .inr rfl⟩, ⟨rfl, .inr rfl⟩, ⟨rfl, .inr rfl⟩, trivial⟩ ?_
   refine RunC.seq ?_
   obtain ⟨x7, hx5, h2_⟩ := olet_some h2_
   obtain ⟨x8, hx6, h2_⟩ := olet_some h2_
   obtain ⟨x9, hx7, h2_⟩ := olet_some h2_
   obtain ⟨x10, hx8, h2_⟩ := olet_some h2_
   obtain ⟨e11, he9, h2_⟩ := obind_some h2_
   obtain ⟨L12, he10, h2_⟩ := obind_some h2_
   refine RunC.region_draw (Γ' := [⟨0, some [i64 a2, i64 a3, oref 1 0 0 a4.length, oref 2 0 0 a5.length]⟩, ⟨0, some (L1.map f32)⟩, ⟨0, some (a5.map i64)⟩]) 27 mixed 
    (TR.l (r := optr 0 0 0) rfl rfl (LOp.move rfl rfl) <|
    (TR.l (r := optr 0 0 0) rfl rfl (LOp.nilCheck_optr rfl rfl) <|
    (TR.l (r := optr 0 0 2) rfl rfl (LOp.fao und26 rfl siz22 rfl rfl rfl) <|
    (TR.d (r := oref 1 0 0 a4.length) (fs := []) rfl rfl (TOp.load1_o rfl rfl agg22 rfl rfl) <|
    (TR.l (r := i64 a0) rfl rfl (LOp.move rfl rfl) <|
    (TR.l (r := optr 0 0 0) rfl rfl (LOp.move rfl rfl) <|
    (TR.l (r := optr 0 0 0) rfl rfl (LOp.nilCheck_optr rfl rfl) <|
    (TR.l (r := optr 0 0 1) rfl rfl (LOp.fao und26 rfl siz2 rfl rfl rfl) <|
    (TR.d (r := i64 a3) (fs := []) rfl rfl (TOp.load1_o rfl rfl agg2 rfl rfl) <|
    (TR.l (r := i64 x7) rfl rfl (LOp.eqr (LOp.mul rfl rfl rfl) (congrArg (ik .i64) hx5)) <|
    (TR.l (r := i64 v3) rfl rfl (LOp.move rfl rfl) <|
    (TR.l (r := i64 x8) rfl rfl (LOp.eqr (LOp.add rfl rfl rfl) (congrArg (ik .i64) hx6)) <|
    (TR.l (r := optr 0 0 0) rfl rfl (LOp.move rfl rfl) <|
    (TR.l (r := optr 0 0 0) rfl rfl (LOp.nilCheck_optr rfl rfl) <|
    (TR.l (r := optr 0 0 2) rfl rfl (LOp.fao und26 rfl siz22 rfl rfl rfl) <|
    (TR.d (r := oref 1 0 0 a4.length) (fs := []) rfl rfl (TOp.load1_o rfl rfl agg22 rfl rfl) <|
    (TR.l (r := i64 a1) rfl rfl (LOp.move rfl rfl) <|
    (TR.l (r := optr 0 0 0) rfl rfl (LOp.move rfl rfl) <|
    (TR.l (r := optr 0 0 0) rfl rfl (LOp.nilCheck_optr rfl rfl) <|
    (TR.l (r := optr 0 0 1) rfl rfl (LOp.fao und26 rfl siz2 rfl rfl rfl) <|
    (TR.d (r := i64 a3) (fs := []) rfl rfl (TOp.load1_o rfl rfl agg2 rfl rfl) <|
    (TR.l (r := i64 x9) rfl rfl (LOp.eqr (LOp.mul rfl rfl rfl) (congrArg (ik .i64) hx7)) <|
    (TR.l (r := i64 v3) rfl rfl (LOp.move rfl rfl) <|
    (TR.l (r := i64 x10) rfl rfl (LOp.eqr (LOp.add rfl rfl rfl) (congrArg (ik .i64) hx8)) <|
    (TR.d (r := optr 1 0 x10.toNat) (fs := []) rfl rfl (TOp.ixo und22 siz33 rfl rfl rfl (at_in he9 hl2) rfl) <|
    (TR.d (r := f32 e11) (fs := []) rfl rfl (TOp.load1_o rfl (at_cell he9) agg33 rfl rfl) <|
    (TR.d (r := optr 1 0 x8.toNat) (fs := []) rfl rfl (TOp.ixo und22 siz33 rfl rfl rfl (set_in he10 hl2) rfl) <|
    TR.nil))))))))))))))))))))))))))) rfl (by kernel_rfl) rfl fills_nil rfl ?_
   iterate 27 refine ROps.dropS ?_
   refine ROps.drop0 ?_
   refine ROps.st (f := f32) (i := x8) (Γ' := [⟨0, some [i64 a2, i64 a3, oref 1 0 0 a4.length, oref 2 0 0 a5.length]⟩, ⟨0, some (L12.map f32)⟩, ⟨0, some (a5.map i64)⟩]) rfl siz33 rfl rfl rfl aR rfl rfl rfl he10 rfl ?_
   refine zN ?_
   refine RunC.wl (τ' := [(0, optr 0 0 0), (1, i64 a0), (2, i64 a1), (6, i64 v3), (7, f32 e6)]) (Γ' := [⟨0, some [i64 a2, i64 a3, oref 1 0 0 a4.length, oref 2 0 0 a5.length]⟩, ⟨0, some (L12.map f32)⟩, ⟨0, some (a5.map i64)⟩]) ⟨aR, aR, aR, aR, aR, trivial⟩ ⟨⟨rfl, .inr rfl⟩, ⟨rfl, .inr rfl⟩, ⟨rfl, .inr rfl⟩, trivial⟩ ?_
   obtain ⟨x13, hx11, h2_⟩ := olet_some h2_
   obtain ⟨x14, hx12, h2_⟩ := olet_some h2_
   obtain ⟨L15, he13, h2_⟩ := obind_some h2_
   refine RunC.region_draw (Γ' := [⟨0, some [i64 a2, i64 a3, oref 1 0 0 a4.length, oref 2 0 0 a5.length]⟩, ⟨0, some (L12.map f32)⟩, ⟨0, some (a5.map i64)⟩]) 14 mixed 
    (TR.l (r := optr 0 0 0) rfl rfl (LOp.move rfl rfl) <|
    (TR.l (r := optr 0 0 0) rfl rfl (LOp.nilCheck_optr rfl rfl) <|
    (TR.l (r := optr 0 0 2) rfl rfl (LOp.fao und26 rfl siz22 rfl rfl rfl) <|
    (TR.d (r := oref 1 0 0 a4.length) (fs := []) rfl rfl (TOp.load1_o rfl rfl agg22 rfl rfl) <|
    (TR.l (r := i64 a1) rfl rfl (LOp.move rfl rfl) <|
    (TR.l (r := optr 0 0 0) rfl rfl (LOp.move rfl rfl) <|
    (TR.l (r := optr 0 0 0) rfl rfl (LOp.nilCheck_optr rfl rfl) <|
    (TR.l (r := optr 0 0 1) rfl rfl (LOp.fao und26 rfl siz2 rfl rfl rfl) <|
    (TR.d (r := i64 a3) (fs := []) rfl rfl (TOp.load1_o rfl rfl agg2 rfl rfl) <|
    (TR.l (r := i64 x13) rfl rfl (LOp.eqr (LOp.mul rfl rfl rfl) (congrArg (ik .i64) hx11)) <|
    (TR.l (r := i64 v3) rfl rfl (LOp.move rfl rfl) <|
    (TR.l (r := i64 x14) rfl rfl (LOp.eqr (LOp.add rfl rfl rfl) (congrArg (ik .i64) hx12)) <|
    (TR.l (r := f32 e6) rfl rfl (LOp.move rfl rfl) <|
    (TR.d (r := optr 1 0 x14.toNat) (fs := []) rfl rfl (TOp.ixo und22 siz33 rfl rfl rfl (set_in he13 ((setAt?_len he10).trans hl2)) rfl) <|
    TR.nil)))))))))))))) rfl (by kernel_rfl) rfl fills_nil rfl ?_
   iterate 14 refine ROps.dropS ?_
   refine ROps.drop0 ?_
   refine ROps.st (f := f32) (i := x14) (Γ' := [⟨0, some [i64 a2, i64 a3, oref 1 0 0 a4.length, oref 2 0 0 a5.length]⟩, ⟨0, some (L15.map f32)⟩, ⟨0, some (a5.map i64)⟩]) rfl siz33 rfl rfl rfl aR rfl rfl rfl he13 rfl ?_
   refine zN ?_
   refine RunC.wl (τ' := [(0, optr 0 0 0), (1, i64 a0), (2, i64 a1), (6, i64 v3)]) (Γ' := [⟨0, some [i64 a2, i64 a3, oref 1 0 0 a4.length, oref 2 0 0 a5.length]⟩, ⟨0, some (L15.map f32)⟩, ⟨0, some (a5.map i64)⟩]) ⟨aR, aR, aR, aR, trivial⟩ ⟨⟨rfl, .inr rfl⟩, ⟨rfl, .inr rfl⟩, ⟨rfl, .inr rfl⟩, trivial⟩ ?_
   obtain ⟨x16, hx14, h2_⟩ := olet_some h2_
   refine RunC.regionW ?_
   refine zM (r := i64 v3) rfl rfl rfl rfl rfl ?_
   refine zL (r := i64 x16) rfl rfl rfl (LOp.eqr (LOp.add rfl rfl rfl) (congrArg (ik .i64) hx14)) ?_
   refine zA (r := i64 x16) rfl rfl rfl rfl rfl ?_
   refine zN ?_
   cases Option.some.inj h2_
   exact ⟨_, rfl, ((setAt?_len he13).trans ((setAt?_len he10).trans hl2)), ⟨aR, aR, aR, aR, trivial⟩, ⟨⟨rfl, .inr rfl⟩, ⟨rfl, .inr rfl⟩, ⟨rfl, .inr rfl⟩, trivial⟩⟩
  ·refine RunC.regionW ?_
   refine zM (r := i64 v3) rfl rfl rfl rfl rfl ?_
   refine zM (r := optr 0 0 0) rfl rfl rfl rfl rfl ?_
   refine zL (r := optr 0 0 0) rfl rfl rfl (LOp.nilCheck_optr rfl rfl) ?_
   refine zL (r := optr 0 0 1) rfl rfl rfl (LOp.fao und26 rfl siz2 rfl rfl rfl) ?_
   refine ROps.d (r := i64 a3) (fs := []) (Γ' := [⟨0, some [i64 a2, i64 a3, oref 1 0 0 a4.length, oref 2 0 0 a5.length]⟩, ⟨0, some (L1.map f32)⟩, ⟨0, some (a5.map i64)⟩]) rfl rfl rfl (TOp.load1_o rfl rfl agg2 rfl rfl) rfl ?_
   refine zL (r := b false) rfl rfl rfl (LOp.eqb (LOp.lss rfl rfl rfl) hc1) ?_
   refine zN ?_
   refine RunC.cond_false rfl rfl ?_
   refine RunC.exit ?_
   cases Option.some.inj h2_
   have hx := ho2 _ rfl
   exact ⟨L1, hl2, trivial, ⟨⟨rfl, .inr rfl⟩, ⟨rfl, .inr rfl⟩, ⟨rfl, .inr rfl⟩, trivial⟩, hx⟩
 ·rintro τ3 Γ3 ⟨L17, hl18, hw3, hd3, rfl⟩
  replace h : s_l03Swap_0p0_C02o1_3o2_k1 a5 L17 = some (q0, q1) := h
  unfold s_l03Swap_0p0_C02o1_3o2_k1 at h
  refine bodyQ.wl hw3 hd3 ?_
  have hq := Option.some.inj h
  obtain ⟨hq0, hq⟩ := Prod.mk.inj hq
  subst q0
  subst q1
  exact bodyQ.mk (r' := tup []) [(0, 0), (1, 0), (2, 0)] (.inl rfl) rfl (show List.Nodup [0, 1, 2] from by decide) rfl rfl (Res.zero rfl) (SelL.cells rfl (by first | rfl | simp [ren, rens, sigma, rens_f32, rens_f64, rens_i64, rens_ik, rens_str, rens_cp]) rfl (SelL.arr (f := f32) (fun _ => rfl) rfl (SelL.arr (f := i64) (fun _ => rfl) rfl trivial)))
noncomputable def s_l03Trade_0o (a0 : Int) (a1 : Int) (a2 : List Int) : Option ((List Int)) :=
 obind (at? a2 a0) fun (e1 : Int) =>
 obind (at? a2 a1) fun (e2 : Int) =>
 obind (setAt? a2 a0 e2) fun (L3 : List Int) =>
 obind (setAt? L3 a1 e1) fun (L4 : List Int) =>
 some L4
theorem s_l03Trade_0o_ok (a0 : Int) (a1 : Int) (a2 : List Int) (q0 : List Int) (h : s_l03Trade_0o a0 a1 a2 = some q0) : Ev Tryz.prog 76 [oref 0 0 0 a2.length, i64 a0, i64 a1] [⟨0, some (a2.map i64)⟩] (tup []) [⟨0, some (q0.map i64)⟩] := by
 refine Ev.start Tryz.func76 rfl rfl 0 (τ := [(0, oref 0 0 0 a2.length), (1, i64 a0), (2, i64 a1)]) rfl (Γ' := [⟨0, some (a2.map i64)⟩]) rfl (n := 44) rfl (g := 1) rfl (by decide) ?_
 unfold s_l03Trade_0o at h
 refine RunC.seq ?_
 obtain ⟨e1, he1, h⟩ := obind_some h
 refine RunC.regionW ?_
 refine zM (r := oref 0 0 0 a2.length) rfl rfl rfl rfl rfl ?_
 refine zM (r := i64 a0) rfl rfl rfl rfl rfl ?_
 refine ROps.d (r := optr 0 0 a0.toNat) (fs := []) (Γ' := [⟨0, some (a2.map i64)⟩]) rfl rfl rfl (TOp.ixo und53 siz2 rfl rfl rfl (at_in he1 rfl) rfl) rfl ?_
 refine ROps.d (r := i64 e1) (fs := []) (Γ' := [⟨0, some (a2.map i64)⟩]) rfl rfl rfl (TOp.load1_o rfl (at_cell he1) agg2 rfl rfl) rfl ?_
 refine zA (r := i64 e1) rfl rfl rfl rfl rfl ?_
 refine zN ?_
 refine RunC.seq ?_
 obtain ⟨e2, he2, h⟩ := obind_some h
 obtain ⟨L3, he3, h⟩ := obind_some h
 refine RunC.regionW ?_
 refine zM (r := oref 0 0 0 a2.length) rfl rfl rfl rfl rfl ?_
 refine zM (r := i64 a0) rfl rfl rfl rfl rfl ?_
 refine zM (r := oref 0 0 0 a2.length) rfl rfl rfl rfl rfl ?_
 refine zM (r := i64 a1) rfl rfl rfl rfl rfl ?_
 refine ROps.d (r := optr 0 0 a1.toNat) (fs := []) (Γ' := [⟨0, some (a2.map i64)⟩]) rfl rfl rfl (TOp.ixo und53 siz2 rfl rfl rfl (at_in he2 rfl) rfl) rfl ?_
 refine ROps.d (r := i64 e2) (fs := []) (Γ' := [⟨0, some (a2.map i64)⟩]) rfl rfl rfl (TOp.load1_o rfl (at_cell he2) agg2 rfl rfl) rfl ?_
 refine ROps.d (r := optr 0 0 a0.toNat) (fs := []) (Γ' := [⟨0, some (a2.map i64)⟩]) rfl rfl rfl (TOp.ixo und53 siz2 rfl rfl rfl (set_in he3 rfl) rfl) rfl ?_
 refine ROps.st (f := i64) (i := a0) (Γ' := [⟨0, some (L3.map i64)⟩]) rfl siz2 rfl rfl rfl aR rfl rfl rfl he3 rfl ?_
 refine zN ?_
 obtain ⟨L4, he4, h⟩ := obind_some h
 refine RunC.regionW ?_
 refine zM (r := oref 0 0 0 a2.length) rfl rfl rfl rfl rfl ?_
 refine zM (r := i64 a1) rfl rfl rfl rfl rfl ?_
 refine zM (r := i64 e1) rfl rfl rfl rfl rfl ?_
 refine ROps.d (r := optr 0 0 a1.toNat) (fs := []) (Γ' := [⟨0, some (L3.map i64)⟩]) rfl rfl rfl (TOp.ixo und53 siz2 rfl rfl rfl (set_in he4 (setAt?_len he3)) rfl) rfl ?_
 refine ROps.st (f := i64) (i := a1) (Γ' := [⟨0, some (L4.map i64)⟩]) rfl siz2 rfl rfl rfl aR rfl rfl rfl he4 rfl ?_
 refine zN ?_
 have hq := Option.some.inj h
 subst q0
 exact bodyQ.mk (r' := tup []) [(0, 0)] (.inl rfl) rfl (show List.Nodup [0] from by decide) rfl rfl (Res.zero rfl) (SelL.arr (f := i64) (fun _ => rfl) rfl trivial)
noncomputable def s_l03Clear_0p0_C02o1_3o2_b2 (a0 : Int) (a2 : Int) (a4 : List Int) (v4 : Int) (x11 : F) (L17 : List F) (v19 : Int) : Option (LR ((List F) × Int) ((List F)) (Bool × (List F) × (List Int))) :=
 bsel (decide (v19 < a2)) (
  olet (IntKind.i64.wrap (v4 * a2)) fun (x20 : Int) =>
  olet (IntKind.i64.wrap (x20 + v19)) fun (x21 : Int) =>
  obind (at? L17 x21) fun (e22 : F) =>
  olet (IntKind.i64.wrap (a0 * a2)) fun (x23 : Int) =>
  olet (IntKind.i64.wrap (x23 + v19)) fun (x24 : Int) =>
  obind (at? L17 x24) fun (e25 : F) =>
  olet (fop .mul .f32 x11 e25) fun (x26 : F) =>
  olet (fop .sub .f32 e22 x26) fun (x27 : F) =>
  olet (IntKind.i64.wrap (v4 * a2)) fun (x28 : Int) =>
  olet (IntKind.i64.wrap (x28 + v19)) fun (x29 : Int) =>
  obind (setAt? L17 x29 x27) fun (L30 : List F) =>
  obind (s_l01Finite x27) fun (r31 : Bool) =>
  bsel r31 (
   olet (IntKind.i64.wrap (v19 + 1)) fun (x32 : Int) =>
   some (LR.next (L30, x32))) (
   some (LR.ret (false, L30, a4)))) (
  some (LR.out L17))
noncomputable def s_l03Clear_0p0_C02o1_3o2_s2 (a0 : Int) (a2 : Int) (a4 : List Int) (v4 : Int) (x11 : F) : ((List F) × Int) → Option (LR ((List F) × Int) ((List F)) (Bool × (List F) × (List Int))) := fun s => s_l03Clear_0p0_C02o1_3o2_b2 a0 a2 a4 v4 x11 s.1 s.2
noncomputable def s_l03Clear_0p0_C02o1_3o2_k2 (v4 : Int) (L33 : List F) : Option (LR ((List F) × Int) ((List F)) (Bool × (List F) × (List Int))) :=
 olet (IntKind.i64.wrap (v4 + 1)) fun (x35 : Int) =>
 some (LR.next (L33, x35))
noncomputable def s_l03Clear_0p0_C02o1_3o2_b3 (a0 : Int) (a1 : Int) (a2 : Int) (a4 : List Int) (L2 : List F) (v4 : Int) : Option (LR ((List F) × Int) ((List F)) (Bool × (List F) × (List Int))) :=
 bsel (decide (v4 < a1)) (
  olet (IntKind.i64.wrap (v4 * a2)) fun (x5 : Int) =>
  olet (IntKind.i64.wrap (x5 + a0)) fun (x6 : Int) =>
  obind (at? L2 x6) fun (e7 : F) =>
  olet (IntKind.i64.wrap (a0 * a2)) fun (x8 : Int) =>
  olet (IntKind.i64.wrap (x8 + a0)) fun (x9 : Int) =>
  obind (at? L2 x9) fun (e10 : F) =>
  olet (fop .quo .f32 e7 e10) fun (x11 : F) =>
  olet (IntKind.i64.wrap (v4 * a2)) fun (x12 : Int) =>
  olet (IntKind.i64.wrap (x12 + a0)) fun (x13 : Int) =>
  obind (setAt? L2 x13 x11) fun (L14 : List F) =>
  obind (s_l01Finite x11) fun (r15 : Bool) =>
  bsel r15 (
   olet (IntKind.i64.wrap (a0 + 1)) fun (x16 : Int) =>
   obind (loopM (s_l03Clear_0p0_C02o1_3o2_s2 a0 a2 a4 v4 x11) (L14, x16)) fun z => osum z (fun e => s_l03Clear_0p0_C02o1_3o2_k2 v4 e) (fun r => some (LR.ret r))) (
   some (LR.ret (false, L14, a4)))) (
  some (LR.out L2))
noncomputable def s_l03Clear_0p0_C02o1_3o2_s3 (a0 : Int) (a1 : Int) (a2 : Int) (a4 : List Int) : ((List F) × Int) → Option (LR ((List F) × Int) ((List F)) (Bool × (List F) × (List Int))) := fun s => s_l03Clear_0p0_C02o1_3o2_b3 a0 a1 a2 a4 s.1 s.2
noncomputable def s_l03Clear_0p0_C02o1_3o2_k3 (a4 : List Int) (L36 : List F) : Option (Bool × (List F) × (List Int)) :=
 some (true, L36, a4)
noncomputable def s_l03Clear_0p0_C02o1_3o2 (a0 : Int) (a1 : Int) (a2 : Int) (a3 : List F) (a4 : List Int) : Option (Bool × (List F) × (List Int)) :=
 olet (IntKind.i64.wrap (a0 + 1)) fun (x1 : Int) =>
 obind (loopM (s_l03Clear_0p0_C02o1_3o2_s3 a0 a1 a2 a4) (a3, x1)) fun z => osum z (fun e => s_l03Clear_0p0_C02o1_3o2_k3 a4 e) (fun r => some r)
theorem s_l03Clear_0p0_C02o1_3o2_ok (a0 : Int) (a1 : Int) (a2 : Int) (a3 : List F) (a4 : List Int) (q0 : Bool) (q1 : List F) (q2 : List Int) (h : s_l03Clear_0p0_C02o1_3o2 a0 a1 a2 a3 a4 = some (q0, q1, q2)) : Ev Tryz.prog 77 [optr 0 0 0, i64 a0] [⟨0, some [i64 a1, i64 a2, oref 1 0 0 a3.length, oref 2 0 0 a4.length]⟩, ⟨0, some (a3.map f32)⟩, ⟨0, some (a4.map i64)⟩] (b q0) [⟨0, some [i64 a1, i64 a2, oref 1 0 0 a3.length, oref 2 0 0 a4.length]⟩, ⟨0, some (q1.map f32)⟩, ⟨0, some (q2.map i64)⟩] := by
 refine Ev.start Tryz.func77 rfl rfl 0 (τ := [(0, optr 0 0 0), (1, i64 a0)]) rfl (Γ' := [⟨0, some [i64 a1, i64 a2, oref 1 0 0 a3.length, oref 2 0 0 a4.length]⟩, ⟨0, some (a3.map f32)⟩, ⟨0, some (a4.map i64)⟩]) rfl (n := 214) rfl (g := 3) rfl (by decide) ?_
 unfold s_l03Clear_0p0_C02o1_3o2 at h
 refine zQ ?_
 refine zA (r := b false) rfl rfl rfl rfl rfl ?_
 refine zN ?_
 refine zQ ?_
 refine zM (r := optr 0 0 0) rfl rfl rfl rfl rfl ?_
 refine zL (r := optr 0 0 0) rfl rfl rfl (LOp.nilCheck_optr rfl rfl) ?_
 refine zL (r := optr 0 0 1) rfl rfl rfl (LOp.fao und26 rfl siz2 rfl rfl rfl) ?_
 refine ROps.d (r := i64 a2) (fs := []) (Γ' := [⟨0, some [i64 a1, i64 a2, oref 1 0 0 a3.length, oref 2 0 0 a4.length]⟩, ⟨0, some (a3.map f32)⟩, ⟨0, some (a4.map i64)⟩]) rfl rfl rfl (TOp.load1_o rfl rfl agg2 rfl rfl) rfl ?_
 refine zA (r := i64 a2) rfl rfl rfl rfl rfl ?_
 refine zN ?_
 refine RunC.seq ?_
 refine RunC.seq ?_
 obtain ⟨x1, hx1, h⟩ := olet_some h
 refine RunC.regionW ?_
 refine zM (r := i64 a0) rfl rfl rfl rfl rfl ?_
 refine zL (r := i64 x1) rfl rfl rfl (LOp.eqr (LOp.add rfl rfl rfl) (congrArg (ik .i64) hx1)) ?_
 refine zA (r := i64 x1) rfl rfl rfl rfl rfl ?_
 refine zN ?_
 obtain ⟨z4, hz_4, h⟩ := obind_some h
 refine RunC.cutN (fun τ Γ => ∃ (L36 : List F), L36.length = a3.length ∧ WeakLe τ [] ∧ DeadLe Γ [⟨0, some [i64 a1, i64 a2, oref 1 0 0 a3.length, oref 2 0 0 a4.length]⟩, ⟨0, some (L36.map f32)⟩, ⟨0, some (a4.map i64)⟩] ∧ z4 = .inl L36) ?_ ?_
 ·refine RunC.block (RunC.loop (RunL.loopM (x := z4) (s_l03Clear_0p0_C02o1_3o2_s3 a0 a1 a2 a4) (fun (s : (List F) × Int) τ Γ => s.1.length = a3.length ∧ WeakLe τ [(0, optr 0 0 0), (1, i64 a0), (5, i64 a2), (6, i64 s.2)] ∧ DeadLe Γ [⟨0, some [i64 a1, i64 a2, oref 1 0 0 a3.length, oref 2 0 0 a4.length]⟩, ⟨0, some (s.1.map f32)⟩, ⟨0, some (a4.map i64)⟩]) ?_ _ _ _ hz_4 ⟨rfl, ⟨aR, aR, aR, aR, trivial⟩, ⟨⟨rfl, .inr rfl⟩, ⟨rfl, .inr rfl⟩, ⟨rfl, .inr rfl⟩, trivial⟩⟩))
  rintro ⟨L2, v4⟩ τ4 Γ4 y4_ ⟨hl3, hw4, hd4⟩ h4_ ho4 hr4
  refine RunC.wl (τ' := [(0, optr 0 0 0), (1, i64 a0), (5, i64 a2), (6, i64 v4)]) (Γ' := [⟨0, some [i64 a1, i64 a2, oref 1 0 0 a3.length, oref 2 0 0 a4.length]⟩, ⟨0, some (L2.map f32)⟩, ⟨0, some (a4.map i64)⟩]) hw4 hd4 ?_
  replace hl3 : L2.length = a3.length := hl3
  replace h4_ : s_l03Clear_0p0_C02o1_3o2_b3 a0 a1 a2 a4 L2 v4 = some y4_ := h4_
  unfold s_l03Clear_0p0_C02o1_3o2_b3 at h4_
  refine RunC.seq ?_
  refine RunC.seq ?_
  rcases bsel_some h4_ with ⟨hc2, h4_⟩ | ⟨hc2, h4_⟩
  ·refine RunC.regionW ?_
   refine zM (r := i64 v4) rfl rfl rfl rfl rfl ?_
   refine zM (r := optr 0 0 0) rfl rfl rfl rfl rfl ?_
   refine zL (r := optr 0 0 0) rfl rfl rfl (LOp.nilCheck_optr rfl rfl) ?_
   refine zL (r := optr 0 0 0) rfl rfl rfl (LOp.fao und26 rfl siz2 rfl rfl rfl) ?_
   refine ROps.d (r := i64 a1) (fs := []) (Γ' := [⟨0, some [i64 a1, i64 a2, oref 1 0 0 a3.length, oref 2 0 0 a4.length]⟩, ⟨0, some (L2.map f32)⟩, ⟨0, some (a4.map i64)⟩]) rfl rfl rfl (TOp.load1_o rfl rfl agg2 rfl rfl) rfl ?_
   refine zL (r := b true) rfl rfl rfl (LOp.eqb (LOp.lss rfl rfl rfl) hc2) ?_
   refine zN ?_
   refine RunC.cond_true rfl rfl ?_
   refine RunC.skip ?_
   refine RunC.seq ?_
   refine RunC.block ?_
   refine RunC.seq ?_
   obtain ⟨x5, hx3, h4_⟩ := olet_some h4_
   obtain ⟨x6, hx4, h4_⟩ := olet_some h4_
   obtain ⟨e7, he5, h4_⟩ := obind_some h4_
   obtain ⟨x8, hx6, h4_⟩ := olet_some h4_
   obtain ⟨x9, hx7, h4_⟩ := olet_some h4_
   obtain ⟨e10, he8, h4_⟩ := obind_some h4_
   obtain ⟨x11, hx9, h4_⟩ := olet_some h4_
   refine RunC.region_draw (Γ' := [⟨0, some [i64 a1, i64 a2, oref 1 0 0 a3.length, oref 2 0 0 a4.length]⟩, ⟨0, some (L2.map f32)⟩, ⟨0, some (a4.map i64)⟩]) 24 mixed 
    (TR.l (r := optr 0 0 0) rfl rfl (LOp.move rfl rfl) <|
    (TR.l (r := optr 0 0 0) rfl rfl (LOp.nilCheck_optr rfl rfl) <|
    (TR.l (r := optr 0 0 2) rfl rfl (LOp.fao und26 rfl siz22 rfl rfl rfl) <|
    (TR.d (r := oref 1 0 0 a3.length) (fs := []) rfl rfl (TOp.load1_o rfl rfl agg22 rfl rfl) <|
    (TR.l (r := i64 v4) rfl rfl (LOp.move rfl rfl) <|
    (TR.l (r := i64 a2) rfl rfl (LOp.move rfl rfl) <|
    (TR.l (r := i64 x5) rfl rfl (LOp.eqr (LOp.mul rfl rfl rfl) (congrArg (ik .i64) hx3)) <|
    (TR.l (r := i64 a0) rfl rfl (LOp.move rfl rfl) <|
    (TR.l (r := i64 x6) rfl rfl (LOp.eqr (LOp.add rfl rfl rfl) (congrArg (ik .i64) hx4)) <|
    (TR.d (r := optr 1 0 x6.toNat) (fs := []) rfl rfl (TOp.ixo und22 siz33 rfl rfl rfl (at_in he5 hl3) rfl) <|
    (TR.d (r := f32 e7) (fs := []) rfl rfl (TOp.load1_o rfl (at_cell he5) agg33 rfl rfl) <|
    (TR.l (r := optr 0 0 0) rfl rfl (LOp.move rfl rfl) <|
    (TR.l (r := optr 0 0 0) rfl rfl (LOp.nilCheck_optr rfl rfl) <|
    (TR.l (r := optr 0 0 2) rfl rfl (LOp.fao und26 rfl siz22 rfl rfl rfl) <|
    (TR.d (r := oref 1 0 0 a3.length) (fs := []) rfl rfl (TOp.load1_o rfl rfl agg22 rfl rfl) <|
    (TR.l (r := i64 a0) rfl rfl (LOp.move rfl rfl) <|
    (TR.l (r := i64 a2) rfl rfl (LOp.move rfl rfl) <|
    (TR.l (r := i64 x8) rfl rfl (LOp.eqr (LOp.mul rfl rfl rfl) (congrArg (ik .i64) hx6)) <|
    (TR.l (r := i64 a0) rfl rfl (LOp.move rfl rfl) <|
    (TR.l (r := i64 x9) rfl rfl (LOp.eqr (LOp.add rfl rfl rfl) (congrArg (ik .i64) hx7)) <|
    (TR.d (r := optr 1 0 x9.toNat) (fs := []) rfl rfl (TOp.ixo und22 siz33 rfl rfl rfl (at_in he8 hl3) rfl) <|
    (TR.d (r := f32 e10) (fs := []) rfl rfl (TOp.load1_o rfl (at_cell he8) agg33 rfl rfl) <|
    (TR.d (r := f32 x11) (fs := []) rfl rfl (TOp.eqr (TOp.fop (.inr (.inr (.inr rfl))) rfl (OpF.tmp rfl) (OpF.tmp rfl)) (congrArg (f .f32) hx9)) <|
    (TR.l (r := f32 x11) rfl rfl (LOp.assign rfl rfl) <|
    TR.nil)))))))))))))))))))))))) rfl (by kernel_rfl) rfl fills_nil rfl ?_
   iterate 24 refine ROps.dropS ?_
   refine ROps.drop0 ?_
   refine zN ?_
   refine RunC.wl (τ' := [(0, optr 0 0 0), (1, i64 a0), (5, i64 a2), (6, i64 v4), (7, f32 x11)]) (Γ' := [⟨0, some [i64 a1, i64 a2, oref 1 0 0 a3.length, oref 2 0 0 a4.length]⟩, ⟨0, some (L2.map f32)⟩, ⟨0, some (a4.map i64)⟩]) ⟨aR, aR, aR, aR, aR, trivial⟩ ⟨⟨rfl, .inr rfl⟩, ⟨rfl, .inr rfl⟩, ⟨rfl, .inr rfl⟩, trivial⟩ ?_
   refine RunC.seq ?_
   obtain ⟨x12, hx10, h4_⟩ := olet_some h4_
   obtain ⟨x13, hx11, h4_⟩ := olet_some h4_
   obtain ⟨L14, he12, h4_⟩ := obind_some h4_
   refine RunC.regionW ?_
   refine zM (r := optr 0 0 0) rfl rfl rfl rfl rfl ?_
   refine zL (r := optr 0 0 0) rfl rfl rfl (LOp.nilCheck_optr rfl rfl) ?_
   refine zL (r := optr 0 0 2) rfl rfl rfl (LOp.fao und26 rfl siz22 rfl rfl rfl) ?_
   refine ROps.d (r := oref 1 0 0 a3.length) (fs := []) (Γ' := [⟨0, some [i64 a1, i64 a2, oref 1 0 0 a3.length, oref 2 0 0 a4.length]⟩, ⟨0, some (L2.map f32)⟩, ⟨0, some (a4.map i64)⟩]) rfl rfl rfl (TOp.load1_o rfl rfl agg22 rfl rfl) rfl ?_
   refine zM (r := i64 v4) rfl rfl rfl rfl rfl ?_
   refine zM (r := i64 a2) rfl rfl rfl rfl rfl ?_
   refine zL (r := i64 x12) rfl rfl rfl (LOp.eqr (LOp.mul rfl rfl rfl) (congrArg (ik .i64) hx10)) ?_
   refine zM (r := i64 a0) rfl rfl rfl rfl rfl ?_
   refine zL (r := i64 x13) rfl rfl rfl (LOp.eqr (LOp.add rfl rfl rfl) (congrArg (ik .i64) hx11)) ?_
   refine zM (r := f32 x11) rfl rfl rfl rfl rfl ?_
   refine ROps.d (r := optr 1 0 x13.toNat) (fs := []) (Γ' := [⟨0, some [i64 a1, i64 a2, oref 1 0 0 a3.length, oref 2 0 0 a4.length]⟩, ⟨0, some (L2.map f32)⟩, ⟨0, some (a4.map i64)⟩]) rfl rfl rfl (TOp.ixo und22 siz33 rfl rfl rfl (set_in he12 hl3) rfl) rfl ?_
   refine ROps.st (f := f32) (i := x13) (Γ' := [⟨0, some [i64 a1, i64 a2, oref 1 0 0 a3.length, oref 2 0 0 a4.length]⟩, ⟨0, some (L14.map f32)⟩, ⟨0, some (a4.map i64)⟩]) rfl siz33 rfl rfl rfl aR rfl rfl rfl he12 rfl ?_
   refine zN ?_
   refine RunC.seq ?_
   refine RunC.seq ?_
   obtain ⟨r15, hf13, h4_⟩ := obind_some h4_
   rcases bsel_some h4_ with ⟨hc14, h4_⟩ | ⟨hc14, h4_⟩
   ·refine RunC.regionW ?_
    refine zM (r := f32 x11) rfl rfl rfl rfl rfl ?_
    refine ROps.d (r := b true) (fs := []) (Γ' := [⟨0, some [i64 a1, i64 a2, oref 1 0 0 a3.length, oref 2 0 0 a4.length]⟩, ⟨0, some (L14.map f32)⟩, ⟨0, some (a4.map i64)⟩]) rfl rfl rfl (TOp.eqb (TOp.callB (CallAs.func ent53 rfl rfl) (Bors.cons (Bor.pure rfl) Bors.nil) rfl rfl (s_l01Finite_ok x11 r15 hf13)) hc14) rfl ?_
    refine zL (r := b false) rfl rfl rfl (LOp.eqb (LOp.not rfl rfl) rfl) ?_
    refine zN ?_
    refine RunC.wl (τ' := [(0, optr 0 0 0), (1, i64 a0), (5, i64 a2), (6, i64 v4), (7, f32 x11), (60, b false)]) (Γ' := [⟨0, some [i64 a1, i64 a2, oref 1 0 0 a3.length, oref 2 0 0 a4.length]⟩, ⟨0, some (L14.map f32)⟩, ⟨0, some (a4.map i64)⟩]) ⟨aR, aR, aR, aR, aR, aR, trivial⟩ ⟨⟨rfl, .inr rfl⟩, ⟨rfl, .inr rfl⟩, ⟨rfl, .inr rfl⟩, trivial⟩ ?_
    refine RunC.cond_false rfl rfl ?_
    refine RunC.skip ?_
    refine RunC.seq ?_
    obtain ⟨x16, hx15, h4_⟩ := olet_some h4_
    refine RunC.regionW ?_
    refine zM (r := i64 a0) rfl rfl rfl rfl rfl ?_
    refine zL (r := i64 x16) rfl rfl rfl (LOp.eqr (LOp.add rfl rfl rfl) (congrArg (ik .i64) hx15)) ?_
    refine zA (r := i64 x16) rfl rfl rfl rfl rfl ?_
    refine zN ?_
    obtain ⟨z5, hz_5, h4_⟩ := obind_some h4_
    refine RunC.cutN (fun τ Γ => ∃ (L33 : List F), L33.length = a3.length ∧ WeakLe τ [(0, optr 0 0 0), (1, i64 a0), (5, i64 a2), (6, i64 v4)] ∧ DeadLe Γ [⟨0, some [i64 a1, i64 a2, oref 1 0 0 a3.length, oref 2 0 0 a4.length]⟩, ⟨0, some (L33.map f32)⟩, ⟨0, some (a4.map i64)⟩] ∧ z5 = .inl L33) ?_ ?_
    ·refine RunC.block (RunC.loop (RunL.loopM (x := z5) (s_l03Clear_0p0_C02o1_3o2_s2 a0 a2 a4 v4 x11) (fun (s : (List F) × Int) τ Γ => s.1.length = a3.length ∧ WeakLe τ [(0, optr 0 0 0), (1, i64 a0), (5, i64 a2), (6, i64 v4), (7, f32 x11), (8, i64 s.2)] ∧ DeadLe Γ [⟨0, some [i64 a1, i64 a2, oref 1 0 0 a3.length, oref 2 0 0 a4.length]⟩, ⟨0, some (s.1.map f32)⟩, ⟨0, some (a4.map i64)⟩]) ?_ _ _ _ hz_5 ⟨((setAt?_len he12).trans hl3), ⟨aR, aR, aR, aR, aR, aR, trivial⟩, ⟨⟨rfl, .inr rfl⟩, ⟨rfl, .inr rfl⟩, ⟨rfl, .inr rfl⟩, trivial⟩⟩))
     rintro ⟨L17, v19⟩ τ5 Γ5 y5_ ⟨hl18, hw5, hd5⟩ h5_ ho5 hr5
     refine RunC.wl (τ' := [(0, optr 0 0 0), (1, i64 a0), (5, i64 a2), (6, i64 v4), (7, f32 x11), (8, i64 v19)]) (Γ' := [⟨0, some [i64 a1, i64 a2, oref 1 0 0 a3.length, oref 2 0 0 a4.length]⟩, ⟨0, some (L17.map f32)⟩, ⟨0, some (a4.map i64)⟩]) hw5 hd5 ?_
     replace hl18 : L17.length = a3.length := hl18
     replace h5_ : s_l03Clear_0p0_C02o1_3o2_b2 a0 a2 a4 v4 x11 L17 v19 = some y5_ := h5_
     unfold s_l03Clear_0p0_C02o1_3o2_b2 at h5_
     refine RunC.seq ?_
     refine RunC.seq ?_
     rcases bsel_some h5_ with ⟨hc16, h5_⟩ | ⟨hc16, h5_⟩
     ·refine RunC.regionW ?_
      refine zM (r := i64 v19) rfl rfl rfl rfl rfl ?_
      refine zM (r := i64 a2) rfl rfl rfl rfl rfl ?_
      refine zL (r := b true) rfl rfl rfl (LOp.eqb (LOp.lss rfl rfl rfl) hc16) ?_
      refine zN ?_
      refine RunC.cond_true rfl rfl ?_
      refine RunC.skip ?_
      refine RunC.seq ?_
      refine RunC.block ?_
      refine RunC.seq ?_
      obtain ⟨x20, hx17, h5_⟩ := olet_some h5_
      obtain ⟨x21, hx18, h5_⟩ := olet_some h5_
      obtain ⟨e22, he19, h5_⟩ := obind_some h5_
      obtain ⟨x23, hx20, h5_⟩ := olet_some h5_
      obtain ⟨x24, hx21, h5_⟩ := olet_some h5_
      obtain ⟨e25, he22, h5_⟩ := obind_some h5_
      obtain ⟨x26, hx23, h5_⟩ := olet_some h5_
      obtain ⟨x27, hx24, h5_⟩ := olet_some h5_
      refine RunC.region_draw (Γ' := [⟨0, some [i64 a1, i64 a2, oref 1 0 0 a3.length, oref 2 0 0 a4.length]⟩, ⟨0, some (L17.map f32)⟩, ⟨0, some (a4.map i64)⟩]) 26 mixed 
       (TR.l (r := optr 0 0 0) rfl rfl (LOp.move rfl rfl) <|
       (TR.l (r := optr 0 0 0) rfl rfl (LOp.nilCheck_optr rfl rfl) <|
       (TR.l (r := optr 0 0 2) rfl rfl (LOp.fao und26 rfl siz22 rfl rfl rfl) <|
       (TR.d (r := oref 1 0 0 a3.length) (fs := []) rfl rfl (TOp.load1_o rfl rfl agg22 rfl rfl) <|
       (TR.l (r := i64 v4) rfl rfl (LOp.move rfl rfl) <|
       (TR.l (r := i64 a2) rfl rfl (LOp.move rfl rfl) <|
       (TR.l (r := i64 x20) rfl rfl (LOp.eqr (LOp.mul rfl rfl rfl) (congrArg (ik .i64) hx17)) <|
       (TR.l (r := i64 v19) rfl rfl (LOp.move rfl rfl) <|
       (TR.l (r := i64 x21) rfl rfl (LOp.eqr (LOp.add rfl rfl rfl) (congrArg (ik .i64) hx18)) <|
       (TR.d (r := optr 1 0 x21.toNat) (fs := []) rfl rfl (TOp.ixo und22 siz33 rfl rfl rfl (at_in he19 hl18) rfl) <|
       (TR.d (r := f32 e22) (fs := []) rfl rfl (TOp.load1_o rfl (at_cell he19) agg33 rfl rfl) <|
       (TR.l (r := f32 x11) rfl rfl (LOp.move rfl rfl) <|
       (TR.l (r := optr 0 0 0) rfl rfl (LOp.move rfl rfl) <|
       (TR.l (r := optr 0 0 0) rfl rfl (LOp.nilCheck_optr rfl rfl) <|
       (TR.l (r := optr 0 0 2) rfl rfl (LOp.fao und26 rfl siz22 rfl rfl rfl) <|
       (TR.d (r := oref 1 0 0 a3.length) (fs := []) rfl rfl (TOp.load1_o rfl rfl agg22 rfl rfl) <|
       (TR.l (r := i64 a0) rfl rfl (LOp.move rfl rfl) <|
       (TR.l (r := i64 a2) rfl rfl (LOp.move rfl rfl) <|
       (TR.l (r := i64 x23) rfl rfl (LOp.eqr (LOp.mul rfl rfl rfl) (congrArg (ik .i64) hx20)) <|
       (TR.l (r := i64 v19) rfl rfl (LOp.move rfl rfl) <|
       (TR.l (r := i64 x24) rfl rfl (LOp.eqr (LOp.add rfl rfl rfl) (congrArg (ik .i64) hx21)) <|
       (TR.d (r := optr 1 0 x24.toNat) (fs := []) rfl rfl (TOp.ixo und22 siz33 rfl rfl rfl (at_in he22 hl18) rfl) <|
       (TR.d (r := f32 e25) (fs := []) rfl rfl (TOp.load1_o rfl (at_cell he22) agg33 rfl rfl) <|
       (TR.d (r := f32 x26) (fs := []) rfl rfl (TOp.eqr (TOp.fop (.inr (.inr (.inl rfl))) rfl (OpF.tmp rfl) (OpF.tmp rfl)) (congrArg (f .f32) hx23)) <|
       (TR.d (r := f32 x27) (fs := []) rfl rfl (TOp.eqr (TOp.fop (.inr (.inl rfl)) rfl (OpF.tmp rfl) (OpF.tmp rfl)) (congrArg (f .f32) hx24)) <|
       (TR.l (r := f32 x27) rfl rfl (LOp.assign rfl rfl) <|
       TR.nil)))))))))))))))))))))))))) rfl (by kernel_rfl) rfl fills_nil rfl ?_
      iterate 26 refine ROps.dropS ?_
      refine ROps.drop0 ?_
      refine zN ?_
      refine RunC.wl (τ' := [(0, optr 0 0 0), (1, i64 a0), (5, i64 a2), (6, i64 v4), (7, f32 x11), (8, i64 v19), (9, f32 x27)]) (Γ' := [⟨0, some [i64 a1, i64 a2, oref 1 0 0 a3.length, oref 2 0 0 a4.length]⟩, ⟨0, some (L17.map f32)⟩, ⟨0, some (a4.map i64)⟩]) ⟨aR, aR, aR, aR, aR, aR, aR, trivial⟩ ⟨⟨rfl, .inr rfl⟩, ⟨rfl, .inr rfl⟩, ⟨rfl, .inr rfl⟩, trivial⟩ ?_
      refine RunC.seq ?_
      obtain ⟨x28, hx25, h5_⟩ := olet_some h5_
      obtain ⟨x29, hx26, h5_⟩ := olet_some h5_
      obtain ⟨L30, he27, h5_⟩ := obind_some h5_
      refine RunC.regionW ?_
      refine zM (r := optr 0 0 0) rfl rfl rfl rfl rfl ?_
      refine zL (r := optr 0 0 0) rfl rfl rfl (LOp.nilCheck_optr rfl rfl) ?_
      refine zL (r := optr 0 0 2) rfl rfl rfl (LOp.fao und26 rfl siz22 rfl rfl rfl) ?_
      refine ROps.d (r := oref 1 0 0 a3.length) (fs := []) (Γ' := [⟨0, some [i64 a1, i64 a2, oref 1 0 0 a3.length, oref 2 0 0 a4.length]⟩, ⟨0, some (L17.map f32)⟩, ⟨0, some (a4.map i64)⟩]) rfl rfl rfl (TOp.load1_o rfl rfl agg22 rfl rfl) rfl ?_
      refine zM (r := i64 v4) rfl rfl rfl rfl rfl ?_
      refine zM (r := i64 a2) rfl rfl rfl rfl rfl ?_
      refine zL (r := i64 x28) rfl rfl rfl (LOp.eqr (LOp.mul rfl rfl rfl) (congrArg (ik .i64) hx25)) ?_
      refine zM (r := i64 v19) rfl rfl rfl rfl rfl ?_
      refine zL (r := i64 x29) rfl rfl rfl (LOp.eqr (LOp.add rfl rfl rfl) (congrArg (ik .i64) hx26)) ?_
      refine zM (r := f32 x27) rfl rfl rfl rfl rfl ?_
      refine ROps.d (r := optr 1 0 x29.toNat) (fs := []) (Γ' := [⟨0, some [i64 a1, i64 a2, oref 1 0 0 a3.length, oref 2 0 0 a4.length]⟩, ⟨0, some (L17.map f32)⟩, ⟨0, some (a4.map i64)⟩]) rfl rfl rfl (TOp.ixo und22 siz33 rfl rfl rfl (set_in he27 hl18) rfl) rfl ?_
      refine ROps.st (f := f32) (i := x29) (Γ' := [⟨0, some [i64 a1, i64 a2, oref 1 0 0 a3.length, oref 2 0 0 a4.length]⟩, ⟨0, some (L30.map f32)⟩, ⟨0, some (a4.map i64)⟩]) rfl siz33 rfl rfl rfl aR rfl rfl rfl he27 rfl ?_
      refine zN ?_
      refine RunC.seq ?_
      obtain ⟨r31, hf28, h5_⟩ := obind_some h5_
      rcases bsel_some h5_ with ⟨hc29, h5_⟩ | ⟨hc29, h5_⟩
      ·refine RunC.regionW ?_
       refine zM (r := f32 x27) rfl rfl rfl rfl rfl ?_
       refine ROps.d (r := b true) (fs := []) (Γ' := [⟨0, some [i64 a1, i64 a2, oref 1 0 0 a3.length, oref 2 0 0 a4.length]⟩, ⟨0, some (L30.map f32)⟩, ⟨0, some (a4.map i64)⟩]) rfl rfl rfl (TOp.eqb (TOp.callB (CallAs.func ent53 rfl rfl) (Bors.cons (Bor.pure rfl) Bors.nil) rfl rfl (s_l01Finite_ok x27 r31 hf28)) hc29) rfl ?_
       refine zL (r := b false) rfl rfl rfl (LOp.eqb (LOp.not rfl rfl) rfl) ?_
       refine zN ?_
       refine RunC.wl (τ' := [(0, optr 0 0 0), (1, i64 a0), (5, i64 a2), (6, i64 v4), (7, f32 x11), (8, i64 v19), (106, b false)]) (Γ' := [⟨0, some [i64 a1, i64 a2, oref 1 0 0 a3.length, oref 2 0 0 a4.length]⟩, ⟨0, some (L30.map f32)⟩, ⟨0, some (a4.map i64)⟩]) ⟨aR, aR, aR, aR, aR, aR, aR, trivial⟩ ⟨⟨rfl, .inr rfl⟩, ⟨rfl, .inr rfl⟩, ⟨rfl, .inr rfl⟩, trivial⟩ ?_
       refine RunC.cond_false rfl rfl ?_
       refine RunC.skip ?_
       obtain ⟨x32, hx30, h5_⟩ := olet_some h5_
       refine RunC.regionW ?_
       refine zM (r := i64 v19) rfl rfl rfl rfl rfl ?_
       refine zL (r := i64 x32) rfl rfl rfl (LOp.eqr (LOp.add rfl rfl rfl) (congrArg (ik .i64) hx30)) ?_
       refine zA (r := i64 x32) rfl rfl rfl rfl rfl ?_
       refine zN ?_
       cases Option.some.inj h5_
       exact ⟨_, rfl, ((setAt?_len he27).trans hl18), ⟨aR, aR, aR, aR, aR, aR, trivial⟩, ⟨⟨rfl, .inr rfl⟩, ⟨rfl, .inr rfl⟩, ⟨rfl, .inr rfl⟩, trivial⟩⟩
      ·refine RunC.regionW ?_
       refine zM (r := f32 x27) rfl rfl rfl rfl rfl ?_
       refine ROps.d (r := b false) (fs := []) (Γ' := [⟨0, some [i64 a1, i64 a2, oref 1 0 0 a3.length, oref 2 0 0 a4.length]⟩, ⟨0, some (L30.map f32)⟩, ⟨0, some (a4.map i64)⟩]) rfl rfl rfl (TOp.eqb (TOp.callB (CallAs.func ent53 rfl rfl) (Bors.cons (Bor.pure rfl) Bors.nil) rfl rfl (s_l01Finite_ok x27 r31 hf28)) hc29) rfl ?_
       refine zL (r := b true) rfl rfl rfl (LOp.eqb (LOp.not rfl rfl) rfl) ?_
       refine zN ?_
       refine RunC.wl (τ' := [(0, optr 0 0 0), (1, i64 a0), (5, i64 a2), (6, i64 v4), (7, f32 x11), (8, i64 v19), (106, b true)]) (Γ' := [⟨0, some [i64 a1, i64 a2, oref 1 0 0 a3.length, oref 2 0 0 a4.length]⟩, ⟨0, some (L30.map f32)⟩, ⟨0, some (a4.map i64)⟩]) ⟨aR, aR, aR, aR, aR, aR, aR, trivial⟩ ⟨⟨rfl, .inr rfl⟩, ⟨rfl, .inr rfl⟩, ⟨rfl, .inr rfl⟩, trivial⟩ ?_
       refine RunC.cond_true rfl rfl ?_
       refine zQ ?_
       refine zA (r := b false) rfl rfl rfl rfl rfl ?_
       refine zN ?_
       refine RunC.ret ?_
       cases Option.some.inj h5_
       have hx6_ := hr5 _ rfl
       subst hx6_
       cases Option.some.inj h4_
       have hx7_ := hr4 _ rfl
       subst hx7_
       have hq := Option.some.inj h
       obtain ⟨hq0, hq⟩ := Prod.mk.inj hq
       obtain ⟨hq1, hq⟩ := Prod.mk.inj hq
       subst q0
       subst q1
       subst q2
       exact bodyQ.mk (r' := b false) [(0, 0), (1, 0), (2, 0)] (.inr rfl) rfl (show List.Nodup [0, 1, 2] from by decide) rfl rfl (Res.one rfl (RV.tmp rfl)) (SelL.cells rfl (by first | rfl | simp [ren, rens, sigma, rens_f32, rens_f64, rens_i64, rens_ik, rens_str, rens_cp]) rfl (SelL.arr (f := f32) (fun _ => rfl) rfl (SelL.arr (f := i64) (fun _ => rfl) rfl trivial)))
     ·refine RunC.regionW ?_
      refine zM (r := i64 v19) rfl rfl rfl rfl rfl ?_
      refine zM (r := i64 a2) rfl rfl rfl rfl rfl ?_
      refine zL (r := b false) rfl rfl rfl (LOp.eqb (LOp.lss rfl rfl rfl) hc16) ?_
      refine zN ?_
      refine RunC.cond_false rfl rfl ?_
      refine RunC.exit ?_
      cases Option.some.inj h5_
      have hx := ho5 _ rfl
      exact ⟨L17, hl18, ⟨aR, aR, aR, aR, trivial⟩, ⟨⟨rfl, .inr rfl⟩, ⟨rfl, .inr rfl⟩, ⟨rfl, .inr rfl⟩, trivial⟩, hx⟩
    ·rintro τ8 Γ8 ⟨L33, hl34, hw8, hd8, rfl⟩
     refine RunC.wl hw8 hd8 ?_
     replace h4_ : s_l03Clear_0p0_C02o1_3o2_k2 v4 L33 = some y4_ := h4_
     unfold s_l03Clear_0p0_C02o1_3o2_k2 at h4_
     obtain ⟨x35, hx31, h4_⟩ := olet_some h4_
     refine RunC.regionW ?_
     refine zM (r := i64 v4) rfl rfl rfl rfl rfl ?_
     refine zL (r := i64 x35) rfl rfl rfl (LOp.eqr (LOp.add rfl rfl rfl) (congrArg (ik .i64) hx31)) ?_
     refine zA (r := i64 x35) rfl rfl rfl rfl rfl ?_
     refine zN ?_
     cases Option.some.inj h4_
     exact ⟨_, rfl, hl34, ⟨aR, aR, aR, aR, trivial⟩, ⟨⟨rfl, .inr rfl⟩, ⟨rfl, .inr rfl⟩, ⟨rfl, .inr rfl⟩, trivial⟩⟩
   ·refine RunC.regionW ?_
    refine zM (r := f32 x11) rfl rfl rfl rfl rfl ?_
    refine ROps.d (r := b false) (fs := []) (Γ' := [⟨0, some [i64 a1, i64 a2, oref 1 0 0 a3.length, oref 2 0 0 a4.length]⟩, ⟨0, some (L14.map f32)⟩, ⟨0, some (a4.map i64)⟩]) rfl rfl rfl (TOp.eqb (TOp.callB (CallAs.func ent53 rfl rfl) (Bors.cons (Bor.pure rfl) Bors.nil) rfl rfl (s_l01Finite_ok x11 r15 hf13)) hc14) rfl ?_
    refine zL (r := b true) rfl rfl rfl (LOp.eqb (LOp.not rfl rfl) rfl) ?_
    refine zN ?_
    refine RunC.wl (τ' := [(0, optr 0 0 0), (1, i64 a0), (5, i64 a2), (6, i64 v4), (7, f32 x11), (60, b true)]) (Γ' := [⟨0, some [i64 a1, i64 a2, oref 1 0 0 a3.length, oref 2 0 0 a4.length]⟩, ⟨0, some (L14.map f32)⟩, ⟨0, some (a4.map i64)⟩]) ⟨aR, aR, aR, aR, aR, aR, trivial⟩ ⟨⟨rfl, .inr rfl⟩, ⟨rfl, .inr rfl⟩, ⟨rfl, .inr rfl⟩, trivial⟩ ?_
    refine RunC.cond_true rfl rfl ?_
    refine zQ ?_
    refine zA (r := b false) rfl rfl rfl rfl rfl ?_
    refine zN ?_
    refine RunC.ret ?_
    cases Option.some.inj h4_
    have hx9_ := hr4 _ rfl
    subst hx9_
    have hq := Option.some.inj h
    obtain ⟨hq0, hq⟩ := Prod.mk.inj hq
    obtain ⟨hq1, hq⟩ := Prod.mk.inj hq
    subst q0
    subst q1
    subst q2
    exact bodyQ.mk (r' := b false) [(0, 0), (1, 0), (2, 0)] (.inr rfl) rfl (show List.Nodup [0, 1, 2] from by decide) rfl rfl (Res.one rfl (RV.tmp rfl)) (SelL.cells rfl (by first | rfl | simp [ren, rens, sigma, rens_f32, rens_f64, rens_i64, rens_ik, rens_str, rens_cp]) rfl (SelL.arr (f := f32) (fun _ => rfl) rfl (SelL.arr (f := i64) (fun _ => rfl) rfl trivial)))
  ·refine RunC.regionW ?_
   refine zM (r := i64 v4) rfl rfl rfl rfl rfl ?_
   refine zM (r := optr 0 0 0) rfl rfl rfl rfl rfl ?_
   refine zL (r := optr 0 0 0) rfl rfl rfl (LOp.nilCheck_optr rfl rfl) ?_
   refine zL (r := optr 0 0 0) rfl rfl rfl (LOp.fao und26 rfl siz2 rfl rfl rfl) ?_
   refine ROps.d (r := i64 a1) (fs := []) (Γ' := [⟨0, some [i64 a1, i64 a2, oref 1 0 0 a3.length, oref 2 0 0 a4.length]⟩, ⟨0, some (L2.map f32)⟩, ⟨0, some (a4.map i64)⟩]) rfl rfl rfl (TOp.load1_o rfl rfl agg2 rfl rfl) rfl ?_
   refine zL (r := b false) rfl rfl rfl (LOp.eqb (LOp.lss rfl rfl rfl) hc2) ?_
   refine zN ?_
   refine RunC.cond_false rfl rfl ?_
   refine RunC.exit ?_
   cases Option.some.inj h4_
   have hx := ho4 _ rfl
   exact ⟨L2, hl3, trivial, ⟨⟨rfl, .inr rfl⟩, ⟨rfl, .inr rfl⟩, ⟨rfl, .inr rfl⟩, trivial⟩, hx⟩
 ·rintro τ10 Γ10 ⟨L36, hl37, hw10, hd10, rfl⟩
  refine RunC.wl hw10 hd10 ?_
  replace h : s_l03Clear_0p0_C02o1_3o2_k3 a4 L36 = some (q0, q1, q2) := h
  unfold s_l03Clear_0p0_C02o1_3o2_k3 at h
  refine zQ ?_
  refine zA (r := b true) rfl rfl rfl rfl rfl ?_
  refine zN ?_
  refine RunC.ret ?_
  have hq := Option.some.inj h
  obtain ⟨hq0, hq⟩ := Prod.mk.inj hq
  obtain ⟨hq1, hq⟩ := Prod.mk.inj hq
  subst q0
  subst q1
  subst q2
  exact bodyQ.mk (r' := b true) [(0, 0), (1, 0), (2, 0)] (.inr rfl) rfl (show List.Nodup [0, 1, 2] from by decide) rfl rfl (Res.one rfl (RV.tmp rfl)) (SelL.cells rfl (by first | rfl | simp [ren, rens, sigma, rens_f32, rens_f64, rens_i64, rens_ik, rens_str, rens_cp]) rfl (SelL.arr (f := f32) (fun _ => rfl) rfl (SelL.arr (f := i64) (fun _ => rfl) rfl trivial)))
noncomputable def s_FactorRows_b1 (a0 : Int) (r2 : Int) (r3 : Int) (r4 : List F) (r5 : List Int) (L6 : List F) (L8 : List Int) (v10 : Int) : Option (LR ((List F) × (List Int) × Int) ((List F) × (List Int)) (Int × Int × Bool × (List F) × (List Int))) :=
 bsel (decide (v10 < a0)) (
  obind (s_l03Find r2 r3 L6 v10) fun (r11 : Int) =>
  obind (s_l02At r2 r3 L6 r11 v10) fun (r12 : F) =>
  bsel (feq .f32 r12 (some 0)) (
   some (LR.ret (0, 0, false, ([] : List F), ([] : List Int)))) (
   obind2 (s_l03Swap_0p0_C02o1_3o2 v10 r11 r2 r3 L6 L8) fun (r13 : List F) (r14 : List Int) =>
   need (decide (r13.length = r4.length)) <|
   need (decide (r14.length = r5.length)) <|
   obind (s_l03Trade_0o v10 r11 r14) fun (r15 : List Int) =>
   need (decide (r15.length = r5.length)) <|
   obind3 (s_l03Clear_0p0_C02o1_3o2 v10 r2 r3 r13 r15) fun (r16 : Bool) (r17 : List F) (r18 : List Int) =>
   need (decide (r17.length = r4.length)) <|
   need (decide (r18.length = r5.length)) <|
   bsel (!r16) (
    some (LR.ret (0, 0, false, ([] : List F), ([] : List Int)))) (
    olet (IntKind.i64.wrap (v10 + 1)) fun (x19 : Int) =>
    some (LR.next (r17, r18, x19))))) (
  some (LR.out (L6, L8)))
noncomputable def s_FactorRows_s1 (a0 : Int) (r2 : Int) (r3 : Int) (r4 : List F) (r5 : List Int) : ((List F) × (List Int) × Int) → Option (LR ((List F) × (List Int) × Int) ((List F) × (List Int)) (Int × Int × Bool × (List F) × (List Int))) := fun s => s_FactorRows_b1 a0 r2 r3 r4 r5 s.1 s.2.1 s.2.2
noncomputable def s_FactorRows_k1 (r2 : Int) (r3 : Int) (L20 : List F) (L22 : List Int) : Option (Int × Int × Bool × (List F) × (List Int)) :=
 some (r2, r3, true, L20, L22)
noncomputable def s_FactorRows (a0 : Int) (a1 : Int) (a2 : List F) : Option (Int × Int × Bool × (List F) × (List Int)) :=
 obind (s_l02Square a0 a1 a2) fun (r1 : Bool) =>
 bsel r1 (
  obind3 (s_l02Own a0 a1 a2) fun (r2 : Int) (r3 : Int) (r4 : List F) =>
  obind (s_l03Count a0) fun (r5 : List Int) =>
  obind (loopM (s_FactorRows_s1 a0 r2 r3 r4 r5) (r4, r5, 0)) fun z => osum z (fun e => s_FactorRows_k1 r2 r3 e.1 e.2) (fun r => some r)) (
  some (0, 0, false, ([] : List F), ([] : List Int)))
theorem s_FactorRows_ok (a0 : Int) (a1 : Int) (a2 : List F) (q0 : Int) (q1 : Int) (q2 : Bool) (q3 : List F) (q4 : List Int) (h : s_FactorRows a0 a1 a2 = some (q0, q1, q2, q3, q4)) : Ev Tryz.prog 40 [agg [i64 a0, i64 a1, sl a2.length (a2.map f32)]] [] (tup [agg [i64 q0, i64 q1, oref 0 0 0 q3.length, oref 1 0 0 q4.length], b q2]) [⟨0, some (q3.map f32)⟩, ⟨0, some (q4.map i64)⟩] := by
 refine Ev.start Tryz.func40 rfl rfl 6 (τ := [(0, agg [i64 a0, i64 a1, sl a2.length (a2.map f32)])]) rfl (Γ' := [⟨0, none⟩, ⟨0, none⟩, ⟨0, none⟩, ⟨0, none⟩, ⟨0, none⟩, ⟨0, none⟩]) rfl (n := 91) rfl (g := 0) rfl (fun _ => rfl) ?_
 unfold s_FactorRows at h
 refine zQ ?_
 refine ROps.d (r := ptr [i64 a0, i64 a1, sl a2.length (a2.map f32)]) (fs := []) (Γ' := [⟨0, none⟩, ⟨0, none⟩, ⟨0, none⟩, ⟨0, none⟩, ⟨0, none⟩, ⟨0, none⟩]) rfl rfl rfl (TOp.box_s rfl rfl rfl) rfl ?_
 refine ROps.d (r := optr 0 1 0) (fs := [(0, [i64 0, i64 0, nilsl, nilsl])]) (Γ' := [⟨1, some [i64 0, i64 0, nilsl, nilsl]⟩, ⟨0, none⟩, ⟨0, none⟩, ⟨0, none⟩, ⟨0, none⟩, ⟨0, none⟩]) rfl rfl rfl (TOp.alloc_o (g := ⟨0, none⟩) 0 rfl zer65 zok65 rfl) rfl ?_
 refine zA (r := b false) rfl rfl rfl rfl rfl ?_
 refine zN ?_
 refine RunC.seq ?_
 refine RunC.seq ?_
 obtain ⟨r1, hf1, h⟩ := obind_some h
 rcases bsel_some h with ⟨hc2, h⟩ | ⟨hc2, h⟩
 ·refine RunC.regionW ?_
  refine ROps.d (r := b true) (fs := []) (Γ' := [⟨1, some [i64 0, i64 0, nilsl, nilsl]⟩, ⟨0, none⟩, ⟨0, none⟩, ⟨0, none⟩, ⟨0, none⟩, ⟨0, none⟩]) rfl rfl rfl (TOp.eqb (TOp.callB (CallAs.func ent72 rfl rfl) (Bors.cons (Bor.ptr (Bors.cons (Bor.pure rfl) (Bors.cons (Bor.pure rfl) (Bors.cons (Bor.sl (fun _ => rfl)) Bors.nil)))) Bors.nil) rfl rfl (s_l02Square_ok a0 a1 a2 r1 hf1)) hc2) rfl ?_
  refine zL (r := b false) rfl rfl rfl (LOp.eqb (LOp.not rfl rfl) rfl) ?_
  refine zN ?_
  refine RunC.cond_false rfl rfl ?_
  refine RunC.skip ?_
  refine RunC.seq ?_
  obtain ⟨r2, r3, r4, hf3, h⟩ := obind3_some h
  obtain ⟨r5, hf4, h⟩ := obind_some h
  refine RunC.region_draw (Γ' := [⟨1, some [i64 0, i64 0, nilsl, nilsl]⟩, ⟨1, some (r4.map f32)⟩, ⟨1, some (r5.map i64)⟩, ⟨1, some [i64 0, i64 0, nilsl, nilsl]⟩, ⟨0, none⟩, ⟨0, none⟩]) 6 mixed 
   (TR.d (r := agg [i64 r2, i64 r3, oref 1 1 0 r4.length]) (fs := [(1, (r4.map f32))]) rfl rfl (TOp.callBN (ls := [(r4.map f32)]) [1] (CallAs.func ent50 rfl rfl) (Bors.cons (Bor.ptr (Bors.cons (Bor.pure rfl) (Bors.cons (Bor.pure rfl) (Bors.cons (Bor.sl (fun _ => rfl)) Bors.nil)))) Bors.nil) rfl (s_l02Own_ok a0 a1 a2 r2 r3 r4 hf3) (and_all (lts0_map (f := f32) (fun _ => rfl) _) rfl) (and_all (noss_map (f := f32) (fun _ => rfl) _) rfl) rfl (by decide) (ns_of ⟨⟨_, rfl⟩, trivial⟩)) <|
   (TR.l (r := ptr [i64 a0, i64 a1, sl a2.length (a2.map f32)]) rfl rfl (LOp.fap und26 rfl siz2 rfl rfl rfl) <|
   (TR.l (r := i64 a0) rfl rfl (LOp.load1 agg2 rfl rfl) <|
   (TR.d (r := oref 2 1 0 r5.length) (fs := [(2, (r5.map i64))]) rfl rfl (TOp.callBN (ls := [(r5.map i64)]) [2] (CallAs.func ent73 rfl rfl) (Bors.cons (Bor.pure rfl) Bors.nil) rfl (s_l03Count_ok a0 r5 hf4) (and_all (lts0_map (f := i64) (fun _ => rfl) _) rfl) (and_all (noss_map (f := i64) (fun _ => rfl) _) rfl) rfl (by decide) (ns_of ⟨⟨_, rfl⟩, trivial⟩)) <|
   (TR.l (r := agg [i64 r2, i64 r3, oref 1 1 0 r4.length, oref 2 1 0 r5.length]) rfl rfl (LOp.build (qs := [(0, [i64 r2, i64 r3, oref 1 1 0 r4.length]), (1, [oref 2 1 0 r5.length])]) zer65 zok65 und65 plc65 rfl ⟨rfl, ⟨_, ALe.refl _, rfl⟩, ⟨rfl, ⟨_, ALe.refl _, rfl⟩, trivial⟩⟩ rfl) <|
   (TR.d (r := optr 3 1 0) (fs := [(3, [i64 0, i64 0, nilsl, nilsl])]) rfl rfl (TOp.alloc_o (g := ⟨0, none⟩) 3 rfl zer65 zok65 rfl) <|
   TR.nil)))))) rfl (by kernel_rfl) rfl (fills_of (by show List.Nodup [1, 2, 3]; decide) ⟨⟨_, rfl⟩, ⟨_, rfl⟩, ⟨_, rfl⟩, trivial⟩) rfl ?_
  iterate 6 refine ROps.dropS ?_
  refine ROps.drop0 ?_
  refine ROps.store_le (r := agg [i64 r2, i64 r3, oref 1 1 0 r4.length, oref 2 1 0 r5.length]) (l' := [i64 r2, i64 r3, oref 1 1 0 r4.length, oref 2 1 0 r5.length]) (Γ' := [⟨1, some [i64 0, i64 0, nilsl, nilsl]⟩, ⟨1, some (r4.map f32)⟩, ⟨1, some (r5.map i64)⟩, ⟨1, some [i64 r2, i64 r3, oref 1 1 0 r4.length, oref 2 1 0 r5.length]⟩, ⟨0, none⟩, ⟨0, none⟩]) rfl siz65 rfl rfl rfl aR rfl rfl rfl rfl (Nat.le_of_ble_eq_true rfl) rfl rfl ?_
  refine zN ?_
  refine RunC.seq ?_
  refine zQ ?_
  refine zA (r := i64 0) rfl rfl rfl rfl rfl ?_
  refine zN ?_
  obtain ⟨z2, hz_2, h⟩ := obind_some h
  refine RunC.cutN (fun τ Γ => ∃ (L20 : List F) (L22 : List Int), L20.length = r4.length ∧ L22.length = r5.length ∧ WeakLe τ [(2, optr 0 1 0), (4, optr 3 1 0)] ∧ DeadLe Γ [⟨1, some [i64 0, i64 0, nilsl, nilsl]⟩, ⟨1, some (L20.map f32)⟩, ⟨1, some (L22.map i64)⟩, ⟨1, some [i64 r2, i64 r3, oref 1 1 0 r4.length, oref 2 1 0 r5.length]⟩, ⟨0, none⟩, ⟨0, none⟩] ∧ z2 = .inl (L20, L22)) ?_ ?_
  ·refine RunC.block (RunC.loop (RunL.loopM (x := z2) (s_FactorRows_s1 a0 r2 r3 r4 r5) (fun (s : (List F) × (List Int) × Int) τ Γ => s.1.length = r4.length ∧ s.2.1.length = r5.length ∧ WeakLe τ [(1, ptr [i64 a0, i64 a1, sl a2.length (a2.map f32)]), (2, optr 0 1 0), (4, optr 3 1 0), (5, i64 s.2.2)] ∧ DeadLe Γ [⟨1, some [i64 0, i64 0, nilsl, nilsl]⟩, ⟨1, some (s.1.map f32)⟩, ⟨1, some (s.2.1.map i64)⟩, ⟨1, some [i64 r2, i64 r3, oref 1 1 0 r4.length, oref 2 1 0 r5.length]⟩, ⟨0, none⟩, ⟨0, none⟩]) ?_ _ _ _ hz_2 ⟨rfl, rfl, ⟨aR, aR, aR, aR, trivial⟩, ⟨⟨rfl, .inr rfl⟩, ⟨rfl, .inr rfl⟩, ⟨rfl, .inr rfl⟩, ⟨rfl, .inr rfl⟩, ⟨rfl, .inr rfl⟩, ⟨rfl, .inr rfl⟩, trivial⟩⟩))
   rintro ⟨L6, L8, v10⟩ τ2 Γ2 y2_ ⟨hl7, hl9, hw2, hd2⟩ h2_ ho2 hr2
   refine RunC.wl (τ' := [(1, ptr [i64 a0, i64 a1, sl a2.length (a2.map f32)]), (2, optr 0 1 0), (4, optr 3 1 0), (5, i64 v10)]) (Γ' := [⟨1, some [i64 0, i64 0, nilsl, nilsl]⟩, ⟨1, some (L6.map f32)⟩, ⟨1, some (L8.map i64)⟩, ⟨1, some [i64 r2, i64 r3, oref 1 1 0 r4.length, oref 2 1 0 r5.length]⟩, ⟨0, none⟩, ⟨0, none⟩]) hw2 hd2 ?_
   replace hl7 : L6.length = r4.length := hl7
   replace hl9 : L8.length = r5.length := hl9
   replace h2_ : s_FactorRows_b1 a0 r2 r3 r4 r5 L6 L8 v10 = some y2_ := h2_
   unfold s_FactorRows_b1 at h2_
   refine RunC.seq ?_
   refine RunC.seq ?_
   rcases bsel_some h2_ with ⟨hc5, h2_⟩ | ⟨hc5, h2_⟩
   ·refine RunC.regionW ?_
    refine zM (r := i64 v10) rfl rfl rfl rfl rfl ?_
    refine zL (r := ptr [i64 a0, i64 a1, sl a2.length (a2.map f32)]) rfl rfl rfl (LOp.fap und26 rfl siz2 rfl rfl rfl) ?_
    refine zL (r := i64 a0) rfl rfl rfl (LOp.load1 agg2 rfl rfl) ?_
    refine zL (r := b true) rfl rfl rfl (LOp.eqb (LOp.lss rfl rfl rfl) hc5) ?_
    refine zN ?_
    refine RunC.cond_true rfl rfl ?_
    refine RunC.skip ?_
    refine RunC.seq ?_
    refine RunC.block ?_
    refine RunC.seq ?_
    obtain ⟨r11, hf6, h2_⟩ := obind_some h2_
    refine RunC.regionW ?_
    refine zL (r := optr 3 1 0) rfl rfl rfl (LOp.fao und65 rfl siz26 rfl rfl rfl) ?_
    refine zM (r := i64 v10) rfl rfl rfl rfl rfl ?_
    refine ROps.d (r := i64 r11) (fs := []) (Γ' := [⟨1, some [i64 0, i64 0, nilsl, nilsl]⟩, ⟨1, some (L6.map f32)⟩, ⟨1, some (L8.map i64)⟩, ⟨1, some [i64 r2, i64 r3, oref 1 1 0 r4.length, oref 2 1 0 r5.length]⟩, ⟨0, none⟩, ⟨0, none⟩]) rfl rfl rfl (TOp.callB (CallAs.func ent74 rfl rfl) (Bors.cons (Bor.optrT 3 rfl (Bors.p (Bors.cons (Bor.pure rfl) (Bors.cons (Bor.pure rfl) (Bors.cons (Bor.own (f := f32) (fun _ => rfl) rfl hl7) (Bors.cons (Bor.own (f := i64) (fun _ => rfl) rfl hl9) Bors.nil))))) rfl) (Bors.cons (Bor.pure rfl) Bors.nil)) rfl rfl (s_l03Find_ok r2 r3 L6 v10 r11 hf6)) rfl ?_
    refine zA (r := i64 r11) rfl rfl rfl rfl rfl ?_
    refine zN ?_
    refine RunC.seq ?_
    refine RunC.seq ?_
    obtain ⟨r12, hf7, h2_⟩ := obind_some h2_
    rcases bsel_some h2_ with ⟨hc8, h2_⟩ | ⟨hc8, h2_⟩
    ·refine RunC.regionW ?_
     refine zL (r := optr 3 1 0) rfl rfl rfl (LOp.fao und65 rfl siz26 rfl rfl rfl) ?_
     refine zM (r := i64 r11) rfl rfl rfl rfl rfl ?_
     refine zM (r := i64 v10) rfl rfl rfl rfl rfl ?_
     refine ROps.d (r := f32 r12) (fs := []) (Γ' := [⟨1, some [i64 0, i64 0, nilsl, nilsl]⟩, ⟨1, some (L6.map f32)⟩, ⟨1, some (L8.map i64)⟩, ⟨1, some [i64 r2, i64 r3, oref 1 1 0 r4.length, oref 2 1 0 r5.length]⟩, ⟨0, none⟩, ⟨0, none⟩]) rfl rfl rfl (TOp.callB (CallAs.func ent21 rfl rfl) (Bors.cons (Bor.optrT 3 rfl (Bors.p (Bors.cons (Bor.pure rfl) (Bors.cons (Bor.pure rfl) (Bors.cons (Bor.own (f := f32) (fun _ => rfl) rfl hl7) (Bors.cons (Bor.own (f := i64) (fun _ => rfl) rfl hl9) Bors.nil))))) rfl) (Bors.cons (Bor.pure rfl) (Bors.cons (Bor.pure rfl) Bors.nil))) rfl rfl (s_l02At_ok r2 r3 L6 r11 v10 r12 hf7)) rfl ?_
     refine zL (r := b true) rfl rfl rfl (LOp.eqb (LOp.feq rfl (OpF.tmp rfl) (OpF.const rfl (by kernel_rfl) (by kernel_rfl))) hc8) ?_
     refine zN ?_
     refine RunC.cond_true rfl rfl ?_
     refine zQ ?_
     refine zL (r := agg [i64 0, i64 0, nilsl, nilsl]) rfl rfl rfl (LOp.build (qs := []) zer65 zok65 und65 plc65 rfl trivial rfl) ?_
     refine ROps.store_le (r := agg [i64 0, i64 0, nilsl, nilsl]) (l' := [i64 0, i64 0, nilsl, nilsl]) (Γ' := [⟨1, some [i64 0, i64 0, nilsl, nilsl]⟩, ⟨1, some (L6.map f32)⟩, ⟨1, some (L8.map i64)⟩, ⟨1, some [i64 r2, i64 r3, oref 1 1 0 r4.length, oref 2 1 0 r5.length]⟩, ⟨0, none⟩, ⟨0, none⟩]) rfl siz65 rfl rfl rfl aR rfl rfl rfl rfl (Nat.le_of_ble_eq_true rfl) rfl rfl ?_
     refine zA (r := b false) rfl rfl rfl rfl rfl ?_
     refine zN ?_
     refine RunC.nil_cell (l' := [i64 0, i64 0, oref 4 1 0 0, nilsl]) (Γ' := [⟨1, some [i64 0, i64 0, oref 4 1 0 0, nilsl]⟩, ⟨1, some (L6.map f32)⟩, ⟨1, some (L8.map i64)⟩, ⟨1, some [i64 r2, i64 r3, oref 1 1 0 r4.length, oref 2 1 0 r5.length]⟩, ⟨1, some (([] : List F).map f32)⟩, ⟨0, none⟩]) 0 2 4 rfl rfl rfl rfl rfl ?_
     refine RunC.nil_cell (l' := [i64 0, i64 0, oref 4 1 0 0, oref 5 1 0 0]) (Γ' := [⟨1, some [i64 0, i64 0, oref 4 1 0 0, oref 5 1 0 0]⟩, ⟨1, some (L6.map f32)⟩, ⟨1, some (L8.map i64)⟩, ⟨1, some [i64 r2, i64 r3, oref 1 1 0 r4.length, oref 2 1 0 r5.length]⟩, ⟨1, some (([] : List F).map f32)⟩, ⟨1, some (([] : List Int).map i64)⟩]) 0 3 5 rfl rfl rfl rfl rfl ?_
     refine RunC.ret ?_
     cases Option.some.inj h2_
     have hx3_ := hr2 _ rfl
     subst hx3_
     have hq := Option.some.inj h
     obtain ⟨hq0, hq⟩ := Prod.mk.inj hq
     obtain ⟨hq1, hq⟩ := Prod.mk.inj hq
     obtain ⟨hq2, hq⟩ := Prod.mk.inj hq
     obtain ⟨hq3, hq⟩ := Prod.mk.inj hq
     subst q0
     subst q1
     subst q2
     subst q3
     subst q4
     exact bodyQ.mk (r' := tup [agg [i64 0, i64 0, oref 4 1 0 (([] : List F).length), oref 5 1 0 (([] : List Int).length)], b false]) [(4, 1), (5, 1)] (.inr rfl) rfl (show List.Nodup [4, 5] from by decide) rfl rfl (Res.eq (Res.two rfl (RV.cell agg65 siz65 rfl rfl rfl rfl) (RV.tmp rfl)) (by rw [(show ([] : List F).length = 0 from rfl), (show ([] : List Int).length = 0 from rfl)] <;> rfl)) (SelL.arr0 (f := f32) (fun _ => rfl) rfl (SelL.arr0 (f := i64) (fun _ => rfl) rfl trivial))
    ·refine RunC.regionW ?_
     refine zL (r := optr 3 1 0) rfl rfl rfl (LOp.fao und65 rfl siz26 rfl rfl rfl) ?_
     refine zM (r := i64 r11) rfl rfl rfl rfl rfl ?_
     refine zM (r := i64 v10) rfl rfl rfl rfl rfl ?_
     refine ROps.d (r := f32 r12) (fs := []) (Γ' := [⟨1, some [i64 0, i64 0, nilsl, nilsl]⟩, ⟨1, some (L6.map f32)⟩, ⟨1, some (L8.map i64)⟩, ⟨1, some [i64 r2, i64 r3, oref 1 1 0 r4.length, oref 2 1 0 r5.length]⟩, ⟨0, none⟩, ⟨0, none⟩]) rfl rfl rfl (TOp.callB (CallAs.func ent21 rfl rfl) (Bors.cons (Bor.optrT 3 rfl (Bors.p (Bors.cons (Bor.pure rfl) (Bors.cons (Bor.pure rfl) (Bors.cons (Bor.own (f := f32) (fun _ => rfl) rfl hl7) (Bors.cons (Bor.own (f := i64) (fun _ => rfl) rfl hl9) Bors.nil))))) rfl) (Bors.cons (Bor.pure rfl) (Bors.cons (Bor.pure rfl) Bors.nil))) rfl rfl (s_l02At_ok r2 r3 L6 r11 v10 r12 hf7)) rfl ?_
     refine zL (r := b false) rfl rfl rfl (LOp.eqb (LOp.feq rfl (OpF.tmp rfl) (OpF.const rfl (by kernel_rfl) (by kernel_rfl))) hc8) ?_
     refine zN ?_
     refine RunC.cond_false rfl rfl ?_
     refine RunC.skip ?_
     refine RunC.seq ?_
     obtain ⟨r13, r14, hf9, h2_⟩ := obind2_some h2_
     obtain ⟨hn10, h2_⟩ := need_some h2_
     obtain ⟨hn11, h2_⟩ := need_some h2_
     refine RunC.regionW ?_
     refine zL (r := optr 3 1 0) rfl rfl rfl (LOp.fao und65 rfl siz26 rfl rfl rfl) ?_
     refine zM (r := i64 v10) rfl rfl rfl rfl rfl ?_
     refine zM (r := i64 r11) rfl rfl rfl rfl rfl ?_
     refine ROps.callO (A := [optr 3 1 0, i64 v10, i64 r11]) (args := [optr 0 0 0, i64 v10, i64 r11]) (Γc := [⟨0, some [i64 r2, i64 r3, oref 1 0 0 L6.length, oref 2 0 0 L8.length]⟩, ⟨0, some (L6.map f32)⟩, ⟨0, some (L8.map i64)⟩]) (Γc' := [⟨0, some [i64 r2, i64 r3, oref 1 0 0 L6.length, oref 2 0 0 L8.length]⟩, ⟨0, some (r13.map f32)⟩, ⟨0, some (r14.map i64)⟩]) (r' := tup []) (Γ' := [⟨1, some [i64 0, i64 0, nilsl, nilsl]⟩, ⟨1, some (r13.map f32)⟩, ⟨1, some (r14.map i64)⟩, ⟨1, some [i64 r2, i64 r3, oref 1 1 0 r4.length, oref 2 1 0 r5.length]⟩, ⟨0, none⟩, ⟨0, none⟩]) [(3, 1), (1, 1), (2, 1)] [] rfl (CallAs.func ent75 rfl rfl) rfl rfl (SelOk.of (show List.Nodup [3, 1, 2] from by decide) (SelL.cells0 rfl (by simp [ren, rens, sigma, rens_f32, rens_f64, rens_i64, rens_ik, rens_str, rens_cp, hl7, hl9]) rfl (SelL.arr0 (f := f32) (fun _ => rfl) rfl (SelL.arr0 (f := i64) (fun _ => rfl) rfl trivial)))) (live_of ⟨⟨_, _, rfl⟩, ⟨_, _, rfl⟩, ⟨_, _, rfl⟩, trivial⟩) (by simp [ren, rens, sigma, rens_f32, rens_f64, rens_i64, rens_ik, rens_str, rens_cp, hl7, hl9]) rfl (s_l03Swap_0p0_C02o1_3o2_ok v10 r11 r2 r3 L6 L8 r13 r14 hf9) rfl (news_of trivial) (show List.Nodup [3, 1, 2] from by decide) (by simp [ren, rens, sigma, of_decide_eq_true hn10, of_decide_eq_true hn11]) (by simp [backOb, sigma, ren, rens, rens_f32, rens_f64, rens_i64, rens_ik, rens_str, rens_cp, hl7, hl9, of_decide_eq_true hn10, of_decide_eq_true hn11]) ?_
     refine zN ?_
     refine RunC.wl (τ' := [(1, ptr [i64 a0, i64 a1, sl a2.length (a2.map f32)]), (2, optr 0 1 0), (4, optr 3 1 0), (5, i64 v10), (6, i64 r11)]) (Γ' := [⟨1, some [i64 0, i64 0, nilsl, nilsl]⟩, ⟨1, some (r13.map f32)⟩, ⟨1, some (r14.map i64)⟩, ⟨1, some [i64 r2, i64 r3, oref 1 1 0 r4.length, oref 2 1 0 r5.length]⟩, ⟨0, none⟩, ⟨0, none⟩]) ⟨aR, aR, aR, aR, aR, trivial⟩ ⟨⟨rfl, .inr rfl⟩, ⟨rfl, .inr rfl⟩, ⟨rfl, .inr rfl⟩, ⟨rfl, .inr rfl⟩, ⟨rfl, .inr rfl⟩, ⟨rfl, .inr rfl⟩, trivial⟩ ?_
     refine RunC.seq ?_
     obtain ⟨r15, hf12, h2_⟩ := obind_some h2_
     obtain ⟨hn13, h2_⟩ := need_some h2_
     refine RunC.regionW ?_
     refine zL (r := optr 3 1 3) rfl rfl rfl (LOp.fao und65 rfl siz53 rfl rfl rfl) ?_
     refine ROps.d (r := oref 2 1 0 r5.length) (fs := []) (Γ' := [⟨1, some [i64 0, i64 0, nilsl, nilsl]⟩, ⟨1, some (r13.map f32)⟩, ⟨1, some (r14.map i64)⟩, ⟨1, some [i64 r2, i64 r3, oref 1 1 0 r4.length, oref 2 1 0 r5.length]⟩, ⟨0, none⟩, ⟨0, none⟩]) rfl rfl rfl (TOp.load1_o rfl rfl agg53 rfl rfl) rfl ?_
     refine zM (r := i64 v10) rfl rfl rfl rfl rfl ?_
     refine zM (r := i64 r11) rfl rfl rfl rfl rfl ?_
     refine ROps.callO (A := [oref 2 1 0 r5.length, i64 v10, i64 r11]) (args := [oref 0 0 0 r14.length, i64 v10, i64 r11]) (Γc := [⟨0, some (r14.map i64)⟩]) (Γc' := [⟨0, some (r15.map i64)⟩]) (r' := tup []) (Γ' := [⟨1, some [i64 0, i64 0, nilsl, nilsl]⟩, ⟨1, some (r13.map f32)⟩, ⟨1, some (r15.map i64)⟩, ⟨1, some [i64 r2, i64 r3, oref 1 1 0 r4.length, oref 2 1 0 r5.length]⟩, ⟨0, none⟩, ⟨0, none⟩]) [(2, 1)] [] rfl (CallAs.func ent76 rfl rfl) rfl rfl (SelOk.of (show List.Nodup [2] from by decide) (SelL.arr0 (f := i64) (fun _ => rfl) rfl trivial)) (live_of ⟨⟨_, _, rfl⟩, trivial⟩) (by simp [ren, rens, sigma, rens_f32, rens_f64, rens_i64, rens_ik, rens_str, rens_cp, (of_decide_eq_true hn11)]) rfl (s_l03Trade_0o_ok v10 r11 r14 r15 hf12) rfl (news_of trivial) (show List.Nodup [2] from by decide) (by simp [ren, rens, sigma, of_decide_eq_true hn13]) (by simp [backOb, sigma, ren, rens, rens_f32, rens_f64, rens_i64, rens_ik, rens_str, rens_cp]) ?_
     refine zN ?_
     refine RunC.seq ?_
     obtain ⟨r16, r17, r18, hf14, h2_⟩ := obind3_some h2_
     obtain ⟨hn15, h2_⟩ := need_some h2_
     obtain ⟨hn16, h2_⟩ := need_some h2_
     rcases bsel_some h2_ with ⟨hc17, h2_⟩ | ⟨hc17, h2_⟩
     ·refine RunC.regionW ?_
      refine zL (r := optr 3 1 0) rfl rfl rfl (LOp.fao und65 rfl siz26 rfl rfl rfl) ?_
      refine zM (r := i64 v10) rfl rfl rfl rfl rfl ?_
      refine ROps.callO (A := [optr 3 1 0, i64 v10]) (args := [optr 0 0 0, i64 v10]) (Γc := [⟨0, some [i64 r2, i64 r3, oref 1 0 0 r13.length, oref 2 0 0 r15.length]⟩, ⟨0, some (r13.map f32)⟩, ⟨0, some (r15.map i64)⟩]) (Γc' := [⟨0, some [i64 r2, i64 r3, oref 1 0 0 r13.length, oref 2 0 0 r15.length]⟩, ⟨0, some (r17.map f32)⟩, ⟨0, some (r18.map i64)⟩]) (r' := b r16) (Γ' := [⟨1, some [i64 0, i64 0, nilsl, nilsl]⟩, ⟨1, some (r17.map f32)⟩, ⟨1, some (r18.map i64)⟩, ⟨1, some [i64 r2, i64 r3, oref 1 1 0 r4.length, oref 2 1 0 r5.length]⟩, ⟨0, none⟩, ⟨0, none⟩]) [(3, 1), (1, 1), (2, 1)] [] rfl (CallAs.func ent77 rfl rfl) rfl rfl (SelOk.of (show List.Nodup [3, 1, 2] from by decide) (SelL.cells0 rfl (by simp [ren, rens, sigma, rens_f32, rens_f64, rens_i64, rens_ik, rens_str, rens_cp, (of_decide_eq_true hn10), (of_decide_eq_true hn13)]) rfl (SelL.arr0 (f := f32) (fun _ => rfl) rfl (SelL.arr0 (f := i64) (fun _ => rfl) rfl trivial)))) (live_of ⟨⟨_, _, rfl⟩, ⟨_, _, rfl⟩, ⟨_, _, rfl⟩, trivial⟩) (by simp [ren, rens, sigma, rens_f32, rens_f64, rens_i64, rens_ik, rens_str, rens_cp, (of_decide_eq_true hn10), (of_decide_eq_true hn13)]) rfl (s_l03Clear_0p0_C02o1_3o2_ok v10 r2 r3 r13 r15 r16 r17 r18 hf14) rfl (news_of trivial) (show List.Nodup [3, 1, 2] from by decide) (by simp [ren, rens, sigma, of_decide_eq_true hn15, of_decide_eq_true hn16]) (by simp [backOb, sigma, ren, rens, rens_f32, rens_f64, rens_i64, rens_ik, rens_str, rens_cp, (of_decide_eq_true hn10), (of_decide_eq_true hn13), of_decide_eq_true hn15, of_decide_eq_true hn16]) ?_
      refine zL (r := b true) rfl rfl rfl (LOp.eqb (LOp.not rfl rfl) hc17) ?_
      refine zN ?_
      refine RunC.cond_true rfl rfl ?_
      refine zQ ?_
      refine zL (r := agg [i64 0, i64 0, nilsl, nilsl]) rfl rfl rfl (LOp.build (qs := []) zer65 zok65 und65 plc65 rfl trivial rfl) ?_
      refine ROps.store_le (r := agg [i64 0, i64 0, nilsl, nilsl]) (l' := [i64 0, i64 0, nilsl, nilsl]) (Γ' := [⟨1, some [i64 0, i64 0, nilsl, nilsl]⟩, ⟨1, some (r17.map f32)⟩, ⟨1, some (r18.map i64)⟩, ⟨1, some [i64 r2, i64 r3, oref 1 1 0 r4.length, oref 2 1 0 r5.length]⟩, ⟨0, none⟩, ⟨0, none⟩]) rfl siz65 rfl rfl rfl aR rfl rfl rfl rfl (Nat.le_of_ble_eq_true rfl) rfl rfl ?_
      refine zA (r := b false) rfl rfl rfl rfl rfl ?_
      refine zN ?_
      refine RunC.nil_cell (l' := [i64 0, i64 0, oref 4 1 0 0, nilsl]) (Γ' := [⟨1, some [i64 0, i64 0, oref 4 1 0 0, nilsl]⟩, ⟨1, some (r17.map f32)⟩, ⟨1, some (r18.map i64)⟩, ⟨1, some [i64 r2, i64 r3, oref 1 1 0 r4.length, oref 2 1 0 r5.length]⟩, ⟨1, some (([] : List F).map f32)⟩, ⟨0, none⟩]) 0 2 4 rfl rfl rfl rfl rfl ?_
      refine RunC.nil_cell (l' := [i64 0, i64 0, oref 4 1 0 0, oref 5 1 0 0]) (Γ' := [⟨1, some [i64 0, i64 0, oref 4 1 0 0, oref 5 1 0 0]⟩, ⟨1, some (r17.map f32)⟩, ⟨1, some (r18.map i64)⟩, ⟨1, some [i64 r2, i64 r3, oref 1 1 0 r4.length, oref 2 1 0 r5.length]⟩, ⟨1, some (([] : List F).map f32)⟩, ⟨1, some (([] : List Int).map i64)⟩]) 0 3 5 rfl rfl rfl rfl rfl ?_
      refine RunC.ret ?_
      cases Option.some.inj h2_
      have hx4_ := hr2 _ rfl
      subst hx4_
      have hq := Option.some.inj h
      obtain ⟨hq0, hq⟩ := Prod.mk.inj hq
      obtain ⟨hq1, hq⟩ := Prod.mk.inj hq
      obtain ⟨hq2, hq⟩ := Prod.mk.inj hq
      obtain ⟨hq3, hq⟩ := Prod.mk.inj hq
      subst q0
      subst q1
      subst q2
      subst q3
      subst q4
      exact bodyQ.mk (r' := tup [agg [i64 0, i64 0, oref 4 1 0 (([] : List F).length), oref 5 1 0 (([] : List Int).length)], b false]) [(4, 1), (5, 1)] (.inr rfl) rfl (show List.Nodup [4, 5] from by decide) rfl rfl (Res.eq (Res.two rfl (RV.cell agg65 siz65 rfl rfl rfl rfl) (RV.tmp rfl)) (by rw [(show ([] : List F).length = 0 from rfl), (show ([] : List Int).length = 0 from rfl)] <;> rfl)) (SelL.arr0 (f := f32) (fun _ => rfl) rfl (SelL.arr0 (f := i64) (fun _ => rfl) rfl trivial))
     ·refine RunC.regionW ?_
      refine zL (r := optr 3 1 0) rfl rfl rfl (LOp.fao und65 rfl siz26 rfl rfl rfl) ?_
      refine zM (r := i64 v10) rfl rfl rfl rfl rfl ?_
      refine ROps.callO (A := [optr 3 1 0, i64 v10]) (args := [optr 0 0 0, i64 v10]) (Γc := [⟨0, some [i64 r2, i64 r3, oref 1 0 0 r13.length, oref 2 0 0 r15.length]⟩, ⟨0, some (r13.map f32)⟩, ⟨0, some (r15.map i64)⟩]) (Γc' := [⟨0, some [i64 r2, i64 r3, oref 1 0 0 r13.length, oref 2 0 0 r15.length]⟩, ⟨0, some (r17.map f32)⟩, ⟨0, some (r18.map i64)⟩]) (r' := b r16) (Γ' := [⟨1, some [i64 0, i64 0, nilsl, nilsl]⟩, ⟨1, some (r17.map f32)⟩, ⟨1, some (r18.map i64)⟩, ⟨1, some [i64 r2, i64 r3, oref 1 1 0 r4.length, oref 2 1 0 r5.length]⟩, ⟨0, none⟩, ⟨0, none⟩]) [(3, 1), (1, 1), (2, 1)] [] rfl (CallAs.func ent77 rfl rfl) rfl rfl (SelOk.of (show List.Nodup [3, 1, 2] from by decide) (SelL.cells0 rfl (by simp [ren, rens, sigma, rens_f32, rens_f64, rens_i64, rens_ik, rens_str, rens_cp, (of_decide_eq_true hn10), (of_decide_eq_true hn13)]) rfl (SelL.arr0 (f := f32) (fun _ => rfl) rfl (SelL.arr0 (f := i64) (fun _ => rfl) rfl trivial)))) (live_of ⟨⟨_, _, rfl⟩, ⟨_, _, rfl⟩, ⟨_, _, rfl⟩, trivial⟩) (by simp [ren, rens, sigma, rens_f32, rens_f64, rens_i64, rens_ik, rens_str, rens_cp, (of_decide_eq_true hn10), (of_decide_eq_true hn13)]) rfl (s_l03Clear_0p0_C02o1_3o2_ok v10 r2 r3 r13 r15 r16 r17 r18 hf14) rfl (news_of trivial) (show List.Nodup [3, 1, 2] from by decide) (by simp [ren, rens, sigma, of_decide_eq_true hn15, of_decide_eq_true hn16]) (by simp [backOb, sigma, ren, rens, rens_f32, rens_f64, rens_i64, rens_ik, rens_str, rens_cp, (of_decide_eq_true hn10), (of_decide_eq_true hn13), of_decide_eq_true hn15, of_decide_eq_true hn16]) ?_
      refine zL (r := b false) rfl rfl rfl (LOp.eqb (LOp.not rfl rfl) hc17) ?_
      refine zN ?_
      refine RunC.cond_false rfl rfl ?_
      refine RunC.skip ?_
      obtain ⟨x19, hx18, h2_⟩ := olet_some h2_
      refine RunC.regionW ?_
      refine zM (r := i64 v10) rfl rfl rfl rfl rfl ?_
      refine zL (r := i64 x19) rfl rfl rfl (LOp.eqr (LOp.add rfl rfl rfl) (congrArg (ik .i64) hx18)) ?_
      refine zA (r := i64 x19) rfl rfl rfl rfl rfl ?_
      refine zN ?_
      cases Option.some.inj h2_
      exact ⟨_, rfl, (of_decide_eq_true hn15), (of_decide_eq_true hn16), ⟨aR, aR, aR, aR, trivial⟩, ⟨⟨rfl, .inr rfl⟩, ⟨rfl, .inr rfl⟩, ⟨rfl, .inr rfl⟩, ⟨rfl, .inr rfl⟩, ⟨rfl, .inr rfl⟩, ⟨rfl, .inr rfl⟩, trivial⟩⟩
   ·refine RunC.regionW ?_
    refine zM (r := i64 v10) rfl rfl rfl rfl rfl ?_
    refine zL (r := ptr [i64 a0, i64 a1, sl a2.length (a2.map f32)]) rfl rfl rfl (LOp.fap und26 rfl siz2 rfl rfl rfl) ?_
    refine zL (r := i64 a0) rfl rfl rfl (LOp.load1 agg2 rfl rfl) ?_
    refine zL (r := b false) rfl rfl rfl (LOp.eqb (LOp.lss rfl rfl rfl) hc5) ?_
    refine zN ?_
    refine RunC.cond_false rfl rfl ?_
    refine RunC.exit ?_
    cases Option.some.inj h2_
    have hx := ho2 _ rfl
    exact ⟨L6, L8, hl7, hl9, ⟨aR, aR, trivial⟩, ⟨⟨rfl, .inr rfl⟩, ⟨rfl, .inr rfl⟩, ⟨rfl, .inr rfl⟩, ⟨rfl, .inr rfl⟩, ⟨rfl, .inr rfl⟩, ⟨rfl, .inr rfl⟩, trivial⟩, hx⟩
  ·rintro τ5 Γ5 ⟨L20, L22, hl21, hl23, hw5, hd5, rfl⟩
   refine RunC.wl hw5 hd5 ?_
   replace h : s_FactorRows_k1 r2 r3 L20 L22 = some (q0, q1, q2, q3, q4) := h
   unfold s_FactorRows_k1 at h
   refine zQ ?_
   refine ROps.d (r := agg [i64 r2, i64 r3, oref 1 1 0 r4.length, oref 2 1 0 r5.length]) (fs := []) (Γ' := [⟨1, some [i64 0, i64 0, nilsl, nilsl]⟩, ⟨1, some (L20.map f32)⟩, ⟨1, some (L22.map i64)⟩, ⟨1, some [i64 r2, i64 r3, oref 1 1 0 r4.length, oref 2 1 0 r5.length]⟩, ⟨0, none⟩, ⟨0, none⟩]) rfl rfl rfl (TOp.loadAgg_o rfl agg65 siz65 rfl rfl rfl rfl) rfl ?_
   refine ROps.store_le (r := agg [i64 r2, i64 r3, oref 1 1 0 r4.length, oref 2 1 0 r5.length]) (l' := [i64 r2, i64 r3, oref 1 1 0 r4.length, oref 2 1 0 r5.length]) (Γ' := [⟨1, some [i64 r2, i64 r3, oref 1 1 0 r4.length, oref 2 1 0 r5.length]⟩, ⟨1, some (L20.map f32)⟩, ⟨1, some (L22.map i64)⟩, ⟨1, some [i64 r2, i64 r3, oref 1 1 0 r4.length, oref 2 1 0 r5.length]⟩, ⟨0, none⟩, ⟨0, none⟩]) rfl siz65 rfl rfl rfl aR rfl rfl rfl rfl (Nat.le_of_ble_eq_true rfl) rfl rfl ?_
   refine zA (r := b true) rfl rfl rfl rfl rfl ?_
   refine zN ?_
   refine RunC.ret ?_
   have hq := Option.some.inj h
   obtain ⟨hq0, hq⟩ := Prod.mk.inj hq
   obtain ⟨hq1, hq⟩ := Prod.mk.inj hq
   obtain ⟨hq2, hq⟩ := Prod.mk.inj hq
   obtain ⟨hq3, hq⟩ := Prod.mk.inj hq
   subst q0
   subst q1
   subst q2
   subst q3
   subst q4
   exact bodyQ.mk (r' := tup [agg [i64 r2, i64 r3, oref 1 1 0 L20.length, oref 2 1 0 L22.length], b true]) [(1, 1), (2, 1)] (.inr rfl) rfl (show List.Nodup [1, 2] from by decide) rfl rfl (Res.eq (Res.two rfl (RV.cell agg65 siz65 rfl rfl rfl rfl) (RV.tmp rfl)) (by rw [(show L20.length = r4.length from hl21), (show L22.length = r5.length from hl23)] <;> rfl)) (SelL.arr0 (f := f32) (fun _ => rfl) rfl (SelL.arr0 (f := i64) (fun _ => rfl) rfl trivial))
 ·refine RunC.regionW ?_
  refine ROps.d (r := b false) (fs := []) (Γ' := [⟨1, some [i64 0, i64 0, nilsl, nilsl]⟩, ⟨0, none⟩, ⟨0, none⟩, ⟨0, none⟩, ⟨0, none⟩, ⟨0, none⟩]) rfl rfl rfl (TOp.eqb (TOp.callB (CallAs.func ent72 rfl rfl) (Bors.cons (Bor.ptr (Bors.cons (Bor.pure rfl) (Bors.cons (Bor.pure rfl) (Bors.cons (Bor.sl (fun _ => rfl)) Bors.nil)))) Bors.nil) rfl rfl (s_l02Square_ok a0 a1 a2 r1 hf1)) hc2) rfl ?_
  refine zL (r := b true) rfl rfl rfl (LOp.eqb (LOp.not rfl rfl) rfl) ?_
  refine zN ?_
  refine RunC.cond_true rfl rfl ?_
  refine zQ ?_
  refine zL (r := agg [i64 0, i64 0, nilsl, nilsl]) rfl rfl rfl (LOp.build (qs := []) zer65 zok65 und65 plc65 rfl trivial rfl) ?_
  refine ROps.store_le (r := agg [i64 0, i64 0, nilsl, nilsl]) (l' := [i64 0, i64 0, nilsl, nilsl]) (Γ' := [⟨1, some [i64 0, i64 0, nilsl, nilsl]⟩, ⟨0, none⟩, ⟨0, none⟩, ⟨0, none⟩, ⟨0, none⟩, ⟨0, none⟩]) rfl siz65 rfl rfl rfl aR rfl rfl rfl rfl (Nat.le_of_ble_eq_true rfl) rfl rfl ?_
  refine zA (r := b false) rfl rfl rfl rfl rfl ?_
  refine zN ?_
  refine RunC.nil_cell (l' := [i64 0, i64 0, oref 1 1 0 0, nilsl]) (Γ' := [⟨1, some [i64 0, i64 0, oref 1 1 0 0, nilsl]⟩, ⟨1, some (([] : List F).map f32)⟩, ⟨0, none⟩, ⟨0, none⟩, ⟨0, none⟩, ⟨0, none⟩]) 0 2 1 rfl rfl rfl rfl rfl ?_
  refine RunC.nil_cell (l' := [i64 0, i64 0, oref 1 1 0 0, oref 2 1 0 0]) (Γ' := [⟨1, some [i64 0, i64 0, oref 1 1 0 0, oref 2 1 0 0]⟩, ⟨1, some (([] : List F).map f32)⟩, ⟨1, some (([] : List Int).map i64)⟩, ⟨0, none⟩, ⟨0, none⟩, ⟨0, none⟩]) 0 3 2 rfl rfl rfl rfl rfl ?_
  refine RunC.ret ?_
  have hq := Option.some.inj h
  obtain ⟨hq0, hq⟩ := Prod.mk.inj hq
  obtain ⟨hq1, hq⟩ := Prod.mk.inj hq
  obtain ⟨hq2, hq⟩ := Prod.mk.inj hq
  obtain ⟨hq3, hq⟩ := Prod.mk.inj hq
  subst q0
  subst q1
  subst q2
  subst q3
  subst q4
  exact bodyQ.mk (r' := tup [agg [i64 0, i64 0, oref 1 1 0 (([] : List F).length), oref 2 1 0 (([] : List Int).length)], b false]) [(1, 1), (2, 1)] (.inr rfl) rfl (show List.Nodup [1, 2] from by decide) rfl rfl (Res.eq (Res.two rfl (RV.cell agg65 siz65 rfl rfl rfl rfl) (RV.tmp rfl)) (by rw [(show ([] : List F).length = 0 from rfl), (show ([] : List Int).length = 0 from rfl)] <;> rfl)) (SelL.arr0 (f := f32) (fun _ => rfl) rfl (SelL.arr0 (f := i64) (fun _ => rfl) rfl trivial))
noncomputable def s_l02Order_b1 (a0 : List Int) (L1 : List Bool) (v3 : Int) : Option (LR ((List Bool) × Int) (Unit) (Bool)) :=
 bsel (decide (v3 < (a0.length : Int))) (
  obind (at? a0 v3) fun (e4 : Int) =>
  olet (IntKind.i64.wrap ((a0.length : Int) - 1)) fun (x5 : Int) =>
  obind (s_l00In e4 0 x5) fun (r6 : Bool) =>
  bsel r6 (
   obind (at? a0 v3) fun (e7 : Int) =>
   obind (at? L1 e7) fun (e8 : Bool) =>
   bsel e8 (
    some (LR.ret false)) (
    obind (at? a0 v3) fun (e9 : Int) =>
    obind (setAt? L1 e9 true) fun (L10 : List Bool) =>
    olet (IntKind.i64.wrap (v3 + 1)) fun (x11 : Int) =>
    some (LR.next (L10, x11)))) (
   some (LR.ret false))) (
  some (LR.out ()))
noncomputable def s_l02Order_s1 (a0 : List Int) : ((List Bool) × Int) → Option (LR ((List Bool) × Int) (Unit) (Bool)) := fun s => s_l02Order_b1 a0 s.1 s.2
noncomputable def s_l02Order_k1  : Option (Bool) :=
 some true
noncomputable def s_l02Order (a0 : List Int) : Option (Bool) :=
 bsel (decide ((a0.length : Int) < 1)) (
  some false) (
  bsel (decide (12 < (a0.length : Int))) (
   some false) (
   need (mkok 1 (a0.length : Int)) <|
   obind (loopM (s_l02Order_s1 a0) ((List.replicate (a0.length : Int).toNat false), 0)) fun z => osum z (fun _ => s_l02Order_k1) (fun r => some r)))
theorem s_l02Order_ok (a0 : List Int) (q0 : Bool) (h : s_l02Order a0 = some q0) : Ev Tryz.prog 117 [sl a0.length (a0.map i64)] [] (b q0) [] := by
 refine Ev.start Tryz.func117 rfl rfl 1 (τ := [(0, sl a0.length (a0.map i64))]) rfl (Γ' := [⟨0, none⟩]) rfl (n := 93) rfl (g := 0) rfl (fun _ => rfl) ?_
 unfold s_l02Order at h
 refine zQ ?_
 refine zA (r := b false) rfl rfl rfl rfl rfl ?_
 refine zN ?_
 refine RunC.seq ?_
 refine RunC.seq ?_
 rcases bsel_some h with ⟨hc1, h⟩ | ⟨hc1, h⟩
 ·refine RunC.regionW ?_
  refine zM (r := sl a0.length (a0.map i64)) rfl rfl rfl rfl rfl ?_
  refine zL (r := i64 (a0.length : Int)) rfl rfl rfl (LOp.len_sl und53 rfl rfl) ?_
  refine zL (r := b true) rfl rfl rfl (LOp.eqb (LOp.lss rfl rfl rfl) hc1) ?_
  refine zM (r := b true) rfl rfl rfl rfl rfl ?_
  refine ROps.s rfl rfl rfl ?_
  refine ROps.s rfl rfl rfl ?_
  refine ROps.s rfl rfl rfl ?_
  refine zL (r := b true) rfl rfl rfl (LOp.pick_true rfl rfl rfl) ?_
  refine zN ?_
  refine RunC.cond_true rfl rfl ?_
  refine zQ ?_
  refine zA (r := b false) rfl rfl rfl rfl rfl ?_
  refine zN ?_
  refine RunC.ret ?_
  have hq := Option.some.inj h
  subst q0
  exact bodyQ.pure (.inr rfl) rfl (Res.one rfl (RV.tmp rfl))
 ·rcases bsel_some h with ⟨hc2, h⟩ | ⟨hc2, h⟩
  ·refine RunC.regionW ?_
   refine zM (r := sl a0.length (a0.map i64)) rfl rfl rfl rfl rfl ?_
   refine zL (r := i64 (a0.length : Int)) rfl rfl rfl (LOp.len_sl und53 rfl rfl) ?_
   refine zL (r := b false) rfl rfl rfl (LOp.eqb (LOp.lss rfl rfl rfl) hc1) ?_
   refine zM (r := b false) rfl rfl rfl rfl rfl ?_
   refine zM (r := sl a0.length (a0.map i64)) rfl rfl rfl rfl rfl ?_
   refine zL (r := i64 (a0.length : Int)) rfl rfl rfl (LOp.len_sl und53 rfl rfl) ?_
   refine zL (r := b true) rfl rfl rfl (LOp.eqb (LOp.gtr rfl rfl rfl) hc2) ?_
   refine zL (r := b true) rfl rfl rfl (LOp.pick_false rfl rfl rfl) ?_
   refine zN ?_
   refine RunC.cond_true rfl rfl ?_
   refine zQ ?_
   refine zA (r := b false) rfl rfl rfl rfl rfl ?_
   refine zN ?_
   refine RunC.ret ?_
   have hq := Option.some.inj h
   subst q0
   exact bodyQ.pure (.inr rfl) rfl (Res.one rfl (RV.tmp rfl))
  ·refine RunC.regionW ?_
   refine zM (r := sl a0.length (a0.map i64)) rfl rfl rfl rfl rfl ?_
   refine zL (r := i64 (a0.length : Int)) rfl rfl rfl (LOp.len_sl und53 rfl rfl) ?_
   refine zL (r := b false) rfl rfl rfl (LOp.eqb (LOp.lss rfl rfl rfl) hc1) ?_
   refine zM (r := b false) rfl rfl rfl rfl rfl ?_
   refine zM (r := sl a0.length (a0.map i64)) rfl rfl rfl rfl rfl ?_
   refine zL (r := i64 (a0.length : Int)) rfl rfl rfl (LOp.len_sl und53 rfl rfl) ?_
   refine zL (r := b false) rfl rfl rfl (LOp.eqb (LOp.gtr rfl rfl rfl) hc2) ?_
   refine zL (r := b false) rfl rfl rfl (LOp.pick_false rfl rfl rfl) ?_
   refine zN ?_
   refine RunC.cond_false rfl rfl ?_
   refine RunC.skip ?_
   refine RunC.seq ?_
   obtain ⟨hm3, h⟩ := need_some h
   refine RunC.regionW ?_
   refine zM (r := sl a0.length (a0.map i64)) rfl rfl rfl rfl rfl ?_
   refine zL (r := i64 (a0.length : Int)) rfl rfl rfl (LOp.len_sl und53 rfl rfl) ?_
   refine ROps.d (r := oref 0 1 0 ((a0.length : Int).toNat)) (fs := [(0, ((List.replicate (a0.length : Int).toNat false).map b))]) (Γ' := [⟨1, some ((List.replicate (a0.length : Int).toNat false).map b)⟩]) rfl rfl rfl (TOp.mkS (g := ⟨0, none⟩) (t := 46) (e := 4) (by_ := 1) (f := b) (zv := false) 0 rfl und46 tin4 rfl siz4 zer4 rfl zel4 rfl rfl rfl hm3) rfl ?_
   refine zA (r := oref 0 1 0 ((a0.length : Int).toNat)) rfl rfl rfl rfl rfl ?_
   refine zN ?_
   refine RunC.seq ?_
   refine zQ ?_
   refine zA (r := i64 0) rfl rfl rfl rfl rfl ?_
   refine zN ?_
   obtain ⟨z2, hz_2, h⟩ := obind_some h
   refine RunC.cutN (fun τ Γ => WeakLe τ [] ∧ DeadLe Γ [⟨1, none⟩] ∧ z2 = .inl ()) ?_ ?_
   ·refine RunC.block (RunC.loop (RunL.loopM (x := z2) (s_l02Order_s1 a0) (fun (s : (List Bool) × Int) τ Γ => s.1.length = (a0.length : Int).toNat ∧ WeakLe τ [(0, sl a0.length (a0.map i64)), (3, oref 0 1 0 ((a0.length : Int).toNat)), (4, i64 s.2)] ∧ DeadLe Γ [⟨1, some (s.1.map b)⟩]) ?_ _ _ _ hz_2 ⟨List.length_replicate, ⟨aR, aR, aR, trivial⟩, ⟨⟨rfl, .inr rfl⟩, trivial⟩⟩))
    rintro ⟨L1, v3⟩ τ2 Γ2 y2_ ⟨hl2, hw2, hd2⟩ h2_ ho2 hr2
    refine RunC.wl (τ' := [(0, sl a0.length (a0.map i64)), (3, oref 0 1 0 ((a0.length : Int).toNat)), (4, i64 v3)]) (Γ' := [⟨1, some (L1.map b)⟩]) hw2 hd2 ?_
    replace hl2 : L1.length = (a0.length : Int).toNat := hl2
    replace h2_ : s_l02Order_b1 a0 L1 v3 = some y2_ := h2_
    unfold s_l02Order_b1 at h2_
    refine RunC.seq ?_
    refine RunC.seq ?_
    rcases bsel_some h2_ with ⟨hc4, h2_⟩ | ⟨hc4, h2_⟩
    ·refine RunC.regionW ?_
     refine zM (r := i64 v3) rfl rfl rfl rfl rfl ?_
     refine zM (r := sl a0.length (a0.map i64)) rfl rfl rfl rfl rfl ?_
     refine zL (r := i64 (a0.length : Int)) rfl rfl rfl (LOp.len_sl und53 rfl rfl) ?_
     refine zL (r := b true) rfl rfl rfl (LOp.eqb (LOp.lss rfl rfl rfl) hc4) ?_
     refine zN ?_
     refine RunC.cond_true rfl rfl ?_
     refine RunC.skip ?_
     refine RunC.seq ?_
     refine RunC.block ?_
     refine RunC.seq ?_
     refine RunC.seq ?_
     obtain ⟨e4, he5, h2_⟩ := obind_some h2_
     obtain ⟨x5, hx6, h2_⟩ := olet_some h2_
     obtain ⟨r6, hf7, h2_⟩ := obind_some h2_
     rcases bsel_some h2_ with ⟨hc8, h2_⟩ | ⟨hc8, h2_⟩
     ·obtain ⟨e7, he9, h2_⟩ := obind_some h2_
      obtain ⟨e8, he10, h2_⟩ := obind_some h2_
      rcases bsel_some h2_ with ⟨hc11, h2_⟩ | ⟨hc11, h2_⟩
      ·refine RunC.regionW ?_
       refine zM (r := sl a0.length (a0.map i64)) rfl rfl rfl rfl rfl ?_
       refine zM (r := i64 v3) rfl rfl rfl rfl rfl ?_
       refine zL (r := ptr [i64 e4]) rfl rfl rfl (LOp.le (LOp.ix (f := i64) und53 siz2 rfl rfl rfl rfl he5) ALe.ptr) ?_
       refine zL (r := i64 e4) rfl rfl rfl (LOp.load1 agg2 rfl rfl) ?_
       refine zM (r := sl a0.length (a0.map i64)) rfl rfl rfl rfl rfl ?_
       refine zL (r := i64 (a0.length : Int)) rfl rfl rfl (LOp.len_sl und53 rfl rfl) ?_
       refine zL (r := i64 x5) rfl rfl rfl (LOp.eqr (LOp.sub rfl rfl rfl) (congrArg (ik .i64) hx6)) ?_
       refine ROps.d (r := b true) (fs := []) (Γ' := [⟨1, some (L1.map b)⟩]) rfl rfl rfl (TOp.eqb (TOp.callB (CallAs.func ent17 rfl rfl) (Bors.cons (Bor.pure rfl) (Bors.cons (Bor.pure rfl) (Bors.cons (Bor.pure rfl) Bors.nil))) rfl rfl (s_l00In_ok e4 0 x5 r6 hf7)) hc8) rfl ?_
       refine zL (r := b false) rfl rfl rfl (LOp.eqb (LOp.not rfl rfl) rfl) ?_
       refine zM (r := b false) rfl rfl rfl rfl rfl ?_
       refine zM (r := oref 0 1 0 ((a0.length : Int).toNat)) rfl rfl rfl rfl rfl ?_
       refine zM (r := sl a0.length (a0.map i64)) rfl rfl rfl rfl rfl ?_
       refine zM (r := i64 v3) rfl rfl rfl rfl rfl ?_
       refine zL (r := ptr [i64 e7]) rfl rfl rfl (LOp.le (LOp.ix (f := i64) und53 siz2 rfl rfl rfl rfl he9) ALe.ptr) ?_
       refine zL (r := i64 e7) rfl rfl rfl (LOp.load1 agg2 rfl rfl) ?_
       refine ROps.d (r := optr 0 1 e7.toNat) (fs := []) (Γ' := [⟨1, some (L1.map b)⟩]) rfl rfl rfl (TOp.ixo und46 siz4 rfl rfl rfl (at_in he10 hl2) rfl) rfl ?_
       refine ROps.d (r := b true) (fs := []) (Γ' := [⟨1, some (L1.map b)⟩]) rfl rfl rfl (TOp.eqb (TOp.load1_o rfl (at_cell he10) agg4 rfl rfl) hc11) rfl ?_
       refine zL (r := b true) rfl rfl rfl (LOp.pick_false rfl rfl rfl) ?_
       refine zN ?_
       refine RunC.wl (τ' := [(0, sl a0.length (a0.map i64)), (3, oref 0 1 0 ((a0.length : Int).toNat)), (4, i64 v3), (32, oref 0 1 0 ((a0.length : Int).toNat)), (33, sl a0.length (a0.map i64)), (34, i64 v3), (35, ptr [i64 e7]), (36, i64 e7), (37, optr 0 1 e7.toNat), (38, b true), (39, b true)]) (Γ' := [⟨1, some (L1.map b)⟩]) ⟨aR, aR, aR, aR, aR, aR, aR, aR, aR, aR, aR, trivial⟩ ⟨⟨rfl, .inr rfl⟩, trivial⟩ ?_
       refine RunC.cond_true rfl rfl ?_
       refine zQ ?_
       refine zA (r := b false) rfl rfl rfl rfl rfl ?_
       refine zN ?_
       refine RunC.ret ?_
       cases Option.some.inj h2_
       have hx3_ := hr2 _ rfl
       subst hx3_
       have hq := Option.some.inj h
       subst q0
       exact bodyQ.pure (.inr rfl) rfl (Res.one rfl (RV.tmp rfl))
      ·refine RunC.regionW ?_
       refine zM (r := sl a0.length (a0.map i64)) rfl rfl rfl rfl rfl ?_
       refine zM (r := i64 v3) rfl rfl rfl rfl rfl ?_
       refine zL (r := ptr [i64 e4]) rfl rfl rfl (LOp.le (LOp.ix (f := i64) und53 siz2 rfl rfl rfl rfl he5) ALe.ptr) ?_
       refine zL (r := i64 e4) rfl rfl rfl (LOp.load1 agg2 rfl rfl) ?_
       refine zM (r := sl a0.length (a0.map i64)) rfl rfl rfl rfl rfl ?_
       refine zL (r := i64 (a0.length : Int)) rfl rfl rfl (LOp.len_sl und53 rfl rfl) ?_
       refine zL (r := i64 x5) rfl rfl rfl (LOp.eqr (LOp.sub rfl rfl rfl) (congrArg (ik .i64) hx6)) ?_
       refine ROps.d (r := b true) (fs := []) (Γ' := [⟨1, some (L1.map b)⟩]) rfl rfl rfl (TOp.eqb (TOp.callB (CallAs.func ent17 rfl rfl) (Bors.cons (Bor.pure rfl) (Bors.cons (Bor.pure rfl) (Bors.cons (Bor.pure rfl) Bors.nil))) rfl rfl (s_l00In_ok e4 0 x5 r6 hf7)) hc8) rfl ?_
       refine zL (r := b false) rfl rfl rfl (LOp.eqb (LOp.not rfl rfl) rfl) ?_
       refine zM (r := b false) rfl rfl rfl rfl rfl ?_
       refine zM (r := oref 0 1 0 ((a0.length : Int).toNat)) rfl rfl rfl rfl rfl ?_
       refine zM (r := sl a0.length (a0.map i64)) rfl rfl rfl rfl rfl ?_
       refine zM (r := i64 v3) rfl rfl rfl rfl rfl ?_
       refine zL (r := ptr [i64 e7]) rfl rfl rfl (LOp.le (LOp.ix (f := i64) und53 siz2 rfl rfl rfl rfl he9) ALe.ptr) ?_
       refine zL (r := i64 e7) rfl rfl rfl (LOp.load1 agg2 rfl rfl) ?_
       refine ROps.d (r := optr 0 1 e7.toNat) (fs := []) (Γ' := [⟨1, some (L1.map b)⟩]) rfl rfl rfl (TOp.ixo und46 siz4 rfl rfl rfl (at_in he10 hl2) rfl) rfl ?_
       refine ROps.d (r := b false) (fs := []) (Γ' := [⟨1, some (L1.map b)⟩]) rfl rfl rfl (TOp.eqb (TOp.load1_o rfl (at_cell he10) agg4 rfl rfl) hc11) rfl ?_
       refine zL (r := b false) rfl rfl rfl (LOp.pick_false rfl rfl rfl) ?_
       refine zN ?_
       refine RunC.wl (τ' := [(0, sl a0.length (a0.map i64)), (3, oref 0 1 0 ((a0.length : Int).toNat)), (4, i64 v3), (32, oref 0 1 0 ((a0.length : Int).toNat)), (33, sl a0.length (a0.map i64)), (34, i64 v3), (35, ptr [i64 e7]), (36, i64 e7), (37, optr 0 1 e7.toNat), (38, b false), (39, b false)]) (Γ' := [⟨1, some (L1.map b)⟩]) ⟨aR, aR, aR, aR, aR, aR, aR, aR, aR, aR, aR, trivial⟩ ⟨⟨rfl, .inr rfl⟩, trivial⟩ ?_
       refine RunC.cond_false rfl rfl ?_
       refine RunC.skip ?_
       obtain ⟨e9, he12, h2_⟩ := obind_some h2_
       obtain ⟨L10, he13, h2_⟩ := obind_some h2_
       refine RunC.regionW ?_
       refine zM (r := oref 0 1 0 ((a0.length : Int).toNat)) rfl rfl rfl rfl rfl ?_
       refine zM (r := sl a0.length (a0.map i64)) rfl rfl rfl rfl rfl ?_
       refine zM (r := i64 v3) rfl rfl rfl rfl rfl ?_
       refine zL (r := ptr [i64 e9]) rfl rfl rfl (LOp.le (LOp.ix (f := i64) und53 siz2 rfl rfl rfl rfl he12) ALe.ptr) ?_
       refine zL (r := i64 e9) rfl rfl rfl (LOp.load1 agg2 rfl rfl) ?_
       refine ROps.d (r := optr 0 1 e9.toNat) (fs := []) (Γ' := [⟨1, some (L1.map b)⟩]) rfl rfl rfl (TOp.ixo und46 siz4 rfl rfl rfl (set_in he13 hl2) rfl) rfl ?_
       refine ROps.st (f := b) (i := e9) (Γ' := [⟨1, some (L10.map b)⟩]) rfl siz4 rfl rfl rfl aR rfl rfl rfl he13 rfl ?_
       refine zN ?_
       obtain ⟨x11, hx14, h2_⟩ := olet_some h2_
       refine RunC.regionW ?_
       refine zM (r := i64 v3) rfl rfl rfl rfl rfl ?_
       refine zL (r := i64 x11) rfl rfl rfl (LOp.eqr (LOp.add rfl rfl rfl) (congrArg (ik .i64) hx14)) ?_
       refine zA (r := i64 x11) rfl rfl rfl rfl rfl ?_
       refine zN ?_
       cases Option.some.inj h2_
       exact ⟨_, rfl, ((setAt?_len he13).trans hl2), ⟨aR, aR, aR, trivial⟩, ⟨⟨rfl, .inr rfl⟩, trivial⟩⟩
     ·refine RunC.regionW ?_
      refine zM (r := sl a0.length (a0.map i64)) rfl rfl rfl rfl rfl ?_
      refine zM (r := i64 v3) rfl rfl rfl rfl rfl ?_
      refine zL (r := ptr [i64 e4]) rfl rfl rfl (LOp.le (LOp.ix (f := i64) und53 siz2 rfl rfl rfl rfl he5) ALe.ptr) ?_
      refine zL (r := i64 e4) rfl rfl rfl (LOp.load1 agg2 rfl rfl) ?_
      refine zM (r := sl a0.length (a0.map i64)) rfl rfl rfl rfl rfl ?_
      refine zL (r := i64 (a0.length : Int)) rfl rfl rfl (LOp.len_sl und53 rfl rfl) ?_
      refine zL (r := i64 x5) rfl rfl rfl (LOp.eqr (LOp.sub rfl rfl rfl) (congrArg (ik .i64) hx6)) ?_
      refine ROps.d (r := b false) (fs := []) (Γ' := [⟨1, some (L1.map b)⟩]) rfl rfl rfl (TOp.eqb (TOp.callB (CallAs.func ent17 rfl rfl) (Bors.cons (Bor.pure rfl) (Bors.cons (Bor.pure rfl) (Bors.cons (Bor.pure rfl) Bors.nil))) rfl rfl (s_l00In_ok e4 0 x5 r6 hf7)) hc8) rfl ?_
      refine zL (r := b true) rfl rfl rfl (LOp.eqb (LOp.not rfl rfl) rfl) ?_
      refine zM (r := b true) rfl rfl rfl rfl rfl ?_
      refine ROps.s rfl rfl rfl ?_
      refine ROps.s rfl rfl rfl ?_
      refine ROps.s rfl rfl rfl ?_
      refine ROps.s rfl rfl rfl ?_
      refine ROps.s rfl rfl rfl ?_
      refine ROps.s rfl rfl rfl ?_
      refine ROps.s rfl rfl rfl ?_
      refine zL (r := b true) rfl rfl rfl (LOp.pick_true rfl rfl rfl) ?_
      refine zN ?_
      refine RunC.wl (τ' := [(0, sl a0.length (a0.map i64)), (3, oref 0 1 0 ((a0.length : Int).toNat)), (4, i64 v3), (39, b true)]) (Γ' := [⟨1, some (L1.map b)⟩]) ⟨aR, aR, aR, aR, trivial⟩ ⟨⟨rfl, .inr rfl⟩, trivial⟩ ?_
      refine RunC.cond_true rfl rfl ?_
      refine zQ ?_
      refine zA (r := b false) rfl rfl rfl rfl rfl ?_
      refine zN ?_
      refine RunC.ret ?_
      cases Option.some.inj h2_
      have hx4_ := hr2 _ rfl
      subst hx4_
      have hq := Option.some.inj h
      subst q0
      exact bodyQ.pure (.inr rfl) rfl (Res.one rfl (RV.tmp rfl))
    ·refine RunC.regionW ?_
     refine zM (r := i64 v3) rfl rfl rfl rfl rfl ?_
     refine zM (r := sl a0.length (a0.map i64)) rfl rfl rfl rfl rfl ?_
     refine zL (r := i64 (a0.length : Int)) rfl rfl rfl (LOp.len_sl und53 rfl rfl) ?_
     refine zL (r := b false) rfl rfl rfl (LOp.eqb (LOp.lss rfl rfl rfl) hc4) ?_
     refine zN ?_
     refine RunC.cond_false rfl rfl ?_
     refine RunC.exit ?_
     cases Option.some.inj h2_
     have hx := ho2 _ rfl
     exact ⟨trivial, ⟨⟨rfl, .inl rfl⟩, trivial⟩, hx⟩
   ·rintro τ5 Γ5 ⟨hw5, hd5, rfl⟩
    refine RunC.wl hw5 hd5 ?_
    replace h : s_l02Order_k1 = some q0 := h
    unfold s_l02Order_k1 at h
    refine zQ ?_
    refine zA (r := b true) rfl rfl rfl rfl rfl ?_
    refine zN ?_
    refine RunC.ret ?_
    have hq := Option.some.inj h
    subst q0
    exact bodyQ.pure (.inr rfl) rfl (Res.one rfl (RV.tmp rfl))
noncomputable def s_l03Is_b1 (a0 : Int) (a1 : Int) (a2 : List F) (v3 : Int) : Option (LR (Int) (Unit) (Bool)) :=
 bsel (decide (v3 < a0)) (
  obind (s_l02At a0 a1 a2 v3 v3) fun (r4 : F) =>
  bsel (feq .f32 r4 (some 0)) (
   some (LR.ret false)) (
   olet (IntKind.i64.wrap (v3 + 1)) fun (x5 : Int) =>
   some (LR.next x5))) (
  some (LR.out ()))
noncomputable def s_l03Is_s1 (a0 : Int) (a1 : Int) (a2 : List F) : (Int) → Option (LR (Int) (Unit) (Bool)) := fun s => s_l03Is_b1 a0 a1 a2 s
noncomputable def s_l03Is_k1  : Option (Bool) :=
 some true
noncomputable def s_l03Is (a0 : Int) (a1 : Int) (a2 : List F) (a3 : List Int) : Option (Bool) :=
 obind (s_l02Square a0 a1 a2) fun (r1 : Bool) =>
 bsel r1 (
  obind (s_l02Order a3) fun (r2 : Bool) =>
  bsel r2 (
   bsel (!decide ((a3.length : Int) = a0)) (
    some false) (
    obind (loopM (s_l03Is_s1 a0 a1 a2) 0) fun z => osum z (fun _ => s_l03Is_k1) (fun r => some r))) (
   some false)) (
  some false)
theorem s_l03Is_ok (a0 : Int) (a1 : Int) (a2 : List F) (a3 : List Int) (q0 : Bool) (h : s_l03Is a0 a1 a2 a3 = some q0) : Ev Tryz.prog 78 [ptr [i64 a0, i64 a1, sl a2.length (a2.map f32), sl a3.length (a3.map i64)]] [] (b q0) [] := by
 refine Ev.start Tryz.func78 rfl rfl 0 (τ := [(0, ptr [i64 a0, i64 a1, sl a2.length (a2.map f32), sl a3.length (a3.map i64)])]) rfl (Γ' := []) rfl (n := 93) rfl (g := 0) rfl (fun _ => rfl) ?_
 unfold s_l03Is at h
 refine zQ ?_
 refine zA (r := b false) rfl rfl rfl rfl rfl ?_
 refine zN ?_
 refine RunC.seq ?_
 refine RunC.seq ?_
 obtain ⟨r1, hf1, h⟩ := obind_some h
 rcases bsel_some h with ⟨hc2, h⟩ | ⟨hc2, h⟩
 ·obtain ⟨r2, hf3, h⟩ := obind_some h
  rcases bsel_some h with ⟨hc4, h⟩ | ⟨hc4, h⟩
  ·rcases bsel_some h with ⟨hc5, h⟩ | ⟨hc5, h⟩
   ·refine RunC.region_draw (Γ' := []) 26 mixed 
     (TR.l (r := ptr [i64 a0, i64 a1, sl a2.length (a2.map f32), sl a3.length (a3.map i64)]) rfl rfl (LOp.move rfl rfl) <|
     (TR.l (r := ptr [i64 a0, i64 a1, sl a2.length (a2.map f32), sl a3.length (a3.map i64)]) rfl rfl (LOp.nilCheck_ptr rfl rfl) <|
     (TR.l (r := ptr [i64 a0, i64 a1, sl a2.length (a2.map f32), sl a3.length (a3.map i64)]) rfl rfl (LOp.fap und65 rfl siz26 rfl rfl rfl) <|
     (TR.d (r := b true) (fs := []) rfl rfl (TOp.eqb (TOp.callB (CallAs.func ent72 rfl rfl) (Bors.cons (Bor.ptrT 3 (Bors.cons (Bor.pure rfl) (Bors.cons (Bor.pure rfl) (Bors.cons (Bor.sl (fun _ => rfl)) (Bors.cons (Bor.sl (fun _ => rfl)) Bors.nil)))) rfl) Bors.nil) rfl rfl (s_l02Square_ok a0 a1 a2 r1 hf1)) hc2) <|
     (TR.l (r := b false) rfl rfl (LOp.eqb (LOp.not rfl rfl) rfl) <|
     (TR.l (r := b false) rfl rfl (LOp.move rfl rfl) <|
     (TR.l (r := ptr [i64 a0, i64 a1, sl a2.length (a2.map f32), sl a3.length (a3.map i64)]) rfl rfl (LOp.move rfl rfl) <|
     (TR.l (r := ptr [i64 a0, i64 a1, sl a2.length (a2.map f32), sl a3.length (a3.map i64)]) rfl rfl (LOp.nilCheck_ptr rfl rfl) <|
     (TR.l (r := ptr [sl a3.length (a3.map i64)]) rfl rfl (LOp.fap und65 rfl siz53 rfl rfl rfl) <|
     (TR.l (r := sl a3.length (a3.map i64)) rfl rfl (LOp.load1 agg53 rfl rfl) <|
     (TR.d (r := b true) (fs := []) rfl rfl (TOp.eqb (TOp.callB (CallAs.func ent117 rfl rfl) (Bors.cons (Bor.sl (fun _ => rfl)) Bors.nil) rfl rfl (s_l02Order_ok a3 r2 hf3)) hc4) <|
     (TR.l (r := b false) rfl rfl (LOp.eqb (LOp.not rfl rfl) rfl) <|
     (TR.l (r := b false) rfl rfl (LOp.pick_false rfl rfl rfl) <|
     (TR.l (r := b false) rfl rfl (LOp.move rfl rfl) <|
     (TR.l (r := ptr [i64 a0, i64 a1, sl a2.length (a2.map f32), sl a3.length (a3.map i64)]) rfl rfl (LOp.move rfl rfl) <|
     (TR.l (r := ptr [i64 a0, i64 a1, sl a2.length (a2.map f32), sl a3.length (a3.map i64)]) rfl rfl (LOp.nilCheck_ptr rfl rfl) <|
     (TR.l (r := ptr [sl a3.length (a3.map i64)]) rfl rfl (LOp.fap und65 rfl siz53 rfl rfl rfl) <|
     (TR.l (r := sl a3.length (a3.map i64)) rfl rfl (LOp.load1 agg53 rfl rfl) <|
     (TR.l (r := i64 (a3.length : Int)) rfl rfl (LOp.len_sl und53 rfl rfl) <|
     (TR.l (r := ptr [i64 a0, i64 a1, sl a2.length (a2.map f32), sl a3.length (a3.map i64)]) rfl rfl (LOp.move rfl rfl) <|
     (TR.l (r := ptr [i64 a0, i64 a1, sl a2.length (a2.map f32), sl a3.length (a3.map i64)]) rfl rfl (LOp.nilCheck_ptr rfl rfl) <|
     (TR.l (r := ptr [i64 a0, i64 a1, sl a2.length (a2.map f32), sl a3.length (a3.map i64)]) rfl rfl (LOp.fap und65 rfl siz26 rfl rfl rfl) <|
     (TR.l (r := ptr [i64 a0, i64 a1, sl a2.length (a2.map f32), sl a3.length (a3.map i64)]) rfl rfl (LOp.fap und26 rfl siz2 rfl rfl rfl) <|
     (TR.l (r := i64 a0) rfl rfl (LOp.load1 agg2 rfl rfl) <|
     (TR.l (r := b true) rfl rfl (LOp.eqb (LOp.neq rfl rfl rfl) hc5) <|
     (TR.l (r := b true) rfl rfl (LOp.pick_false rfl rfl rfl) <|
     TR.nil)))))))))))))))))))))))))) rfl (by kernel_rfl) rfl fills_nil rfl ?_
    iterate 26 refine ROps.dropS ?_
    refine ROps.drop0 ?_
    refine zN ?_
    refine RunC.wl (τ' := [(0, ptr [i64 a0, i64 a1, sl a2.length (a2.map f32), sl a3.length (a3.map i64)]), (29, b true)]) (Γ' := []) ⟨aR, aR, trivial⟩ trivial ?_
    refine RunC.cond_true rfl rfl ?_
    refine zQ ?_
    refine zA (r := b false) rfl rfl rfl rfl rfl ?_
    refine zN ?_
    refine RunC.ret ?_
    have hq := Option.some.inj h
    subst q0
    exact bodyQ.pure (.inr rfl) rfl (Res.one rfl (RV.tmp rfl))
   ·refine RunC.region_draw (Γ' := []) 26 mixed 
     (TR.l (r := ptr [i64 a0, i64 a1, sl a2.length (a2.map f32), sl a3.length (a3.map i64)]) rfl rfl (LOp.move rfl rfl) <|
     (TR.l (r := ptr [i64 a0, i64 a1, sl a2.length (a2.map f32), sl a3.length (a3.map i64)]) rfl rfl (LOp.nilCheck_ptr rfl rfl) <|
     (TR.l (r := ptr [i64 a0, i64 a1, sl a2.length (a2.map f32), sl a3.length (a3.map i64)]) rfl rfl (LOp.fap und65 rfl siz26 rfl rfl rfl) <|
     (TR.d (r := b true) (fs := []) rfl rfl (TOp.eqb (TOp.callB (CallAs.func ent72 rfl rfl) (Bors.cons (Bor.ptrT 3 (Bors.cons (Bor.pure rfl) (Bors.cons (Bor.pure rfl) (Bors.cons (Bor.sl (fun _ => rfl)) (Bors.cons (Bor.sl (fun _ => rfl)) Bors.nil)))) rfl) Bors.nil) rfl rfl (s_l02Square_ok a0 a1 a2 r1 hf1)) hc2) <|
     (TR.l (r := b false) rfl rfl (LOp.eqb (LOp.not rfl rfl) rfl) <|
     (TR.l (r := b false) rfl rfl (LOp.move rfl rfl) <|
     (TR.l (r := ptr [i64 a0, i64 a1, sl a2.length (a2.map f32), sl a3.length (a3.map i64)]) rfl rfl (LOp.move rfl rfl) <|
     (TR.l (r := ptr [i64 a0, i64 a1, sl a2.length (a2.map f32), sl a3.length (a3.map i64)]) rfl rfl (LOp.nilCheck_ptr rfl rfl) <|
     (TR.l (r := ptr [sl a3.length (a3.map i64)]) rfl rfl (LOp.fap und65 rfl siz53 rfl rfl rfl) <|
     (TR.l (r := sl a3.length (a3.map i64)) rfl rfl (LOp.load1 agg53 rfl rfl) <|
     (TR.d (r := b true) (fs := []) rfl rfl (TOp.eqb (TOp.callB (CallAs.func ent117 rfl rfl) (Bors.cons (Bor.sl (fun _ => rfl)) Bors.nil) rfl rfl (s_l02Order_ok a3 r2 hf3)) hc4) <|
     (TR.l (r := b false) rfl rfl (LOp.eqb (LOp.not rfl rfl) rfl) <|
     (TR.l (r := b false) rfl rfl (LOp.pick_false rfl rfl rfl) <|
     (TR.l (r := b false) rfl rfl (LOp.move rfl rfl) <|
     (TR.l (r := ptr [i64 a0, i64 a1, sl a2.length (a2.map f32), sl a3.length (a3.map i64)]) rfl rfl (LOp.move rfl rfl) <|
     (TR.l (r := ptr [i64 a0, i64 a1, sl a2.length (a2.map f32), sl a3.length (a3.map i64)]) rfl rfl (LOp.nilCheck_ptr rfl rfl) <|
     (TR.l (r := ptr [sl a3.length (a3.map i64)]) rfl rfl (LOp.fap und65 rfl siz53 rfl rfl rfl) <|
     (TR.l (r := sl a3.length (a3.map i64)) rfl rfl (LOp.load1 agg53 rfl rfl) <|
     (TR.l (r := i64 (a3.length : Int)) rfl rfl (LOp.len_sl und53 rfl rfl) <|
     (TR.l (r := ptr [i64 a0, i64 a1, sl a2.length (a2.map f32), sl a3.length (a3.map i64)]) rfl rfl (LOp.move rfl rfl) <|
     (TR.l (r := ptr [i64 a0, i64 a1, sl a2.length (a2.map f32), sl a3.length (a3.map i64)]) rfl rfl (LOp.nilCheck_ptr rfl rfl) <|
     (TR.l (r := ptr [i64 a0, i64 a1, sl a2.length (a2.map f32), sl a3.length (a3.map i64)]) rfl rfl (LOp.fap und65 rfl siz26 rfl rfl rfl) <|
     (TR.l (r := ptr [i64 a0, i64 a1, sl a2.length (a2.map f32), sl a3.length (a3.map i64)]) rfl rfl (LOp.fap und26 rfl siz2 rfl rfl rfl) <|
     (TR.l (r := i64 a0) rfl rfl (LOp.load1 agg2 rfl rfl) <|
     (TR.l (r := b false) rfl rfl (LOp.eqb (LOp.neq rfl rfl rfl) hc5) <|
     (TR.l (r := b false) rfl rfl (LOp.pick_false rfl rfl rfl) <|
     TR.nil)))))))))))))))))))))))))) rfl (by kernel_rfl) rfl fills_nil rfl ?_
    iterate 26 refine ROps.dropS ?_
    refine ROps.drop0 ?_
    refine zN ?_
    refine RunC.wl (τ' := [(0, ptr [i64 a0, i64 a1, sl a2.length (a2.map f32), sl a3.length (a3.map i64)]), (29, b false)]) (Γ' := []) ⟨aR, aR, trivial⟩ trivial ?_
    refine RunC.cond_false rfl rfl ?_
    refine RunC.skip ?_
    refine RunC.seq ?_
    refine zQ ?_
    refine zA (r := i64 0) rfl rfl rfl rfl rfl ?_
    refine zN ?_
    obtain ⟨z2, hz_2, h⟩ := obind_some h
    refine RunC.cutN (fun τ Γ => WeakLe τ [] ∧ DeadLe Γ [] ∧ z2 = .inl ()) ?_ ?_
    ·refine RunC.block (RunC.loop (RunL.loopM (x := z2) (s_l03Is_s1 a0 a1 a2) (fun (s : Int) τ Γ => WeakLe τ [(0, ptr [i64 a0, i64 a1, sl a2.length (a2.map f32), sl a3.length (a3.map i64)]), (3, i64 s)] ∧ DeadLe Γ []) ?_ _ _ _ hz_2 ⟨⟨aR, aR, trivial⟩, trivial⟩))
     rintro v3 τ2 Γ2 y2_ ⟨hw2, hd2⟩ h2_ ho2 hr2
     refine RunC.wl (τ' := [(0, ptr [i64 a0, i64 a1, sl a2.length (a2.map f32), sl a3.length (a3.map i64)]), (3, i64 v3)]) (Γ' := []) hw2 hd2 ?_
     replace h2_ : s_l03Is_b1 a0 a1 a2 v3 = some y2_ := h2_
     unfold s_l03Is_b1 at h2_
     refine RunC.seq ?_
     refine RunC.seq ?_
     rcases bsel_some h2_ with ⟨hc6, h2_⟩ | ⟨hc6, h2_⟩
     ·refine RunC.regionW ?_
      refine zM (r := i64 v3) rfl rfl rfl rfl rfl ?_
      refine zM (r := ptr [i64 a0, i64 a1, sl a2.length (a2.map f32), sl a3.length (a3.map i64)]) rfl rfl rfl rfl rfl ?_
      refine zL (r := ptr [i64 a0, i64 a1, sl a2.length (a2.map f32), sl a3.length (a3.map i64)]) rfl rfl rfl (LOp.nilCheck_ptr rfl rfl) ?_
      refine zL (r := ptr [i64 a0, i64 a1, sl a2.length (a2.map f32), sl a3.length (a3.map i64)]) rfl rfl rfl (LOp.fap und65 rfl siz26 rfl rfl rfl) ?_
      refine zL (r := ptr [i64 a0, i64 a1, sl a2.length (a2.map f32), sl a3.length (a3.map i64)]) rfl rfl rfl (LOp.fap und26 rfl siz2 rfl rfl rfl) ?_
      refine zL (r := i64 a0) rfl rfl rfl (LOp.load1 agg2 rfl rfl) ?_
      refine zL (r := b true) rfl rfl rfl (LOp.eqb (LOp.lss rfl rfl rfl) hc6) ?_
      refine zN ?_
      refine RunC.cond_true rfl rfl ?_
      refine RunC.skip ?_
      refine RunC.seq ?_
      refine RunC.block ?_
      refine RunC.seq ?_
      obtain ⟨r4, hf7, h2_⟩ := obind_some h2_
      rcases bsel_some h2_ with ⟨hc8, h2_⟩ | ⟨hc8, h2_⟩
      ·refine RunC.regionW ?_
       refine zM (r := ptr [i64 a0, i64 a1, sl a2.length (a2.map f32), sl a3.length (a3.map i64)]) rfl rfl rfl rfl rfl ?_
       refine zL (r := ptr [i64 a0, i64 a1, sl a2.length (a2.map f32), sl a3.length (a3.map i64)]) rfl rfl rfl (LOp.nilCheck_ptr rfl rfl) ?_
       refine zL (r := ptr [i64 a0, i64 a1, sl a2.length (a2.map f32), sl a3.length (a3.map i64)]) rfl rfl rfl (LOp.fap und65 rfl siz26 rfl rfl rfl) ?_
       refine zM (r := i64 v3) rfl rfl rfl rfl rfl ?_
       refine zM (r := i64 v3) rfl rfl rfl rfl rfl ?_
       refine ROps.d (r := f32 r4) (fs := []) (Γ' := []) rfl rfl rfl (TOp.callB (CallAs.func ent21 rfl rfl) (Bors.cons (Bor.ptrT 3 (Bors.cons (Bor.pure rfl) (Bors.cons (Bor.pure rfl) (Bors.cons (Bor.sl (fun _ => rfl)) (Bors.cons (Bor.sl (fun _ => rfl)) Bors.nil)))) rfl) (Bors.cons (Bor.pure rfl) (Bors.cons (Bor.pure rfl) Bors.nil))) rfl rfl (s_l02At_ok a0 a1 a2 v3 v3 r4 hf7)) rfl ?_
       refine zL (r := b true) rfl rfl rfl (LOp.eqb (LOp.feq rfl (OpF.tmp rfl) (OpF.const rfl (by kernel_rfl) (by kernel_rfl))) hc8) ?_
       refine zN ?_
       refine RunC.wl (τ' := [(0, ptr [i64 a0, i64 a1, sl a2.length (a2.map f32), sl a3.length (a3.map i64)]), (3, i64 v3), (45, b true)]) (Γ' := []) ⟨aR, aR, aR, trivial⟩ trivial ?_
       refine RunC.cond_true rfl rfl ?_
       refine zQ ?_
       refine zA (r := b false) rfl rfl rfl rfl rfl ?_
       refine zN ?_
       refine RunC.ret ?_
       cases Option.some.inj h2_
       have hx3_ := hr2 _ rfl
       subst hx3_
       have hq := Option.some.inj h
       subst q0
       exact bodyQ.pure (.inr rfl) rfl (Res.one rfl (RV.tmp rfl))
      ·refine RunC.regionW ?_
       refine zM (r := ptr [i64 a0, i64 a1, sl a2.length (a2.map f32), sl a3.length (a3.map i64)]) rfl rfl rfl rfl rfl ?_
       refine zL (r := ptr [i64 a0, i64 a1, sl a2.length (a2.map f32), sl a3.length (a3.map i64)]) rfl rfl rfl (LOp.nilCheck_ptr rfl rfl) ?_
       refine zL (r := ptr [i64 a0, i64 a1, sl a2.length (a2.map f32), sl a3.length (a3.map i64)]) rfl rfl rfl (LOp.fap und65 rfl siz26 rfl rfl rfl) ?_
       refine zM (r := i64 v3) rfl rfl rfl rfl rfl ?_
       refine zM (r := i64 v3) rfl rfl rfl rfl rfl ?_
       refine ROps.d (r := f32 r4) (fs := []) (Γ' := []) rfl rfl rfl (TOp.callB (CallAs.func ent21 rfl rfl) (Bors.cons (Bor.ptrT 3 (Bors.cons (Bor.pure rfl) (Bors.cons (Bor.pure rfl) (Bors.cons (Bor.sl (fun _ => rfl)) (Bors.cons (Bor.sl (fun _ => rfl)) Bors.nil)))) rfl) (Bors.cons (Bor.pure rfl) (Bors.cons (Bor.pure rfl) Bors.nil))) rfl rfl (s_l02At_ok a0 a1 a2 v3 v3 r4 hf7)) rfl ?_
       refine zL (r := b false) rfl rfl rfl (LOp.eqb (LOp.feq rfl (OpF.tmp rfl) (OpF.const rfl (by kernel_rfl) (by kernel_rfl))) hc8) ?_
       refine zN ?_
       refine RunC.wl (τ' := [(0, ptr [i64 a0, i64 a1, sl a2.length (a2.map f32), sl a3.length (a3.map i64)]), (3, i64 v3), (45, b false)]) (Γ' := []) ⟨aR, aR, aR, trivial⟩ trivial ?_
       refine RunC.cond_false rfl rfl ?_
       refine RunC.skip ?_
       obtain ⟨x5, hx9, h2_⟩ := olet_some h2_
       refine RunC.regionW ?_
       refine zM (r := i64 v3) rfl rfl rfl rfl rfl ?_
       refine zL (r := i64 x5) rfl rfl rfl (LOp.eqr (LOp.add rfl rfl rfl) (congrArg (ik .i64) hx9)) ?_
       refine zA (r := i64 x5) rfl rfl rfl rfl rfl ?_
       refine zN ?_
       cases Option.some.inj h2_
       exact ⟨_, rfl, ⟨aR, aR, trivial⟩, trivial⟩
     ·refine RunC.regionW ?_
      refine zM (r := i64 v3) rfl rfl rfl rfl rfl ?_
      refine zM (r := ptr [i64 a0, i64 a1, sl a2.length (a2.map f32), sl a3.length (a3.map i64)]) rfl rfl rfl rfl rfl ?_
      refine zL (r := ptr [i64 a0, i64 a1, sl a2.length (a2.map f32), sl a3.length (a3.map i64)]) rfl rfl rfl (LOp.nilCheck_ptr rfl rfl) ?_
      refine zL (r := ptr [i64 a0, i64 a1, sl a2.length (a2.map f32), sl a3.length (a3.map i64)]) rfl rfl rfl (LOp.fap und65 rfl siz26 rfl rfl rfl) ?_
      refine zL (r := ptr [i64 a0, i64 a1, sl a2.length (a2.map f32), sl a3.length (a3.map i64)]) rfl rfl rfl (LOp.fap und26 rfl siz2 rfl rfl rfl) ?_
      refine zL (r := i64 a0) rfl rfl rfl (LOp.load1 agg2 rfl rfl) ?_
      refine zL (r := b false) rfl rfl rfl (LOp.eqb (LOp.lss rfl rfl rfl) hc6) ?_
      refine zN ?_
      refine RunC.cond_false rfl rfl ?_
      refine RunC.exit ?_
      cases Option.some.inj h2_
      have hx := ho2 _ rfl
      exact ⟨trivial, trivial, hx⟩
    ·rintro τ4 Γ4 ⟨hw4, hd4, rfl⟩
     refine RunC.wl hw4 hd4 ?_
     replace h : s_l03Is_k1 = some q0 := h
     unfold s_l03Is_k1 at h
     refine zQ ?_
     refine zA (r := b true) rfl rfl rfl rfl rfl ?_
     refine zN ?_
     refine RunC.ret ?_
     have hq := Option.some.inj h
     subst q0
     exact bodyQ.pure (.inr rfl) rfl (Res.one rfl (RV.tmp rfl))
  ·refine RunC.region_draw (Γ' := []) 26 mixed 
    (TR.l (r := ptr [i64 a0, i64 a1, sl a2.length (a2.map f32), sl a3.length (a3.map i64)]) rfl rfl (LOp.move rfl rfl) <|
    (TR.l (r := ptr [i64 a0, i64 a1, sl a2.length (a2.map f32), sl a3.length (a3.map i64)]) rfl rfl (LOp.nilCheck_ptr rfl rfl) <|
    (TR.l (r := ptr [i64 a0, i64 a1, sl a2.length (a2.map f32), sl a3.length (a3.map i64)]) rfl rfl (LOp.fap und65 rfl siz26 rfl rfl rfl) <|
    (TR.d (r := b true) (fs := []) rfl rfl (TOp.eqb (TOp.callB (CallAs.func ent72 rfl rfl) (Bors.cons (Bor.ptrT 3 (Bors.cons (Bor.pure rfl) (Bors.cons (Bor.pure rfl) (Bors.cons (Bor.sl (fun _ => rfl)) (Bors.cons (Bor.sl (fun _ => rfl)) Bors.nil)))) rfl) Bors.nil) rfl rfl (s_l02Square_ok a0 a1 a2 r1 hf1)) hc2) <|
    (TR.l (r := b false) rfl rfl (LOp.eqb (LOp.not rfl rfl) rfl) <|
    (TR.l (r := b false) rfl rfl (LOp.move rfl rfl) <|
    (TR.l (r := ptr [i64 a0, i64 a1, sl a2.length (a2.map f32), sl a3.length (a3.map i64)]) rfl rfl (LOp.move rfl rfl) <|
    (TR.l (r := ptr [i64 a0, i64 a1, sl a2.length (a2.map f32), sl a3.length (a3.map i64)]) rfl rfl (LOp.nilCheck_ptr rfl rfl) <|
    (TR.l (r := ptr [sl a3.length (a3.map i64)]) rfl rfl (LOp.fap und65 rfl siz53 rfl rfl rfl) <|
    (TR.l (r := sl a3.length (a3.map i64)) rfl rfl (LOp.load1 agg53 rfl rfl) <|
    (TR.d (r := b false) (fs := []) rfl rfl (TOp.eqb (TOp.callB (CallAs.func ent117 rfl rfl) (Bors.cons (Bor.sl (fun _ => rfl)) Bors.nil) rfl rfl (s_l02Order_ok a3 r2 hf3)) hc4) <|
    (TR.l (r := b true) rfl rfl (LOp.eqb (LOp.not rfl rfl) rfl) <|
    (TR.l (r := b true) rfl rfl (LOp.pick_false rfl rfl rfl) <|
    (TR.l (r := b true) rfl rfl (LOp.move rfl rfl) <|
    (TR.s rfl rfl <|
    (TR.s rfl rfl <|
    (TR.s rfl rfl <|
    (TR.s rfl rfl <|
    (TR.s rfl rfl <|
    (TR.s rfl rfl <|
    (TR.s rfl rfl <|
    (TR.s rfl rfl <|
    (TR.s rfl rfl <|
    (TR.s rfl rfl <|
    (TR.s rfl rfl <|
    (TR.l (r := b true) rfl rfl (LOp.pick_true rfl rfl rfl) <|
    TR.nil)))))))))))))))))))))))))) rfl (by kernel_rfl) rfl fills_nil rfl ?_
   iterate 26 refine ROps.dropS ?_
   refine ROps.drop0 ?_
   refine zN ?_
   refine RunC.wl (τ' := [(0, ptr [i64 a0, i64 a1, sl a2.length (a2.map f32), sl a3.length (a3.map i64)]), (29, b true)]) (Γ' := []) ⟨aR, aR, trivial⟩ trivial ?_
   refine RunC.cond_true rfl rfl ?_
   refine zQ ?_
   refine zA (r := b false) rfl rfl rfl rfl rfl ?_
   refine zN ?_
   refine RunC.ret ?_
   have hq := Option.some.inj h
   subst q0
   exact bodyQ.pure (.inr rfl) rfl (Res.one rfl (RV.tmp rfl))
 ·refine RunC.region_draw (Γ' := []) 26 mixed 
   (TR.l (r := ptr [i64 a0, i64 a1, sl a2.length (a2.map f32), sl a3.length (a3.map i64)]) rfl rfl (LOp.move rfl rfl) <|
   (TR.l (r := ptr [i64 a0, i64 a1, sl a2.length (a2.map f32), sl a3.length (a3.map i64)]) rfl rfl (LOp.nilCheck_ptr rfl rfl) <|
   (TR.l (r := ptr [i64 a0, i64 a1, sl a2.length (a2.map f32), sl a3.length (a3.map i64)]) rfl rfl (LOp.fap und65 rfl siz26 rfl rfl rfl) <|
   (TR.d (r := b false) (fs := []) rfl rfl (TOp.eqb (TOp.callB (CallAs.func ent72 rfl rfl) (Bors.cons (Bor.ptrT 3 (Bors.cons (Bor.pure rfl) (Bors.cons (Bor.pure rfl) (Bors.cons (Bor.sl (fun _ => rfl)) (Bors.cons (Bor.sl (fun _ => rfl)) Bors.nil)))) rfl) Bors.nil) rfl rfl (s_l02Square_ok a0 a1 a2 r1 hf1)) hc2) <|
   (TR.l (r := b true) rfl rfl (LOp.eqb (LOp.not rfl rfl) rfl) <|
   (TR.l (r := b true) rfl rfl (LOp.move rfl rfl) <|
   (TR.s rfl rfl <|
   (TR.s rfl rfl <|
   (TR.s rfl rfl <|
   (TR.s rfl rfl <|
   (TR.s rfl rfl <|
   (TR.s rfl rfl <|
   (TR.l (r := b true) rfl rfl (LOp.pick_true rfl rfl rfl) <|
   (TR.l (r := b true) rfl rfl (LOp.move rfl rfl) <|
   (TR.s rfl rfl <|
   (TR.s rfl rfl <|
   (TR.s rfl rfl <|
   (TR.s rfl rfl <|
   (TR.s rfl rfl <|
   (TR.s rfl rfl <|
   (TR.s rfl rfl <|
   (TR.s rfl rfl <|
   (TR.s rfl rfl <|
   (TR.s rfl rfl <|
   (TR.s rfl rfl <|
   (TR.l (r := b true) rfl rfl (LOp.pick_true rfl rfl rfl) <|
   TR.nil)))))))))))))))))))))))))) rfl (by kernel_rfl) rfl fills_nil rfl ?_
  iterate 26 refine ROps.dropS ?_
  refine ROps.drop0 ?_
  refine zN ?_
  refine RunC.wl (τ' := [(0, ptr [i64 a0, i64 a1, sl a2.length (a2.map f32), sl a3.length (a3.map i64)]), (29, b true)]) (Γ' := []) ⟨aR, aR, trivial⟩ trivial ?_
  refine RunC.cond_true rfl rfl ?_
  refine zQ ?_
  refine zA (r := b false) rfl rfl rfl rfl rfl ?_
  refine zN ?_
  refine RunC.ret ?_
  have hq := Option.some.inj h
  subst q0
  exact bodyQ.pure (.inr rfl) rfl (Res.one rfl (RV.tmp rfl))
noncomputable def s_l02Zero (a0 : Int) (a1 : Int) : Option (Int × Int × (List F)) :=
 olet (IntKind.i64.wrap (a0 * a1)) fun (x1 : Int) =>
 need (mkok 4 x1) <|
 some (a0, a1, (List.replicate x1.toNat (some 0)))
theorem s_l02Zero_ok (a0 : Int) (a1 : Int) (q0 : Int) (q1 : Int) (q2 : List F) (h : s_l02Zero a0 a1 = some (q0, q1, q2)) : Ev Tryz.prog 20 [i64 a0, i64 a1] [] (agg [i64 q0, i64 q1, oref 0 0 0 q2.length]) [⟨0, some (q2.map f32)⟩] := by
 refine Ev.start Tryz.func20 rfl rfl 2 (τ := [(0, i64 a0), (1, i64 a1)]) rfl (Γ' := [⟨0, none⟩, ⟨0, none⟩]) rfl (n := 25) rfl (g := 0) rfl (fun _ => rfl) ?_
 unfold s_l02Zero at h
 refine zQ ?_
 refine ROps.d (r := optr 0 1 0) (fs := [(0, [i64 0, i64 0, nilsl])]) (Γ' := [⟨1, some [i64 0, i64 0, nilsl]⟩, ⟨0, none⟩]) rfl rfl rfl (TOp.alloc_o (g := ⟨0, none⟩) 0 rfl zer26 zok26 rfl) rfl ?_
 refine zN ?_
 refine RunC.seq ?_
 obtain ⟨x1, hx1, h⟩ := olet_some h
 obtain ⟨hm2, h⟩ := need_some h
 refine RunC.regionW ?_
 refine zM (r := i64 a0) rfl rfl rfl rfl rfl ?_
 refine zM (r := i64 a1) rfl rfl rfl rfl rfl ?_
 refine zM (r := i64 a0) rfl rfl rfl rfl rfl ?_
 refine zM (r := i64 a1) rfl rfl rfl rfl rfl ?_
 refine zL (r := i64 x1) rfl rfl rfl (LOp.eqr (LOp.mul rfl rfl rfl) (congrArg (ik .i64) hx1)) ?_
 refine ROps.d (r := oref 1 1 0 x1.toNat) (fs := [(1, ((List.replicate x1.toNat (some 0)).map f32))]) (Γ' := [⟨1, some [i64 0, i64 0, nilsl]⟩, ⟨1, some ((List.replicate x1.toNat (some 0)).map f32)⟩]) rfl rfl rfl (TOp.mkS (g := ⟨0, none⟩) (t := 22) (e := 33) (by_ := 4) (f := f32) (zv := some 0) 1 rfl und22 tin33 rfl siz33 zer33 rfl zel33 rfl rfl rfl hm2) rfl ?_
 refine zL (r := agg [i64 a0, i64 a1, oref 1 1 0 x1.toNat]) rfl rfl rfl (LOp.build (qs := [(0, [i64 a0]), (1, [i64 a1]), (2, [oref 1 1 0 x1.toNat])]) zer26 zok26 und26 plc26 rfl ⟨rfl, ⟨_, ALe.refl _, rfl⟩, ⟨rfl, ⟨_, ALe.refl _, rfl⟩, ⟨rfl, ⟨_, ALe.refl _, rfl⟩, trivial⟩⟩⟩ rfl) ?_
 refine ROps.store_le (r := agg [i64 a0, i64 a1, oref 1 1 0 x1.toNat]) (l' := [i64 a0, i64 a1, oref 1 1 0 x1.toNat]) (Γ' := [⟨1, some [i64 a0, i64 a1, oref 1 1 0 x1.toNat]⟩, ⟨1, some ((List.replicate x1.toNat (some 0)).map f32)⟩]) rfl siz26 rfl rfl rfl aR rfl rfl rfl rfl (Nat.le_of_ble_eq_true rfl) rfl rfl ?_
 refine zN ?_
 refine RunC.ret ?_
 have hq := Option.some.inj h
 obtain ⟨hq0, hq⟩ := Prod.mk.inj hq
 obtain ⟨hq1, hq⟩ := Prod.mk.inj hq
 subst q0
 subst q1
 subst q2
 exact bodyQ.mk (r' := agg [i64 a0, i64 a1, oref 1 1 0 ((List.replicate x1.toNat (some 0)).length)]) [(1, 1)] (.inr rfl) rfl (show List.Nodup [1] from by decide) rfl rfl (Res.eq (Res.one rfl (RV.cell agg26 siz26 rfl rfl rfl rfl)) (by rw [(show (List.replicate x1.toNat (some 0)).length = x1.toNat from by simp)] <;> rfl)) (SelL.arr0 (f := f32) (fun _ => rfl) rfl trivial)
noncomputable def s_l03Solve_b2 (a0 : Int) (a1 : Int) (a2 : List F) (L3 : List F) (v4 : Int) (y7 : F) (v8 : Int) : Option (LR (F × Int) (F) ((List F))) :=
 bsel (decide (v8 < v4)) (
  obind (s_l02At a0 a1 a2 v4 v8) fun (r9 : F) =>
  obind (at? L3 v8) fun (e10 : F) =>
  olet (fop .mul .f32 r9 e10) fun (x11 : F) =>
  olet (fop .sub .f32 y7 x11) fun (x12 : F) =>
  olet (IntKind.i64.wrap (v8 + 1)) fun (x13 : Int) =>
  some (LR.next (x12, x13))) (
  some (LR.out y7))
noncomputable def s_l03Solve_s2 (a0 : Int) (a1 : Int) (a2 : List F) (L3 : List F) (v4 : Int) : (F × Int) → Option (LR (F × Int) (F) ((List F))) := fun s => s_l03Solve_b2 a0 a1 a2 L3 v4 s.1 s.2
noncomputable def s_l03Solve_k2 (L3 : List F) (v4 : Int) (y14 : F) : Option (LR ((List F) × Int) ((List F)) ((List F))) :=
 need (apok 4 L3.length 1) <|
 olet (IntKind.i64.wrap (v4 + 1)) fun (x15 : Int) =>
 some (LR.next ((L3 ++ ([y14] : List F)), x15))
noncomputable def s_l03Solve_b3 (a0 : Int) (a1 : Int) (a2 : List F) (a3 : List Int) (a4 : List F) (L3 : List F) (v4 : Int) : Option (LR ((List F) × Int) ((List F)) ((List F))) :=
 bsel (decide (v4 < a0)) (
  obind (at? a3 v4) fun (e5 : Int) =>
  obind (at? a4 e5) fun (e6 : F) =>
  obind (loopM (s_l03Solve_s2 a0 a1 a2 L3 v4) (e6, 0)) fun z => osum z (fun e => s_l03Solve_k2 L3 v4 e) (fun r => some (LR.ret r))) (
  some (LR.out L3))
noncomputable def s_l03Solve_s3 (a0 : Int) (a1 : Int) (a2 : List F) (a3 : List Int) (a4 : List F) : ((List F) × Int) → Option (LR ((List F) × Int) ((List F)) ((List F))) := fun s => s_l03Solve_b3 a0 a1 a2 a3 a4 s.1 s.2
noncomputable def s_l03Solve_b5 (a0 : Int) (a1 : Int) (a2 : List F) (L20 : List F) (v22 : Int) (y25 : F) (v26 : Int) : Option (LR (F × Int) (F) ((List F))) :=
 bsel (decide (v26 < a0)) (
  obind (s_l02At a0 a1 a2 v22 v26) fun (r27 : F) =>
  obind (at? L20 v26) fun (e28 : F) =>
  olet (fop .mul .f32 r27 e28) fun (x29 : F) =>
  olet (fop .sub .f32 y25 x29) fun (x30 : F) =>
  olet (IntKind.i64.wrap (v26 + 1)) fun (x31 : Int) =>
  some (LR.next (x30, x31))) (
  some (LR.out y25))
noncomputable def s_l03Solve_s5 (a0 : Int) (a1 : Int) (a2 : List F) (L20 : List F) (v22 : Int) : (F × Int) → Option (LR (F × Int) (F) ((List F))) := fun s => s_l03Solve_b5 a0 a1 a2 L20 v22 s.1 s.2
noncomputable def s_l03Solve_k5 (a0 : Int) (a1 : Int) (a2 : List F) (L20 : List F) (v22 : Int) (y33 : F) : Option (LR ((List F) × Int) ((List F)) ((List F))) :=
 obind (s_l02At a0 a1 a2 v22 v22) fun (r34 : F) =>
 olet (fop .quo .f32 y33 r34) fun (x35 : F) =>
 obind (setAt? L20 v22 x35) fun (L36 : List F) =>
 olet (IntKind.i64.wrap (v22 - 1)) fun (x37 : Int) =>
 some (LR.next (L36, x37))
noncomputable def s_l03Solve_b6 (a0 : Int) (a1 : Int) (a2 : List F) (L20 : List F) (v22 : Int) : Option (LR ((List F) × Int) ((List F)) ((List F))) :=
 bsel (decide (0 ≤ v22)) (
  obind (at? L20 v22) fun (e23 : F) =>
  olet (IntKind.i64.wrap (v22 + 1)) fun (x24 : Int) =>
  obind (loopM (s_l03Solve_s5 a0 a1 a2 L20 v22) (e23, x24)) fun z => osum z (fun e => s_l03Solve_k5 a0 a1 a2 L20 v22 e) (fun r => some (LR.ret r))) (
  some (LR.out L20))
noncomputable def s_l03Solve_s6 (a0 : Int) (a1 : Int) (a2 : List F) : ((List F) × Int) → Option (LR ((List F) × Int) ((List F)) ((List F))) := fun s => s_l03Solve_b6 a0 a1 a2 s.1 s.2
noncomputable def s_l03Solve_k6 (L38 : List F) : Option ((List F)) :=
 some L38
noncomputable def s_l03Solve_k3 (a0 : Int) (a1 : Int) (a2 : List F) (L18 : List F) : Option ((List F)) :=
 olet (IntKind.i64.wrap (a0 - 1)) fun (x19 : Int) =>
 obind (loopM (s_l03Solve_s6 a0 a1 a2) (L18, x19)) fun z => osum z (fun e => s_l03Solve_k6 e) (fun r => some r)
noncomputable def s_l03Solve (a0 : Int) (a1 : Int) (a2 : List F) (a3 : List Int) (a4 : List F) : Option ((List F)) :=
 obind (loopM (s_l03Solve_s3 a0 a1 a2 a3 a4) (([] : List F), 0)) fun z => osum z (fun e => s_l03Solve_k3 a0 a1 a2 e) (fun r => some r)
theorem s_l03Solve_ok (a0 : Int) (a1 : Int) (a2 : List F) (a3 : List Int) (a4 : List F) (q0 : List F) (h : s_l03Solve a0 a1 a2 a3 a4 = some q0) : Ev Tryz.prog 118 [ptr [i64 a0, i64 a1, sl a2.length (a2.map f32), sl a3.length (a3.map i64)], sl a4.length (a4.map f32)] [] (oref 0 0 0 q0.length) [⟨0, some (q0.map f32)⟩] := by
 refine Ev.start Tryz.func118 rfl rfl 2 (τ := [(0, ptr [i64 a0, i64 a1, sl a2.length (a2.map f32), sl a3.length (a3.map i64)]), (1, sl a4.length (a4.map f32))]) rfl (Γ' := [⟨0, none⟩, ⟨0, none⟩]) rfl (n := 197) rfl (g := 0) rfl (fun _ => rfl) ?_
 unfold s_l03Solve at h
 refine zQ ?_
 refine zA (r := nilsl) rfl rfl rfl rfl rfl ?_
 refine zN ?_
 refine zQ ?_
 refine zM (r := ptr [i64 a0, i64 a1, sl a2.length (a2.map f32), sl a3.length (a3.map i64)]) rfl rfl rfl rfl rfl ?_
 refine zL (r := ptr [i64 a0, i64 a1, sl a2.length (a2.map f32), sl a3.length (a3.map i64)]) rfl rfl rfl (LOp.nilCheck_ptr rfl rfl) ?_
 refine zL (r := ptr [i64 a0, i64 a1, sl a2.length (a2.map f32), sl a3.length (a3.map i64)]) rfl rfl rfl (LOp.fap und65 rfl siz26 rfl rfl rfl) ?_
 refine zL (r := ptr [i64 a0, i64 a1, sl a2.length (a2.map f32), sl a3.length (a3.map i64)]) rfl rfl rfl (LOp.fap und26 rfl siz2 rfl rfl rfl) ?_
 refine zL (r := i64 a0) rfl rfl rfl (LOp.load1 agg2 rfl rfl) ?_
 refine zA (r := i64 a0) rfl rfl rfl rfl rfl ?_
 refine zN ?_
 refine zQ ?_
 refine ROps.d (r := oref 0 1 0 0) (fs := [(0, (([] : List F).map f32))]) (Γ' := [⟨1, some (([] : List F).map f32)⟩, ⟨0, none⟩]) rfl rfl rfl (TOp.buildSlice_o (g := ⟨0, none⟩) (za := f32 (some 0)) (qs := []) 0 rfl und22 siz33 zer33 rfl zel33 rfl rfl trivial rfl) rfl ?_
 refine zA (r := oref 0 1 0 0) rfl rfl rfl rfl rfl ?_
 refine zN ?_
 refine RunC.seq ?_
 refine zQ ?_
 refine zA (r := i64 0) rfl rfl rfl rfl rfl ?_
 refine zN ?_
 obtain ⟨z7, hz_7, h⟩ := obind_some h
 refine RunC.cutN (fun τ Γ => ∃ (L18 : List F) (u16 : Nat) (u17 : Nat), WeakLe τ [(0, ptr [i64 a0, i64 a1, sl a2.length (a2.map f32), sl a3.length (a3.map i64)]), (5, i64 a0), (6, oref 0 u16 0 L18.length)] ∧ DeadLe Γ [⟨u16, some (L18.map f32)⟩, ⟨u17, none⟩] ∧ z7 = .inl L18) ?_ ?_
 ·refine RunC.block (RunC.loop (RunL.loopM (x := z7) (s_l03Solve_s3 a0 a1 a2 a3 a4) (fun (s : (List F) × Int) τ Γ => ∃ (u1 : Nat) (u2 : Nat), WeakLe τ [(0, ptr [i64 a0, i64 a1, sl a2.length (a2.map f32), sl a3.length (a3.map i64)]), (1, sl a4.length (a4.map f32)), (5, i64 a0), (6, oref 0 u1 0 s.1.length), (7, i64 s.2)] ∧ DeadLe Γ [⟨u1, some (s.1.map f32)⟩, ⟨u2, none⟩]) ?_ _ _ _ hz_7 ⟨1, 0, ⟨aR, aR, aR, aR, aR, trivial⟩, ⟨⟨rfl, .inr rfl⟩, ⟨rfl, .inl rfl⟩, trivial⟩⟩))
  rintro ⟨L3, v4⟩ τ7 Γ7 y7_ ⟨u1, u2, hw7, hd7⟩ h7_ ho7 hr7
  refine RunC.wl (τ' := [(0, ptr [i64 a0, i64 a1, sl a2.length (a2.map f32), sl a3.length (a3.map i64)]), (1, sl a4.length (a4.map f32)), (5, i64 a0), (6, oref 0 u1 0 L3.length), (7, i64 v4)]) (Γ' := [⟨u1, some (L3.map f32)⟩, ⟨u2, none⟩]) hw7 hd7 ?_
  replace h7_ : s_l03Solve_b3 a0 a1 a2 a3 a4 L3 v4 = some y7_ := h7_
  unfold s_l03Solve_b3 at h7_
  refine RunC.seq ?_
  refine RunC.seq ?_
  rcases bsel_some h7_ with ⟨hc1, h7_⟩ | ⟨hc1, h7_⟩
  ·refine RunC.regionW ?_
   refine zM (r := i64 v4) rfl rfl rfl rfl rfl ?_
   refine zM (r := i64 a0) rfl rfl rfl rfl rfl ?_
   refine zL (r := b true) rfl rfl rfl (LOp.eqb (LOp.lss rfl rfl rfl) hc1) ?_
   refine zN ?_
   refine RunC.cond_true rfl rfl ?_
   refine RunC.skip ?_
   refine RunC.seq ?_
   refine RunC.block ?_
   refine RunC.seq ?_
   obtain ⟨e5, he2, h7_⟩ := obind_some h7_
   obtain ⟨e6, he3, h7_⟩ := obind_some h7_
   refine RunC.regionW ?_
   refine zM (r := sl a4.length (a4.map f32)) rfl rfl rfl rfl rfl ?_
   refine zM (r := ptr [i64 a0, i64 a1, sl a2.length (a2.map f32), sl a3.length (a3.map i64)]) rfl rfl rfl rfl rfl ?_
   refine zL (r := ptr [i64 a0, i64 a1, sl a2.length (a2.map f32), sl a3.length (a3.map i64)]) rfl rfl rfl (LOp.nilCheck_ptr rfl rfl) ?_
   refine zL (r := ptr [sl a3.length (a3.map i64)]) rfl rfl rfl (LOp.fap und65 rfl siz53 rfl rfl rfl) ?_
   refine zL (r := sl a3.length (a3.map i64)) rfl rfl rfl (LOp.load1 agg53 rfl rfl) ?_
   refine zM (r := i64 v4) rfl rfl rfl rfl rfl ?_
   refine zL (r := ptr [i64 e5]) rfl rfl rfl (LOp.le (LOp.ix (f := i64) und53 siz2 rfl rfl rfl rfl he2) ALe.ptr) ?_
   refine zL (r := i64 e5) rfl rfl rfl (LOp.load1 agg2 rfl rfl) ?_
   refine zL (r := ptr [f32 e6]) rfl rfl rfl (LOp.le (LOp.ix (f := f32) und22 siz33 rfl rfl rfl rfl he3) ALe.ptr) ?_
   refine zL (r := f32 e6) rfl rfl rfl (LOp.load1 agg33 rfl rfl) ?_
   refine zA (r := f32 e6) rfl rfl rfl rfl rfl ?_
   refine zN ?_
   refine RunC.wl (τ' := [(0, ptr [i64 a0, i64 a1, sl a2.length (a2.map f32), sl a3.length (a3.map i64)]), (1, sl a4.length (a4.map f32)), (5, i64 a0), (6, oref 0 u1 0 L3.length), (7, i64 v4), (8, f32 e6)]) (Γ' := [⟨u1, some (L3.map f32)⟩, ⟨u2, none⟩]) ⟨aR, aR, aR, aR, aR, aR, trivial⟩ ⟨⟨rfl, .inr rfl⟩, ⟨rfl, .inl rfl⟩, trivial⟩ ?_
   refine RunC.seq ?_
   refine zQ ?_
   refine zA (r := i64 0) rfl rfl rfl rfl rfl ?_
   refine zN ?_
   obtain ⟨z8, hz_8, h7_⟩ := obind_some h7_
   refine RunC.cutN (fun τ Γ => ∃ (y14 : F), WeakLe τ [(0, ptr [i64 a0, i64 a1, sl a2.length (a2.map f32), sl a3.length (a3.map i64)]), (1, sl a4.length (a4.map f32)), (5, i64 a0), (6, oref 0 u1 0 L3.length), (7, i64 v4), (8, f32 y14)] ∧ DeadLe Γ [⟨u1, some (L3.map f32)⟩, ⟨u2, none⟩] ∧ z8 = .inl y14) ?_ ?_
   ·refine RunC.block (RunC.loop (RunL.loopM (x := z8) (s_l03Solve_s2 a0 a1 a2 L3 v4) (fun (s : F × Int) τ Γ => WeakLe τ [(0, ptr [i64 a0, i64 a1, sl a2.length (a2.map f32), sl a3.length (a3.map i64)]), (1, sl a4.length (a4.map f32)), (5, i64 a0), (6, oref 0 u1 0 L3.length), (7, i64 v4), (8, f32 s.1), (9, i64 s.2)] ∧ DeadLe Γ [⟨u1, some (L3.map f32)⟩, ⟨u2, none⟩]) ?_ _ _ _ hz_8 ⟨⟨aR, aR, aR, aR, aR, aR, aR, trivial⟩, ⟨⟨rfl, .inr rfl⟩, ⟨rfl, .inl rfl⟩, trivial⟩⟩))
    rintro ⟨y7, v8⟩ τ8 Γ8 y8_ ⟨hw8, hd8⟩ h8_ ho8 hr8
    refine RunC.wl (τ' := [(0, ptr [i64 a0, i64 a1, sl a2.length (a2.map f32), sl a3.length (a3.map i64)]), (1, sl a4.length (a4.map f32)), (5, i64 a0), (6, oref 0 u1 0 L3.length), (7, i64 v4), (8, f32 y7), (9, i64 v8)]) (Γ' := [⟨u1, some (L3.map f32)⟩, ⟨u2, none⟩]) hw8 hd8 ?_
    replace h8_ : s_l03Solve_b2 a0 a1 a2 L3 v4 y7 v8 = some y8_ := h8_
    unfold s_l03Solve_b2 at h8_
    refine RunC.seq ?_
    refine RunC.seq ?_
    rcases bsel_some h8_ with ⟨hc4, h8_⟩ | ⟨hc4, h8_⟩
    ·refine RunC.regionW ?_
     refine zM (r := i64 v8) rfl rfl rfl rfl rfl ?_
     refine zM (r := i64 v4) rfl rfl rfl rfl rfl ?_
     refine zL (r := b true) rfl rfl rfl (LOp.eqb (LOp.lss rfl rfl rfl) hc4) ?_
     refine zN ?_
     refine RunC.cond_true rfl rfl ?_
     refine RunC.skip ?_
     refine RunC.seq ?_
     refine RunC.block ?_
     obtain ⟨r9, hf5, h8_⟩ := obind_some h8_
     obtain ⟨e10, he6, h8_⟩ := obind_some h8_
     obtain ⟨x11, hx7, h8_⟩ := olet_some h8_
     obtain ⟨x12, hx8, h8_⟩ := olet_some h8_
     refine RunC.region_draw (Γ' := [⟨u1, some (L3.map f32)⟩, ⟨u2, none⟩]) 14 mixed 
      (TR.l (r := f32 y7) rfl rfl (LOp.move rfl rfl) <|
      (TR.l (r := ptr [i64 a0, i64 a1, sl a2.length (a2.map f32), sl a3.length (a3.map i64)]) rfl rfl (LOp.move rfl rfl) <|
      (TR.l (r := ptr [i64 a0, i64 a1, sl a2.length (a2.map f32), sl a3.length (a3.map i64)]) rfl rfl (LOp.nilCheck_ptr rfl rfl) <|
      (TR.l (r := ptr [i64 a0, i64 a1, sl a2.length (a2.map f32), sl a3.length (a3.map i64)]) rfl rfl (LOp.fap und65 rfl siz26 rfl rfl rfl) <|
      (TR.l (r := i64 v4) rfl rfl (LOp.move rfl rfl) <|
      (TR.l (r := i64 v8) rfl rfl (LOp.move rfl rfl) <|
      (TR.d (r := f32 r9) (fs := []) rfl rfl (TOp.callB (CallAs.func ent21 rfl rfl) (Bors.cons (Bor.ptrT 3 (Bors.cons (Bor.pure rfl) (Bors.cons (Bor.pure rfl) (Bors.cons (Bor.sl (fun _ => rfl)) (Bors.cons (Bor.sl (fun _ => rfl)) Bors.nil)))) rfl) (Bors.cons (Bor.pure rfl) (Bors.cons (Bor.pure rfl) Bors.nil))) rfl rfl (s_l02At_ok a0 a1 a2 v4 v8 r9 hf5)) <|
      (TR.l (r := oref 0 u1 0 L3.length) rfl rfl (LOp.move rfl rfl) <|
      (TR.l (r := i64 v8) rfl rfl (LOp.move rfl rfl) <|
      (TR.d (r := optr 0 u1 v8.toNat) (fs := []) rfl rfl (TOp.ixo und22 siz33 rfl rfl rfl (at_in he6 rfl) rfl) <|
      (TR.d (r := f32 e10) (fs := []) rfl rfl (TOp.load1_o rfl (at_cell he6) agg33 rfl rfl) <|
      (TR.d (r := f32 x11) (fs := []) rfl rfl (TOp.eqr (TOp.fop (.inr (.inr (.inl rfl))) rfl (OpF.tmp rfl) (OpF.tmp rfl)) (congrArg (f .f32) hx7)) <|
      (TR.d (r := f32 x12) (fs := []) rfl rfl (TOp.eqr (TOp.fop (.inr (.inl rfl)) rfl (OpF.tmp rfl) (OpF.tmp rfl)) (congrArg (f .f32) hx8)) <|
      (TR.l (r := f32 x12) rfl rfl (LOp.assign rfl rfl) <|
      TR.nil)))))))))))))) rfl (by kernel_rfl) rfl fills_nil rfl ?_
     iterate 14 refine ROps.dropS ?_
     refine ROps.drop0 ?_
     refine zN ?_
     refine RunC.wl (τ' := [(0, ptr [i64 a0, i64 a1, sl a2.length (a2.map f32), sl a3.length (a3.map i64)]), (1, sl a4.length (a4.map f32)), (5, i64 a0), (6, oref 0 u1 0 L3.length), (7, i64 v4), (8, f32 x12), (9, i64 v8)]) (Γ' := [⟨u1, some (L3.map f32)⟩, ⟨u2, none⟩]) ⟨aR, aR, aR, aR, aR, aR, aR, trivial⟩ ⟨⟨rfl, .inr rfl⟩, ⟨rfl, .inl rfl⟩, trivial⟩ ?_
     obtain ⟨x13, hx9, h8_⟩ := olet_some h8_
     refine RunC.regionW ?_
     refine zM (r := i64 v8) rfl rfl rfl rfl rfl ?_
     refine zL (r := i64 x13) rfl rfl rfl (LOp.eqr (LOp.add rfl rfl rfl) (congrArg (ik .i64) hx9)) ?_
     refine zA (r := i64 x13) rfl rfl rfl rfl rfl ?_
     refine zN ?_
     cases Option.some.inj h8_
     exact ⟨_, rfl, ⟨aR, aR, aR, aR, aR, aR, aR, trivial⟩, ⟨⟨rfl, .inr rfl⟩, ⟨rfl, .inl rfl⟩, trivial⟩⟩
    ·refine RunC.regionW ?_
     refine zM (r := i64 v8) rfl rfl rfl rfl rfl ?_
     refine zM (r := i64 v4) rfl rfl rfl rfl rfl ?_
     refine zL (r := b false) rfl rfl rfl (LOp.eqb (LOp.lss rfl rfl rfl) hc4) ?_
     refine zN ?_
     refine RunC.cond_false rfl rfl ?_
     refine RunC.exit ?_
     cases Option.some.inj h8_
     have hx := ho8 _ rfl
     exact ⟨y7, ⟨aR, aR, aR, aR, aR, aR, trivial⟩, ⟨⟨rfl, .inr rfl⟩, ⟨rfl, .inl rfl⟩, trivial⟩, hx⟩
   ·rintro τ9 Γ9 ⟨y14, hw9, hd9, rfl⟩
    refine RunC.wl hw9 hd9 ?_
    replace h7_ : s_l03Solve_k2 L3 v4 y14 = some y7_ := h7_
    unfold s_l03Solve_k2 at h7_
    obtain ⟨hm10, h7_⟩ := need_some h7_
    refine RunC.regionW ?_
    refine zM (r := oref 0 u1 0 L3.length) rfl rfl rfl rfl rfl ?_
    refine zM (r := f32 y14) rfl rfl rfl rfl rfl ?_
    refine ROps.d (r := oref 1 (u2 + 1) 0 1) (fs := [(1, (([y14] : List F).map f32))]) (Γ' := [⟨u1, some (L3.map f32)⟩, ⟨(u2 + 1), some (([y14] : List F).map f32)⟩]) rfl rfl rfl (TOp.buildSlice_o (g := ⟨u2, none⟩) (za := f32 (some 0)) (qs := [(0, [f32 y14])]) 1 rfl und22 siz33 zer33 rfl zel33 rfl rfl ⟨rfl, ⟨_, ALe.refl _, rfl⟩, trivial⟩ rfl) rfl ?_
    refine ROps.app (f := f32) (xs := L3) (ys := ([y14] : List F)) (Γ' := [⟨(u1 + 1), some ((L3 ++ ([y14] : List F)).map f32)⟩, ⟨(u2 + 1), some (([y14] : List F).map f32)⟩]) rfl pun22 inf33 rfl rfl rfl rfl rfl rfl rfl rfl rfl (by simp) (ReadAs.own rfl (by simp)) (ones_map (fun _ => rfl)) (ap_by hm10) (ap_mx hm10) rfl ?_
    refine zA (r := oref 0 (u1 + 1) 0 (L3.length + 1)) rfl rfl rfl rfl rfl ?_
    refine zN ?_
    refine RunC.wl (τ' := [(0, ptr [i64 a0, i64 a1, sl a2.length (a2.map f32), sl a3.length (a3.map i64)]), (1, sl a4.length (a4.map f32)), (5, i64 a0), (6, oref 0 (u1 + 1) 0 (L3.length + 1)), (7, i64 v4)]) (Γ' := [⟨(u1 + 1), some ((L3 ++ ([y14] : List F)).map f32)⟩, ⟨(u2 + 1), none⟩]) ⟨aR, aR, aR, aR, aR, trivial⟩ ⟨⟨rfl, .inr rfl⟩, ⟨rfl, .inl rfl⟩, trivial⟩ ?_
    obtain ⟨x15, hx11, h7_⟩ := olet_some h7_
    refine RunC.regionW ?_
    refine zM (r := i64 v4) rfl rfl rfl rfl rfl ?_
    refine zL (r := i64 x15) rfl rfl rfl (LOp.eqr (LOp.add rfl rfl rfl) (congrArg (ik .i64) hx11)) ?_
    refine zA (r := i64 x15) rfl rfl rfl rfl rfl ?_
    refine zN ?_
    cases Option.some.inj h7_
    exact ⟨_, rfl, (u1 + 1), (u2 + 1), ⟨aR, aR, aR, (ALe.eq (by rw [(app_len rfl rfl)] <;> rfl)), aR, trivial⟩, ⟨⟨rfl, .inr rfl⟩, ⟨rfl, .inl rfl⟩, trivial⟩⟩
  ·refine RunC.regionW ?_
   refine zM (r := i64 v4) rfl rfl rfl rfl rfl ?_
   refine zM (r := i64 a0) rfl rfl rfl rfl rfl ?_
   refine zL (r := b false) rfl rfl rfl (LOp.eqb (LOp.lss rfl rfl rfl) hc1) ?_
   refine zN ?_
   refine RunC.cond_false rfl rfl ?_
   refine RunC.exit ?_
   cases Option.some.inj h7_
   have hx := ho7 _ rfl
   exact ⟨L3, u1, u2, ⟨aR, aR, aR, trivial⟩, ⟨⟨rfl, .inr rfl⟩, ⟨rfl, .inl rfl⟩, trivial⟩, hx⟩
 ·rintro τ10 Γ10 ⟨L18, u16, u17, hw10, hd10, rfl⟩
  refine RunC.wl hw10 hd10 ?_
  replace h : s_l03Solve_k3 a0 a1 a2 L18 = some q0 := h
  unfold s_l03Solve_k3 at h
  refine RunC.seq ?_
  refine RunC.seq ?_
  obtain ⟨x19, hx12, h⟩ := olet_some h
  refine RunC.regionW ?_
  refine zM (r := i64 a0) rfl rfl rfl rfl rfl ?_
  refine zL (r := i64 x19) rfl rfl rfl (LOp.eqr (LOp.sub rfl rfl rfl) (congrArg (ik .i64) hx12)) ?_
  refine zA (r := i64 x19) rfl rfl rfl rfl rfl ?_
  refine zN ?_
  obtain ⟨z11, hz_11, h⟩ := obind_some h
  refine RunC.cutN (fun τ Γ => ∃ (L38 : List F), L38.length = L18.length ∧ WeakLe τ [(6, oref 0 u16 0 L18.length)] ∧ DeadLe Γ [⟨u16, some (L38.map f32)⟩, ⟨u17, none⟩] ∧ z11 = .inl L38) ?_ ?_
  ·refine RunC.block (RunC.loop (RunL.loopM (x := z11) (s_l03Solve_s6 a0 a1 a2) (fun (s : (List F) × Int) τ Γ => s.1.length = L18.length ∧ WeakLe τ [(0, ptr [i64 a0, i64 a1, sl a2.length (a2.map f32), sl a3.length (a3.map i64)]), (5, i64 a0), (6, oref 0 u16 0 L18.length), (10, i64 s.2)] ∧ DeadLe Γ [⟨u16, some (s.1.map f32)⟩, ⟨u17, none⟩]) ?_ _ _ _ hz_11 ⟨rfl, ⟨aR, aR, aR, aR, trivial⟩, ⟨⟨rfl, .inr rfl⟩, ⟨rfl, .inl rfl⟩, trivial⟩⟩))
   rintro ⟨L20, v22⟩ τ11 Γ11 y11_ ⟨hl21, hw11, hd11⟩ h11_ ho11 hr11
   refine RunC.wl (τ' := [(0, ptr [i64 a0, i64 a1, sl a2.length (a2.map f32), sl a3.length (a3.map i64)]), (5, i64 a0), (6, oref 0 u16 0 L18.length), (10, i64 v22)]) (Γ' := [⟨u16, some (L20.map f32)⟩, ⟨u17, none⟩]) hw11 hd11 ?_
   replace hl21 : L20.length = L18.length := hl21
   replace h11_ : s_l03Solve_b6 a0 a1 a2 L20 v22 = some y11_ := h11_
   unfold s_l03Solve_b6 at h11_
   refine RunC.seq ?_
   refine RunC.seq ?_
   rcases bsel_some h11_ with ⟨hc13, h11_⟩ | ⟨hc13, h11_⟩
   ·refine RunC.regionW ?_
    refine zM (r := i64 v22) rfl rfl rfl rfl rfl ?_
    refine zL (r := b true) rfl rfl rfl (LOp.eqb (LOp.geq rfl rfl rfl) hc13) ?_
    refine zN ?_
    refine RunC.cond_true rfl rfl ?_
    refine RunC.skip ?_
    refine RunC.seq ?_
    refine RunC.block ?_
    refine RunC.seq ?_
    obtain ⟨e23, he14, h11_⟩ := obind_some h11_
    refine RunC.regionW ?_
    refine zM (r := oref 0 u16 0 L18.length) rfl rfl rfl rfl rfl ?_
    refine zM (r := i64 v22) rfl rfl rfl rfl rfl ?_
    refine ROps.d (r := optr 0 u16 v22.toNat) (fs := []) (Γ' := [⟨u16, some (L20.map f32)⟩, ⟨u17, none⟩]) rfl rfl rfl (TOp.ixo und22 siz33 rfl rfl rfl (at_in he14 hl21) rfl) rfl ?_
    refine ROps.d (r := f32 e23) (fs := []) (Γ' := [⟨u16, some (L20.map f32)⟩, ⟨u17, none⟩]) rfl rfl rfl (TOp.load1_o rfl (at_cell he14) agg33 rfl rfl) rfl ?_
    refine zA (r := f32 e23) rfl rfl rfl rfl rfl ?_
    refine zN ?_
    refine RunC.seq ?_
    refine RunC.seq ?_
    obtain ⟨x24, hx15, h11_⟩ := olet_some h11_
    refine RunC.regionW ?_
    refine zM (r := i64 v22) rfl rfl rfl rfl rfl ?_
    refine zL (r := i64 x24) rfl rfl rfl (LOp.eqr (LOp.add rfl rfl rfl) (congrArg (ik .i64) hx15)) ?_
    refine zA (r := i64 x24) rfl rfl rfl rfl rfl ?_
    refine zN ?_
    obtain ⟨z12, hz_12, h11_⟩ := obind_some h11_
    refine RunC.cutN (fun τ Γ => ∃ (y33 : F), L20.length = L18.length ∧ WeakLe τ [(0, ptr [i64 a0, i64 a1, sl a2.length (a2.map f32), sl a3.length (a3.map i64)]), (5, i64 a0), (6, oref 0 u16 0 L18.length), (10, i64 v22), (11, f32 y33)] ∧ DeadLe Γ [⟨u16, some (L20.map f32)⟩, ⟨u17, none⟩] ∧ z12 = .inl y33) ?_ ?_
    ·refine RunC.block (RunC.loop (RunL.loopM (x := z12) (s_l03Solve_s5 a0 a1 a2 L20 v22) (fun (s : F × Int) τ Γ => WeakLe τ [(0, ptr [i64 a0, i64 a1, sl a2.length (a2.map f32), sl a3.length (a3.map i64)]), (5, i64 a0), (6, oref 0 u16 0 L18.length), (10, i64 v22), (11, f32 s.1), (12, i64 s.2)] ∧ DeadLe Γ [⟨u16, some (L20.map f32)⟩, ⟨u17, none⟩]) ?_ _ _ _ hz_12 ⟨⟨aR, aR, aR, aR, aR, aR, trivial⟩, ⟨⟨rfl, .inr rfl⟩, ⟨rfl, .inl rfl⟩, trivial⟩⟩))
     rintro ⟨y25, v26⟩ τ12 Γ12 y12_ ⟨hw12, hd12⟩ h12_ ho12 hr12
     refine RunC.wl (τ' := [(0, ptr [i64 a0, i64 a1, sl a2.length (a2.map f32), sl a3.length (a3.map i64)]), (5, i64 a0), (6, oref 0 u16 0 L18.length), (10, i64 v22), (11, f32 y25), (12, i64 v26)]) (Γ' := [⟨u16, some (L20.map f32)⟩, ⟨u17, none⟩]) hw12 hd12 ?_
     replace h12_ : s_l03Solve_b5 a0 a1 a2 L20 v22 y25 v26 = some y12_ := h12_
     unfold s_l03Solve_b5 at h12_
     refine RunC.seq ?_
     refine RunC.seq ?_
     rcases bsel_some h12_ with ⟨hc16, h12_⟩ | ⟨hc16, h12_⟩
     ·refine RunC.regionW ?_
      refine zM (r := i64 v26) rfl rfl rfl rfl rfl ?_
      refine zM (r := i64 a0) rfl rfl rfl rfl rfl ?_
      refine zL (r := b true) rfl rfl rfl (LOp.eqb (LOp.lss rfl rfl rfl) hc16) ?_
      refine zN ?_
      refine RunC.cond_true rfl rfl ?_
      refine RunC.skip ?_
      refine RunC.seq ?_
      refine RunC.block ?_
      obtain ⟨r27, hf17, h12_⟩ := obind_some h12_
      obtain ⟨e28, he18, h12_⟩ := obind_some h12_
      obtain ⟨x29, hx19, h12_⟩ := olet_some h12_
      obtain ⟨x30, hx20, h12_⟩ := olet_some h12_
      refine RunC.region_draw (Γ' := [⟨u16, some (L20.map f32)⟩, ⟨u17, none⟩]) 14 mixed 
       (TR.l (r := f32 y25) rfl rfl (LOp.move rfl rfl) <|
       (TR.l (r := ptr [i64 a0, i64 a1, sl a2.length (a2.map f32), sl a3.length (a3.map i64)]) rfl rfl (LOp.move rfl rfl) <|
       (TR.l (r := ptr [i64 a0, i64 a1, sl a2.length (a2.map f32), sl a3.length (a3.map i64)]) rfl rfl (LOp.nilCheck_ptr rfl rfl) <|
       (TR.l (r := ptr [i64 a0, i64 a1, sl a2.length (a2.map f32), sl a3.length (a3.map i64)]) rfl rfl (LOp.fap und65 rfl siz26 rfl rfl rfl) <|
       (TR.l (r := i64 v22) rfl rfl (LOp.move rfl rfl) <|
       (TR.l (r := i64 v26) rfl rfl (LOp.move rfl rfl) <|
       (TR.d (r := f32 r27) (fs := []) rfl rfl (TOp.callB (CallAs.func ent21 rfl rfl) (Bors.cons (Bor.ptrT 3 (Bors.cons (Bor.pure rfl) (Bors.cons (Bor.pure rfl) (Bors.cons (Bor.sl (fun _ => rfl)) (Bors.cons (Bor.sl (fun _ => rfl)) Bors.nil)))) rfl) (Bors.cons (Bor.pure rfl) (Bors.cons (Bor.pure rfl) Bors.nil))) rfl rfl (s_l02At_ok a0 a1 a2 v22 v26 r27 hf17)) <|
       (TR.l (r := oref 0 u16 0 L18.length) rfl rfl (LOp.move rfl rfl) <|
       (TR.l (r := i64 v26) rfl rfl (LOp.move rfl rfl) <|
       (TR.d (r := optr 0 u16 v26.toNat) (fs := []) rfl rfl (TOp.ixo und22 siz33 rfl rfl rfl (at_in he18 hl21) rfl) <|
       (TR.d (r := f32 e28) (fs := []) rfl rfl (TOp.load1_o rfl (at_cell he18) agg33 rfl rfl) <|
       (TR.d (r := f32 x29) (fs := []) rfl rfl (TOp.eqr (TOp.fop (.inr (.inr (.inl rfl))) rfl (OpF.tmp rfl) (OpF.tmp rfl)) (congrArg (f .f32) hx19)) <|
       (TR.d (r := f32 x30) (fs := []) rfl rfl (TOp.eqr (TOp.fop (.inr (.inl rfl)) rfl (OpF.tmp rfl) (OpF.tmp rfl)) (congrArg (f .f32) hx20)) <|
       (TR.l (r := f32 x30) rfl rfl (LOp.assign rfl rfl) <|
       TR.nil)))))))))))))) rfl (by kernel_rfl) rfl fills_nil rfl ?_
      iterate 14 refine ROps.dropS ?_
      refine ROps.drop0 ?_
      refine zN ?_
      refine RunC.wl (τ' := [(0, ptr [i64 a0, i64 a1, sl a2.length (a2.map f32), sl a3.length (a3.map i64)]), (5, i64 a0), (6, oref 0 u16 0 L18.length), (10, i64 v22), (11, f32 x30), (12, i64 v26)]) (Γ' := [⟨u16, some (L20.map f32)⟩, ⟨u17, none⟩]) ⟨aR, aR, aR, aR, aR, aR, trivial⟩ ⟨⟨rfl, .inr rfl⟩, ⟨rfl, .inl rfl⟩, trivial⟩ ?_
      obtain ⟨x31, hx21, h12_⟩ := olet_some h12_
      refine RunC.regionW ?_
      refine zM (r := i64 v26) rfl rfl rfl rfl rfl ?_
      refine zL (r := i64 x31) rfl rfl rfl (LOp.eqr (LOp.add rfl rfl rfl) (congrArg (ik .i64) hx21)) ?_
      refine zA (r := i64 x31) rfl rfl rfl rfl rfl ?_
      refine zN ?_
      cases Option.some.inj h12_
      exact ⟨_, rfl, ⟨aR, aR, aR, aR, aR, aR, trivial⟩, ⟨⟨rfl, .inr rfl⟩, ⟨rfl, .inl rfl⟩, trivial⟩⟩
     ·refine RunC.regionW ?_
      refine zM (r := i64 v26) rfl rfl rfl rfl rfl ?_
      refine zM (r := i64 a0) rfl rfl rfl rfl rfl ?_
      refine zL (r := b false) rfl rfl rfl (LOp.eqb (LOp.lss rfl rfl rfl) hc16) ?_
      refine zN ?_
      refine RunC.cond_false rfl rfl ?_
      refine RunC.exit ?_
      cases Option.some.inj h12_
      have hx := ho12 _ rfl
      exact ⟨y25, hl21, ⟨aR, aR, aR, aR, aR, trivial⟩, ⟨⟨rfl, .inr rfl⟩, ⟨rfl, .inl rfl⟩, trivial⟩, hx⟩
    ·rintro τ13 Γ13 ⟨y33, hl32, hw13, hd13, rfl⟩
     refine RunC.wl hw13 hd13 ?_
     replace h11_ : s_l03Solve_k5 a0 a1 a2 L20 v22 y33 = some y11_ := h11_
     unfold s_l03Solve_k5 at h11_
     obtain ⟨r34, hf22, h11_⟩ := obind_some h11_
     obtain ⟨x35, hx23, h11_⟩ := olet_some h11_
     obtain ⟨L36, he24, h11_⟩ := obind_some h11_
     refine RunC.regionW ?_
     refine zM (r := oref 0 u16 0 L18.length) rfl rfl rfl rfl rfl ?_
     refine zM (r := i64 v22) rfl rfl rfl rfl rfl ?_
     refine zM (r := f32 y33) rfl rfl rfl rfl rfl ?_
     refine zM (r := ptr [i64 a0, i64 a1, sl a2.length (a2.map f32), sl a3.length (a3.map i64)]) rfl rfl rfl rfl rfl ?_
     refine zL (r := ptr [i64 a0, i64 a1, sl a2.length (a2.map f32), sl a3.length (a3.map i64)]) rfl rfl rfl (LOp.nilCheck_ptr rfl rfl) ?_
     refine zL (r := ptr [i64 a0, i64 a1, sl a2.length (a2.map f32), sl a3.length (a3.map i64)]) rfl rfl rfl (LOp.fap und65 rfl siz26 rfl rfl rfl) ?_
     refine zM (r := i64 v22) rfl rfl rfl rfl rfl ?_
     refine zM (r := i64 v22) rfl rfl rfl rfl rfl ?_
     refine ROps.d (r := f32 r34) (fs := []) (Γ' := [⟨u16, some (L20.map f32)⟩, ⟨u17, none⟩]) rfl rfl rfl (TOp.callB (CallAs.func ent21 rfl rfl) (Bors.cons (Bor.ptrT 3 (Bors.cons (Bor.pure rfl) (Bors.cons (Bor.pure rfl) (Bors.cons (Bor.sl (fun _ => rfl)) (Bors.cons (Bor.sl (fun _ => rfl)) Bors.nil)))) rfl) (Bors.cons (Bor.pure rfl) (Bors.cons (Bor.pure rfl) Bors.nil))) rfl rfl (s_l02At_ok a0 a1 a2 v22 v22 r34 hf22)) rfl ?_
     refine ROps.d (r := f32 x35) (fs := []) (Γ' := [⟨u16, some (L20.map f32)⟩, ⟨u17, none⟩]) rfl rfl rfl (TOp.eqr (TOp.fop (.inr (.inr (.inr rfl))) rfl (OpF.tmp rfl) (OpF.tmp rfl)) (congrArg (f .f32) hx23)) rfl ?_
     refine ROps.d (r := optr 0 u16 v22.toNat) (fs := []) (Γ' := [⟨u16, some (L20.map f32)⟩, ⟨u17, none⟩]) rfl rfl rfl (TOp.ixo und22 siz33 rfl rfl rfl (set_in he24 hl32) rfl) rfl ?_
     refine ROps.st (f := f32) (i := v22) (Γ' := [⟨u16, some (L36.map f32)⟩, ⟨u17, none⟩]) rfl siz33 rfl rfl rfl aR rfl rfl rfl he24 rfl ?_
     refine zN ?_
     obtain ⟨x37, hx25, h11_⟩ := olet_some h11_
     refine RunC.regionW ?_
     refine zM (r := i64 v22) rfl rfl rfl rfl rfl ?_
     refine zL (r := i64 x37) rfl rfl rfl (LOp.eqr (LOp.sub rfl rfl rfl) (congrArg (ik .i64) hx25)) ?_
     refine zA (r := i64 x37) rfl rfl rfl rfl rfl ?_
     refine zN ?_
     cases Option.some.inj h11_
     exact ⟨_, rfl, ((setAt?_len he24).trans hl32), ⟨aR, aR, aR, aR, trivial⟩, ⟨⟨rfl, .inr rfl⟩, ⟨rfl, .inl rfl⟩, trivial⟩⟩
   ·refine RunC.regionW ?_
    refine zM (r := i64 v22) rfl rfl rfl rfl rfl ?_
    refine zL (r := b false) rfl rfl rfl (LOp.eqb (LOp.geq rfl rfl rfl) hc13) ?_
    refine zN ?_
    refine RunC.cond_false rfl rfl ?_
    refine RunC.exit ?_
    cases Option.some.inj h11_
    have hx := ho11 _ rfl
    exact ⟨L20, hl21, ⟨aR, trivial⟩, ⟨⟨rfl, .inr rfl⟩, ⟨rfl, .inl rfl⟩, trivial⟩, hx⟩
  ·rintro τ14 Γ14 ⟨L38, hl39, hw14, hd14, rfl⟩
   refine RunC.wl hw14 hd14 ?_
   replace h : s_l03Solve_k6 L38 = some q0 := h
   unfold s_l03Solve_k6 at h
   refine zQ ?_
   refine zM (r := oref 0 u16 0 L18.length) rfl rfl rfl rfl rfl ?_
   refine zA (r := oref 0 u16 0 L18.length) rfl rfl rfl rfl rfl ?_
   refine zN ?_
   refine RunC.ret ?_
   have hq := Option.some.inj h
   subst q0
   exact bodyQ.mk (r' := oref 0 u16 0 L38.length) [(0, u16)] (.inr rfl) rfl (show List.Nodup [0] from by decide) (by simp [ren, rens, sigma]) rfl (Res.eq (Res.one rfl (RV.tmp rfl)) (by rw [(show L38.length = L18.length from hl39)] <;> rfl)) (SelL.arr0 (f := f32) (fun _ => rfl) rfl trivial)
noncomputable def s_l03Inverse_b2 (a0 : Int) (v8 : Int) (r10 : List F) (L11 : List F) (v13 : Int) : Option (LR ((List F) × Int) ((List F)) (Int × Int × (List F))) :=
 bsel (decide (v13 < a0)) (
  olet (IntKind.i64.wrap (v13 * a0)) fun (x14 : Int) =>
  olet (IntKind.i64.wrap (x14 + v8)) fun (x15 : Int) =>
  obind (at? r10 v13) fun (e16 : F) =>
  obind (setAt? L11 x15 e16) fun (L17 : List F) =>
  olet (IntKind.i64.wrap (v13 + 1)) fun (x18 : Int) =>
  some (LR.next (L17, x18))) (
  some (LR.out L11))
noncomputable def s_l03Inverse_s2 (a0 : Int) (v8 : Int) (r10 : List F) : ((List F) × Int) → Option (LR ((List F) × Int) ((List F)) (Int × Int × (List F))) := fun s => s_l03Inverse_b2 a0 v8 r10 s.1 s.2
noncomputable def s_l03Inverse_k2 (v8 : Int) (L19 : List F) : Option (LR ((List F) × Int) ((List F)) (Int × Int × (List F))) :=
 olet (IntKind.i64.wrap (v8 + 1)) fun (x21 : Int) =>
 some (LR.next (L19, x21))
noncomputable def s_l03Inverse_b3 (a0 : Int) (a1 : Int) (a2 : List F) (a3 : List Int) (L6 : List F) (v8 : Int) : Option (LR ((List F) × Int) ((List F)) (Int × Int × (List F))) :=
 bsel (decide (v8 < a0)) (
  need (mkok 4 a0) <|
  obind (setAt? (List.replicate a0.toNat (some 0)) v8 (some 1065353216)) fun (L9 : List F) =>
  obind (s_l03Solve a0 a1 a2 a3 L9) fun (r10 : List F) =>
  obind (loopM (s_l03Inverse_s2 a0 v8 r10) (L6, 0)) fun z => osum z (fun e => s_l03Inverse_k2 v8 e) (fun r => some (LR.ret r))) (
  some (LR.out L6))
noncomputable def s_l03Inverse_s3 (a0 : Int) (a1 : Int) (a2 : List F) (a3 : List Int) : ((List F) × Int) → Option (LR ((List F) × Int) ((List F)) (Int × Int × (List F))) := fun s => s_l03Inverse_b3 a0 a1 a2 a3 s.1 s.2
noncomputable def s_l03Inverse_k3 (r1 : Int) (r2 : Int) (L24 : List F) : Option (Int × Int × (List F)) :=
 some (r1, r2, L24)
noncomputable def s_l03Inverse (a0 : Int) (a1 : Int) (a2 : List F) (a3 : List Int) : Option (Int × Int × (List F)) :=
 obind3 (s_l02Zero a0 a0) fun (r1 : Int) (r2 : Int) (r3 : List F) =>
 obind (loopM (s_l03Inverse_s3 a0 a1 a2 a3) (r3, 0)) fun z => osum z (fun e => s_l03Inverse_k3 r1 r2 e) (fun r => some r)
theorem s_l03Inverse_ok (a0 : Int) (a1 : Int) (a2 : List F) (a3 : List Int) (q0 : Int) (q1 : Int) (q2 : List F) (h : s_l03Inverse a0 a1 a2 a3 = some (q0, q1, q2)) : Ev Tryz.prog 79 [ptr [i64 a0, i64 a1, sl a2.length (a2.map f32), sl a3.length (a3.map i64)]] [] (agg [i64 q0, i64 q1, oref 0 0 0 q2.length]) [⟨0, some (q2.map f32)⟩] := by
 refine Ev.start Tryz.func79 rfl rfl 5 (τ := [(0, ptr [i64 a0, i64 a1, sl a2.length (a2.map f32), sl a3.length (a3.map i64)])]) rfl (Γ' := [⟨0, none⟩, ⟨0, none⟩, ⟨0, none⟩, ⟨0, none⟩, ⟨0, none⟩]) rfl (n := 97) rfl (g := 0) rfl (fun _ => rfl) ?_
 unfold s_l03Inverse at h
 refine zQ ?_
 refine ROps.d (r := optr 0 1 0) (fs := [(0, [i64 0, i64 0, nilsl])]) (Γ' := [⟨1, some [i64 0, i64 0, nilsl]⟩, ⟨0, none⟩, ⟨0, none⟩, ⟨0, none⟩, ⟨0, none⟩]) rfl rfl rfl (TOp.alloc_o (g := ⟨0, none⟩) 0 rfl zer26 zok26 rfl) rfl ?_
 refine zN ?_
 refine zQ ?_
 refine zM (r := ptr [i64 a0, i64 a1, sl a2.length (a2.map f32), sl a3.length (a3.map i64)]) rfl rfl rfl rfl rfl ?_
 refine zL (r := ptr [i64 a0, i64 a1, sl a2.length (a2.map f32), sl a3.length (a3.map i64)]) rfl rfl rfl (LOp.nilCheck_ptr rfl rfl) ?_
 refine zL (r := ptr [i64 a0, i64 a1, sl a2.length (a2.map f32), sl a3.length (a3.map i64)]) rfl rfl rfl (LOp.fap und65 rfl siz26 rfl rfl rfl) ?_
 refine zL (r := ptr [i64 a0, i64 a1, sl a2.length (a2.map f32), sl a3.length (a3.map i64)]) rfl rfl rfl (LOp.fap und26 rfl siz2 rfl rfl rfl) ?_
 refine zL (r := i64 a0) rfl rfl rfl (LOp.load1 agg2 rfl rfl) ?_
 refine zA (r := i64 a0) rfl rfl rfl rfl rfl ?_
 refine zN ?_
 refine RunC.seq ?_
 obtain ⟨r1, r2, r3, hf1, h⟩ := obind3_some h
 refine RunC.regionW ?_
 refine zM (r := i64 a0) rfl rfl rfl rfl rfl ?_
 refine zM (r := i64 a0) rfl rfl rfl rfl rfl ?_
 refine ROps.d (r := agg [i64 r1, i64 r2, oref 1 1 0 r3.length]) (fs := [(1, (r3.map f32))]) (Γ' := [⟨1, some [i64 0, i64 0, nilsl]⟩, ⟨1, some (r3.map f32)⟩, ⟨0, none⟩, ⟨0, none⟩, ⟨0, none⟩]) rfl rfl rfl (TOp.callBN (ls := [(r3.map f32)]) [1] (CallAs.func ent20 rfl rfl) (Bors.cons (Bor.pure rfl) (Bors.cons (Bor.pure rfl) Bors.nil)) rfl (s_l02Zero_ok a0 a0 r1 r2 r3 hf1) (and_all (lts0_map (f := f32) (fun _ => rfl) _) rfl) (and_all (noss_map (f := f32) (fun _ => rfl) _) rfl) rfl (by decide) (ns_of ⟨⟨_, rfl⟩, trivial⟩)) rfl ?_
 refine ROps.d (r := optr 2 1 0) (fs := [(2, [i64 0, i64 0, nilsl])]) (Γ' := [⟨1, some [i64 0, i64 0, nilsl]⟩, ⟨1, some (r3.map f32)⟩, ⟨1, some [i64 0, i64 0, nilsl]⟩, ⟨0, none⟩, ⟨0, none⟩]) rfl rfl rfl (TOp.alloc_o (g := ⟨0, none⟩) 2 rfl zer26 zok26 rfl) rfl ?_
 refine ROps.store_le (r := agg [i64 r1, i64 r2, oref 1 1 0 r3.length]) (l' := [i64 r1, i64 r2, oref 1 1 0 r3.length]) (Γ' := [⟨1, some [i64 0, i64 0, nilsl]⟩, ⟨1, some (r3.map f32)⟩, ⟨1, some [i64 r1, i64 r2, oref 1 1 0 r3.length]⟩, ⟨0, none⟩, ⟨0, none⟩]) rfl siz26 rfl rfl rfl aR rfl rfl rfl rfl (Nat.le_of_ble_eq_true rfl) rfl rfl ?_
 refine zN ?_
 refine RunC.seq ?_
 refine zQ ?_
 refine zA (r := i64 0) rfl rfl rfl rfl rfl ?_
 refine zN ?_
 obtain ⟨z4, hz_4, h⟩ := obind_some h
 refine RunC.cutN (fun τ Γ => ∃ (L24 : List F) (u22 : Nat) (u23 : Nat), L24.length = r3.length ∧ WeakLe τ [(2, optr 0 1 0), (4, optr 2 1 0)] ∧ DeadLe Γ [⟨1, some [i64 0, i64 0, nilsl]⟩, ⟨1, some (L24.map f32)⟩, ⟨1, some [i64 r1, i64 r2, oref 1 1 0 r3.length]⟩, ⟨u22, none⟩, ⟨u23, none⟩] ∧ z4 = .inl L24) ?_ ?_
 ·refine RunC.block (RunC.loop (RunL.loopM (x := z4) (s_l03Inverse_s3 a0 a1 a2 a3) (fun (s : (List F) × Int) τ Γ => ∃ (u4 : Nat) (u5 : Nat), s.1.length = r3.length ∧ WeakLe τ [(0, ptr [i64 a0, i64 a1, sl a2.length (a2.map f32), sl a3.length (a3.map i64)]), (2, optr 0 1 0), (3, i64 a0), (4, optr 2 1 0), (5, i64 s.2)] ∧ DeadLe Γ [⟨1, some [i64 0, i64 0, nilsl]⟩, ⟨1, some (s.1.map f32)⟩, ⟨1, some [i64 r1, i64 r2, oref 1 1 0 r3.length]⟩, ⟨u4, none⟩, ⟨u5, none⟩]) ?_ _ _ _ hz_4 ⟨0, 0, rfl, ⟨aR, aR, aR, aR, aR, trivial⟩, ⟨⟨rfl, .inr rfl⟩, ⟨rfl, .inr rfl⟩, ⟨rfl, .inr rfl⟩, ⟨rfl, .inl rfl⟩, ⟨rfl, .inl rfl⟩, trivial⟩⟩))
  rintro ⟨L6, v8⟩ τ4 Γ4 y4_ ⟨u4, u5, hl7, hw4, hd4⟩ h4_ ho4 hr4
  refine RunC.wl (τ' := [(0, ptr [i64 a0, i64 a1, sl a2.length (a2.map f32), sl a3.length (a3.map i64)]), (2, optr 0 1 0), (3, i64 a0), (4, optr 2 1 0), (5, i64 v8)]) (Γ' := [⟨1, some [i64 0, i64 0, nilsl]⟩, ⟨1, some (L6.map f32)⟩, ⟨1, some [i64 r1, i64 r2, oref 1 1 0 r3.length]⟩, ⟨u4, none⟩, ⟨u5, none⟩]) hw4 hd4 ?_
  replace hl7 : L6.length = r3.length := hl7
  replace h4_ : s_l03Inverse_b3 a0 a1 a2 a3 L6 v8 = some y4_ := h4_
  unfold s_l03Inverse_b3 at h4_
  refine RunC.seq ?_
  refine RunC.seq ?_
  rcases bsel_some h4_ with ⟨hc2, h4_⟩ | ⟨hc2, h4_⟩
  ·refine RunC.regionW ?_
   refine zM (r := i64 v8) rfl rfl rfl rfl rfl ?_
   refine zM (r := i64 a0) rfl rfl rfl rfl rfl ?_
   refine zL (r := b true) rfl rfl rfl (LOp.eqb (LOp.lss rfl rfl rfl) hc2) ?_
   refine zN ?_
   refine RunC.cond_true rfl rfl ?_
   refine RunC.skip ?_
   refine RunC.seq ?_
   refine RunC.block ?_
   refine RunC.seq ?_
   obtain ⟨hm3, h4_⟩ := need_some h4_
   refine RunC.regionW ?_
   refine zM (r := i64 a0) rfl rfl rfl rfl rfl ?_
   refine ROps.d (r := oref 3 (u4 + 1) 0 a0.toNat) (fs := [(3, ((List.replicate a0.toNat (some 0)).map f32))]) (Γ' := [⟨1, some [i64 0, i64 0, nilsl]⟩, ⟨1, some (L6.map f32)⟩, ⟨1, some [i64 r1, i64 r2, oref 1 1 0 r3.length]⟩, ⟨(u4 + 1), some ((List.replicate a0.toNat (some 0)).map f32)⟩, ⟨u5, none⟩]) rfl rfl rfl (TOp.mkS (g := ⟨u4, none⟩) (t := 22) (e := 33) (by_ := 4) (f := f32) (zv := some 0) 3 rfl und22 tin33 rfl siz33 zer33 rfl zel33 rfl rfl rfl hm3) rfl ?_
   refine zA (r := oref 3 (u4 + 1) 0 a0.toNat) rfl rfl rfl rfl rfl ?_
   refine zN ?_
   refine RunC.seq ?_
   obtain ⟨L9, he4, h4_⟩ := obind_some h4_
   refine RunC.regionW ?_
   refine zM (r := oref 3 (u4 + 1) 0 a0.toNat) rfl rfl rfl rfl rfl ?_
   refine zM (r := i64 v8) rfl rfl rfl rfl rfl ?_
   refine ROps.d (r := optr 3 (u4 + 1) v8.toNat) (fs := []) (Γ' := [⟨1, some [i64 0, i64 0, nilsl]⟩, ⟨1, some (L6.map f32)⟩, ⟨1, some [i64 r1, i64 r2, oref 1 1 0 r3.length]⟩, ⟨(u4 + 1), some ((List.replicate a0.toNat (some 0)).map f32)⟩, ⟨u5, none⟩]) rfl rfl rfl (TOp.ixo und22 siz33 rfl rfl rfl (set_in he4 List.length_replicate) rfl) rfl ?_
   refine ROps.st (f := f32) (i := v8) (Γ' := [⟨1, some [i64 0, i64 0, nilsl]⟩, ⟨1, some (L6.map f32)⟩, ⟨1, some [i64 r1, i64 r2, oref 1 1 0 r3.length]⟩, ⟨(u4 + 1), some (L9.map f32)⟩, ⟨u5, none⟩]) rfl siz33 rfl rfl rfl (ALe.fl (by kernel_rfl) (by kernel_rfl)) rfl rfl rfl he4 rfl ?_
   refine zN ?_
   refine RunC.seq ?_
   obtain ⟨r10, hf5, h4_⟩ := obind_some h4_
   refine RunC.regionW ?_
   refine zM (r := ptr [i64 a0, i64 a1, sl a2.length (a2.map f32), sl a3.length (a3.map i64)]) rfl rfl rfl rfl rfl ?_
   refine zM (r := oref 3 (u4 + 1) 0 a0.toNat) rfl rfl rfl rfl rfl ?_
   refine ROps.d (r := oref 4 (u5 + 1) 0 r10.length) (fs := [(4, (r10.map f32))]) (Γ' := [⟨1, some [i64 0, i64 0, nilsl]⟩, ⟨1, some (L6.map f32)⟩, ⟨1, some [i64 r1, i64 r2, oref 1 1 0 r3.length]⟩, ⟨(u4 + 1), some (L9.map f32)⟩, ⟨(u5 + 1), some (r10.map f32)⟩]) rfl rfl rfl (TOp.eqr (TOp.callBN (ls := [(r10.map f32)]) [4] (CallAs.func ent118 rfl rfl) (Bors.cons (Bor.ptr (Bors.cons (Bor.pure rfl) (Bors.cons (Bor.pure rfl) (Bors.cons (Bor.sl (fun _ => rfl)) (Bors.cons (Bor.sl (fun _ => rfl)) Bors.nil))))) (Bors.cons (Bor.own (f := f32) (fun _ => rfl) rfl ((setAt?_len he4).trans List.length_replicate)) Bors.nil)) rfl (s_l03Solve_ok a0 a1 a2 a3 L9 r10 hf5) (and_all (lts0_map (f := f32) (fun _ => rfl) _) rfl) (and_all (noss_map (f := f32) (fun _ => rfl) _) rfl) rfl (by decide) (ns_of ⟨⟨_, rfl⟩, trivial⟩)) (by simp [ren, rens, sigma, newNames])) rfl ?_
   refine zA (r := oref 4 (u5 + 1) 0 r10.length) rfl rfl rfl rfl rfl ?_
   refine zN ?_
   refine RunC.wl (τ' := [(0, ptr [i64 a0, i64 a1, sl a2.length (a2.map f32), sl a3.length (a3.map i64)]), (2, optr 0 1 0), (3, i64 a0), (4, optr 2 1 0), (5, i64 v8), (7, oref 4 (u5 + 1) 0 r10.length)]) (Γ' := [⟨1, some [i64 0, i64 0, nilsl]⟩, ⟨1, some (L6.map f32)⟩, ⟨1, some [i64 r1, i64 r2, oref 1 1 0 r3.length]⟩, ⟨(u4 + 1), none⟩, ⟨(u5 + 1), some (r10.map f32)⟩]) ⟨aR, aR, aR, aR, aR, aR, trivial⟩ ⟨⟨rfl, .inr rfl⟩, ⟨rfl, .inr rfl⟩, ⟨rfl, .inr rfl⟩, ⟨rfl, .inl rfl⟩, ⟨rfl, .inr rfl⟩, trivial⟩ ?_
   refine zQ ?_
   refine zA (r := i64 0) rfl rfl rfl rfl rfl ?_
   refine zN ?_
   obtain ⟨z5, hz_5, h4_⟩ := obind_some h4_
   refine RunC.cutN (fun τ Γ => ∃ (L19 : List F), L19.length = r3.length ∧ WeakLe τ [(0, ptr [i64 a0, i64 a1, sl a2.length (a2.map f32), sl a3.length (a3.map i64)]), (2, optr 0 1 0), (3, i64 a0), (4, optr 2 1 0), (5, i64 v8)] ∧ DeadLe Γ [⟨1, some [i64 0, i64 0, nilsl]⟩, ⟨1, some (L19.map f32)⟩, ⟨1, some [i64 r1, i64 r2, oref 1 1 0 r3.length]⟩, ⟨(u4 + 1), none⟩, ⟨(u5 + 1), none⟩] ∧ z5 = .inl L19) ?_ ?_
   ·refine RunC.block (RunC.loop (RunL.loopM (x := z5) (s_l03Inverse_s2 a0 v8 r10) (fun (s : (List F) × Int) τ Γ => s.1.length = r3.length ∧ WeakLe τ [(0, ptr [i64 a0, i64 a1, sl a2.length (a2.map f32), sl a3.length (a3.map i64)]), (2, optr 0 1 0), (3, i64 a0), (4, optr 2 1 0), (5, i64 v8), (7, oref 4 (u5 + 1) 0 r10.length), (8, i64 s.2)] ∧ DeadLe Γ [⟨1, some [i64 0, i64 0, nilsl]⟩, ⟨1, some (s.1.map f32)⟩, ⟨1, some [i64 r1, i64 r2, oref 1 1 0 r3.length]⟩, ⟨(u4 + 1), none⟩, ⟨(u5 + 1), some (r10.map f32)⟩]) ?_ _ _ _ hz_5 ⟨hl7, ⟨aR, aR, aR, aR, aR, aR, aR, trivial⟩, ⟨⟨rfl, .inr rfl⟩, ⟨rfl, .inr rfl⟩, ⟨rfl, .inr rfl⟩, ⟨rfl, .inl rfl⟩, ⟨rfl, .inr rfl⟩, trivial⟩⟩))
    rintro ⟨L11, v13⟩ τ5 Γ5 y5_ ⟨hl12, hw5, hd5⟩ h5_ ho5 hr5
    refine RunC.wl (τ' := [(0, ptr [i64 a0, i64 a1, sl a2.length (a2.map f32), sl a3.length (a3.map i64)]), (2, optr 0 1 0), (3, i64 a0), (4, optr 2 1 0), (5, i64 v8), (7, oref 4 (u5 + 1) 0 r10.length), (8, i64 v13)]) (Γ' := [⟨1, some [i64 0, i64 0, nilsl]⟩, ⟨1, some (L11.map f32)⟩, ⟨1, some [i64 r1, i64 r2, oref 1 1 0 r3.length]⟩, ⟨(u4 + 1), none⟩, ⟨(u5 + 1), some (r10.map f32)⟩]) hw5 hd5 ?_
    replace hl12 : L11.length = r3.length := hl12
    replace h5_ : s_l03Inverse_b2 a0 v8 r10 L11 v13 = some y5_ := h5_
    unfold s_l03Inverse_b2 at h5_
    refine RunC.seq ?_
    refine RunC.seq ?_
    rcases bsel_some h5_ with ⟨hc6, h5_⟩ | ⟨hc6, h5_⟩
    ·refine RunC.regionW ?_
     refine zM (r := i64 v13) rfl rfl rfl rfl rfl ?_
     refine zM (r := i64 a0) rfl rfl rfl rfl rfl ?_
     refine zL (r := b true) rfl rfl rfl (LOp.eqb (LOp.lss rfl rfl rfl) hc6) ?_
     refine zN ?_
     refine RunC.cond_true rfl rfl ?_
     refine RunC.skip ?_
     refine RunC.seq ?_
     refine RunC.block ?_
     obtain ⟨x14, hx7, h5_⟩ := olet_some h5_
     obtain ⟨x15, hx8, h5_⟩ := olet_some h5_
     obtain ⟨e16, he9, h5_⟩ := obind_some h5_
     obtain ⟨L17, he10, h5_⟩ := obind_some h5_
     refine RunC.region_draw (Γ' := [⟨1, some [i64 0, i64 0, nilsl]⟩, ⟨1, some (L11.map f32)⟩, ⟨1, some [i64 r1, i64 r2, oref 1 1 0 r3.length]⟩, ⟨(u4 + 1), none⟩, ⟨(u5 + 1), some (r10.map f32)⟩]) 12 mixed 
      (TR.l (r := optr 2 1 2) rfl rfl (LOp.fao und26 rfl siz22 rfl rfl rfl) <|
      (TR.d (r := oref 1 1 0 r3.length) (fs := []) rfl rfl (TOp.load1_o rfl rfl agg22 rfl rfl) <|
      (TR.l (r := i64 v13) rfl rfl (LOp.move rfl rfl) <|
      (TR.l (r := i64 a0) rfl rfl (LOp.move rfl rfl) <|
      (TR.l (r := i64 x14) rfl rfl (LOp.eqr (LOp.mul rfl rfl rfl) (congrArg (ik .i64) hx7)) <|
      (TR.l (r := i64 v8) rfl rfl (LOp.move rfl rfl) <|
      (TR.l (r := i64 x15) rfl rfl (LOp.eqr (LOp.add rfl rfl rfl) (congrArg (ik .i64) hx8)) <|
      (TR.l (r := oref 4 (u5 + 1) 0 r10.length) rfl rfl (LOp.move rfl rfl) <|
      (TR.l (r := i64 v13) rfl rfl (LOp.move rfl rfl) <|
      (TR.d (r := optr 4 (u5 + 1) v13.toNat) (fs := []) rfl rfl (TOp.ixo und22 siz33 rfl rfl rfl (at_in he9 rfl) rfl) <|
      (TR.d (r := f32 e16) (fs := []) rfl rfl (TOp.load1_o rfl (at_cell he9) agg33 rfl rfl) <|
      (TR.d (r := optr 1 1 x15.toNat) (fs := []) rfl rfl (TOp.ixo und22 siz33 rfl rfl rfl (set_in he10 hl12) rfl) <|
      TR.nil)))))))))))) rfl (by kernel_rfl) rfl fills_nil rfl ?_
     iterate 12 refine ROps.dropS ?_
     refine ROps.drop0 ?_
     refine ROps.st (f := f32) (i := x15) (Γ' := [⟨1, some [i64 0, i64 0, nilsl]⟩, ⟨1, some (L17.map f32)⟩, ⟨1, some [i64 r1, i64 r2, oref 1 1 0 r3.length]⟩, ⟨(u4 + 1), none⟩, ⟨(u5 + 1), some (r10.map f32)⟩]) rfl siz33 rfl rfl rfl aR rfl rfl rfl he10 rfl ?_
     refine zN ?_
     refine RunC.wl (τ' := [(0, ptr [i64 a0, i64 a1, sl a2.length (a2.map f32), sl a3.length (a3.map i64)]), (2, optr 0 1 0), (3, i64 a0), (4, optr 2 1 0), (5, i64 v8), (7, oref 4 (u5 + 1) 0 r10.length), (8, i64 v13)]) (Γ' := [⟨1, some [i64 0, i64 0, nilsl]⟩, ⟨1, some (L17.map f32)⟩, ⟨1, some [i64 r1, i64 r2, oref 1 1 0 r3.length]⟩, ⟨(u4 + 1), none⟩, ⟨(u5 + 1), some (r10.map f32)⟩]) ⟨aR, aR, aR, aR, aR, aR, aR, trivial⟩ ⟨⟨rfl, .inr rfl⟩, ⟨rfl, .inr rfl⟩, ⟨rfl, .inr rfl⟩, ⟨rfl, .inl rfl⟩, ⟨rfl, .inr rfl⟩, trivial⟩ ?_
     obtain ⟨x18, hx11, h5_⟩ := olet_some h5_
     refine RunC.regionW ?_
     refine zM (r := i64 v13) rfl rfl rfl rfl rfl ?_
     refine zL (r := i64 x18) rfl rfl rfl (LOp.eqr (LOp.add rfl rfl rfl) (congrArg (ik .i64) hx11)) ?_
     refine zA (r := i64 x18) rfl rfl rfl rfl rfl ?_
     refine zN ?_
     cases Option.some.inj h5_
     exact ⟨_, rfl, ((setAt?_len he10).trans hl12), ⟨aR, aR, aR, aR, aR, aR, aR, trivial⟩, ⟨⟨rfl, .inr rfl⟩, ⟨rfl, .inr rfl⟩, ⟨rfl, .inr rfl⟩, ⟨rfl, .inl rfl⟩, ⟨rfl, .inr rfl⟩, trivial⟩⟩
    ·refine RunC.regionW ?_
     refine zM (r := i64 v13) rfl rfl rfl rfl rfl ?_
     refine zM (r := i64 a0) rfl rfl rfl rfl rfl ?_
     refine zL (r := b false) rfl rfl rfl (LOp.eqb (LOp.lss rfl rfl rfl) hc6) ?_
     refine zN ?_
     refine RunC.cond_false rfl rfl ?_
     refine RunC.exit ?_
     cases Option.some.inj h5_
     have hx := ho5 _ rfl
     exact ⟨L11, hl12, ⟨aR, aR, aR, aR, aR, trivial⟩, ⟨⟨rfl, .inr rfl⟩, ⟨rfl, .inr rfl⟩, ⟨rfl, .inr rfl⟩, ⟨rfl, .inl rfl⟩, ⟨rfl, .inl rfl⟩, trivial⟩, hx⟩
   ·rintro τ6 Γ6 ⟨L19, hl20, hw6, hd6, rfl⟩
    refine RunC.wl hw6 hd6 ?_
    replace h4_ : s_l03Inverse_k2 v8 L19 = some y4_ := h4_
    unfold s_l03Inverse_k2 at h4_
    obtain ⟨x21, hx12, h4_⟩ := olet_some h4_
    refine RunC.regionW ?_
    refine zM (r := i64 v8) rfl rfl rfl rfl rfl ?_
    refine zL (r := i64 x21) rfl rfl rfl (LOp.eqr (LOp.add rfl rfl rfl) (congrArg (ik .i64) hx12)) ?_
    refine zA (r := i64 x21) rfl rfl rfl rfl rfl ?_
    refine zN ?_
    cases Option.some.inj h4_
    exact ⟨_, rfl, (u4 + 1), (u5 + 1), hl20, ⟨aR, aR, aR, aR, aR, trivial⟩, ⟨⟨rfl, .inr rfl⟩, ⟨rfl, .inr rfl⟩, ⟨rfl, .inr rfl⟩, ⟨rfl, .inl rfl⟩, ⟨rfl, .inl rfl⟩, trivial⟩⟩
  ·refine RunC.regionW ?_
   refine zM (r := i64 v8) rfl rfl rfl rfl rfl ?_
   refine zM (r := i64 a0) rfl rfl rfl rfl rfl ?_
   refine zL (r := b false) rfl rfl rfl (LOp.eqb (LOp.lss rfl rfl rfl) hc2) ?_
   refine zN ?_
   refine RunC.cond_false rfl rfl ?_
   refine RunC.exit ?_
   cases Option.some.inj h4_
   have hx := ho4 _ rfl
   exact ⟨L6, u4, u5, hl7, ⟨aR, aR, trivial⟩, ⟨⟨rfl, .inr rfl⟩, ⟨rfl, .inr rfl⟩, ⟨rfl, .inr rfl⟩, ⟨rfl, .inl rfl⟩, ⟨rfl, .inl rfl⟩, trivial⟩, hx⟩
 ·rintro τ7 Γ7 ⟨L24, u22, u23, hl25, hw7, hd7, rfl⟩
  refine RunC.wl hw7 hd7 ?_
  replace h : s_l03Inverse_k3 r1 r2 L24 = some (q0, q1, q2) := h
  unfold s_l03Inverse_k3 at h
  refine zQ ?_
  refine ROps.d (r := agg [i64 r1, i64 r2, oref 1 1 0 r3.length]) (fs := []) (Γ' := [⟨1, some [i64 0, i64 0, nilsl]⟩, ⟨1, some (L24.map f32)⟩, ⟨1, some [i64 r1, i64 r2, oref 1 1 0 r3.length]⟩, ⟨u22, none⟩, ⟨u23, none⟩]) rfl rfl rfl (TOp.loadAgg_o rfl agg26 siz26 rfl rfl rfl rfl) rfl ?_
  refine ROps.store_le (r := agg [i64 r1, i64 r2, oref 1 1 0 r3.length]) (l' := [i64 r1, i64 r2, oref 1 1 0 r3.length]) (Γ' := [⟨1, some [i64 r1, i64 r2, oref 1 1 0 r3.length]⟩, ⟨1, some (L24.map f32)⟩, ⟨1, some [i64 r1, i64 r2, oref 1 1 0 r3.length]⟩, ⟨u22, none⟩, ⟨u23, none⟩]) rfl siz26 rfl rfl rfl aR rfl rfl rfl rfl (Nat.le_of_ble_eq_true rfl) rfl rfl ?_
  refine zN ?_
  refine RunC.ret ?_
  have hq := Option.some.inj h
  obtain ⟨hq0, hq⟩ := Prod.mk.inj hq
  obtain ⟨hq1, hq⟩ := Prod.mk.inj hq
  subst q0
  subst q1
  subst q2
  exact bodyQ.mk (r' := agg [i64 r1, i64 r2, oref 1 1 0 L24.length]) [(1, 1)] (.inr rfl) rfl (show List.Nodup [1] from by decide) rfl rfl (Res.eq (Res.one rfl (RV.cell agg26 siz26 rfl rfl rfl rfl)) (by rw [(show L24.length = r3.length from hl25)] <;> rfl)) (SelL.arr0 (f := f32) (fun _ => rfl) rfl trivial)
noncomputable def s_l02Give_02o (a0 : Int) (a1 : Int) (a2 : List F) : Option ((Int × Int × Bool × (List F)) ⊕ (Int × Int × Bool × (List F) × (List F))) :=
 obind (s_l02Is a0 a1 a2) fun (r1 : Bool) =>
 bsel r1 (
  some (Sum.inl (a0, a1, true, a2))) (
  some (Sum.inr (0, 0, false, a2, ([] : List F))))
theorem s_l02Give_02o_ok0 (a0 : Int) (a1 : Int) (a2 : List F) (q0 : Int) (q1 : Int) (q2 : Bool) (q3 : List F) (h : s_l02Give_02o a0 a1 a2 = some (Sum.inl (q0, q1, q2, q3))) : Ev Tryz.prog 22 [agg [i64 a0, i64 a1, oref 0 0 0 a2.length]] [⟨0, some (a2.map f32)⟩] (tup [agg [i64 q0, i64 q1, oref 0 0 0 q3.length], b q2]) [⟨0, some (q3.map f32)⟩] := by
 refine Ev.start Tryz.func22 rfl rfl 2 (τ := [(0, agg [i64 a0, i64 a1, oref 0 0 0 a2.length])]) rfl (Γ' := [⟨0, some (a2.map f32)⟩, ⟨0, none⟩, ⟨0, none⟩]) rfl (n := 16) rfl (g := 1) rfl (by decide) ?_
 unfold s_l02Give_02o at h
 refine zQ ?_
 refine ROps.d (r := ptr [i64 a0, i64 a1, oref 0 0 0 a2.length]) (fs := []) (Γ' := [⟨0, some (a2.map f32)⟩, ⟨0, none⟩, ⟨0, none⟩]) rfl rfl rfl (TOp.box_s rfl rfl rfl) rfl ?_
 refine ROps.d (r := optr 1 1 0) (fs := [(1, [i64 0, i64 0, nilsl])]) (Γ' := [⟨0, some (a2.map f32)⟩, ⟨1, some [i64 0, i64 0, nilsl]⟩, ⟨0, none⟩]) rfl rfl rfl (TOp.alloc_o (g := ⟨0, none⟩) 1 rfl zer26 zok26 rfl) rfl ?_
 refine zA (r := b false) rfl rfl rfl rfl rfl ?_
 refine zN ?_
 refine RunC.seq ?_
 refine RunC.seq ?_
 obtain ⟨r1, hf1, h⟩ := obind_some h
 rcases bsel_some h with ⟨hc2, h⟩ | ⟨hc2, h⟩
 ·refine RunC.regionW ?_
  refine ROps.d (r := b true) (fs := []) (Γ' := [⟨0, some (a2.map f32)⟩, ⟨1, some [i64 0, i64 0, nilsl]⟩, ⟨0, none⟩]) rfl rfl rfl (TOp.eqb (TOp.callB (CallAs.func ent48 rfl rfl) (Bors.cons (Bor.ptr (Bors.cons (Bor.pure rfl) (Bors.cons (Bor.pure rfl) (Bors.cons (Bor.own (f := f32) (fun _ => rfl) rfl rfl) Bors.nil)))) Bors.nil) rfl rfl (s_l02Is_ok a0 a1 a2 r1 hf1)) hc2) rfl ?_
  refine zL (r := b false) rfl rfl rfl (LOp.eqb (LOp.not rfl rfl) rfl) ?_
  refine zN ?_
  refine RunC.cond_false rfl rfl ?_
  refine RunC.skip ?_
  refine zQ ?_
  refine zL (r := agg [i64 a0, i64 a1, oref 0 0 0 a2.length]) rfl rfl rfl (LOp.loadAgg agg26 siz26 rfl rfl rfl rfl) ?_
  refine ROps.store_le (r := agg [i64 a0, i64 a1, oref 0 0 0 a2.length]) (l' := [i64 a0, i64 a1, oref 0 0 0 a2.length]) (Γ' := [⟨0, some (a2.map f32)⟩, ⟨1, some [i64 a0, i64 a1, oref 0 0 0 a2.length]⟩, ⟨0, none⟩]) rfl siz26 rfl rfl rfl aR rfl rfl rfl rfl (Nat.le_of_ble_eq_true rfl) rfl rfl ?_
  refine zA (r := b true) rfl rfl rfl rfl rfl ?_
  refine zN ?_
  refine RunC.ret ?_
  have hq := Option.some.inj h
  have hq := Sum.inl.inj hq
  obtain ⟨hq0, hq⟩ := Prod.mk.inj hq
  obtain ⟨hq1, hq⟩ := Prod.mk.inj hq
  obtain ⟨hq2, hq⟩ := Prod.mk.inj hq
  subst q0
  subst q1
  subst q2
  subst q3
  exact bodyQ.mk (r' := tup [agg [i64 a0, i64 a1, oref 0 0 0 a2.length], b true]) [(0, 0)] (.inr rfl) rfl (show List.Nodup [0] from by decide) rfl rfl (Res.two rfl (RV.cell agg26 siz26 rfl rfl rfl rfl) (RV.tmp rfl)) (SelL.arr (f := f32) (fun _ => rfl) rfl trivial)
 ·refine RunC.regionW ?_
  refine ROps.d (r := b false) (fs := []) (Γ' := [⟨0, some (a2.map f32)⟩, ⟨1, some [i64 0, i64 0, nilsl]⟩, ⟨0, none⟩]) rfl rfl rfl (TOp.eqb (TOp.callB (CallAs.func ent48 rfl rfl) (Bors.cons (Bor.ptr (Bors.cons (Bor.pure rfl) (Bors.cons (Bor.pure rfl) (Bors.cons (Bor.own (f := f32) (fun _ => rfl) rfl rfl) Bors.nil)))) Bors.nil) rfl rfl (s_l02Is_ok a0 a1 a2 r1 hf1)) hc2) rfl ?_
  refine zL (r := b true) rfl rfl rfl (LOp.eqb (LOp.not rfl rfl) rfl) ?_
  refine zN ?_
  refine RunC.cond_true rfl rfl ?_
  refine zQ ?_
  refine zL (r := agg [i64 0, i64 0, nilsl]) rfl rfl rfl (LOp.build (qs := []) zer26 zok26 und26 plc26 rfl trivial rfl) ?_
  refine ROps.store_le (r := agg [i64 0, i64 0, nilsl]) (l' := [i64 0, i64 0, nilsl]) (Γ' := [⟨0, some (a2.map f32)⟩, ⟨1, some [i64 0, i64 0, nilsl]⟩, ⟨0, none⟩]) rfl siz26 rfl rfl rfl aR rfl rfl rfl rfl (Nat.le_of_ble_eq_true rfl) rfl rfl ?_
  refine zA (r := b false) rfl rfl rfl rfl rfl ?_
  refine zN ?_
  cases Option.some.inj h
theorem s_l02Give_02o_ok1 (a0 : Int) (a1 : Int) (a2 : List F) (q0 : Int) (q1 : Int) (q2 : Bool) (q3 : List F) (q4 : List F) (h : s_l02Give_02o a0 a1 a2 = some (Sum.inr (q0, q1, q2, q3, q4))) : Ev Tryz.prog 22 [agg [i64 a0, i64 a1, oref 0 0 0 a2.length]] [⟨0, some (a2.map f32)⟩] (tup [agg [i64 q0, i64 q1, oref 1 0 0 q4.length], b q2]) [⟨0, some (q3.map f32)⟩, ⟨0, some (q4.map f32)⟩] := by
 refine Ev.start Tryz.func22 rfl rfl 2 (τ := [(0, agg [i64 a0, i64 a1, oref 0 0 0 a2.length])]) rfl (Γ' := [⟨0, some (a2.map f32)⟩, ⟨0, none⟩, ⟨0, none⟩]) rfl (n := 16) rfl (g := 1) rfl (by decide) ?_
 unfold s_l02Give_02o at h
 refine zQ ?_
 refine ROps.d (r := ptr [i64 a0, i64 a1, oref 0 0 0 a2.length]) (fs := []) (Γ' := [⟨0, some (a2.map f32)⟩, ⟨0, none⟩, ⟨0, none⟩]) rfl rfl rfl (TOp.box_s rfl rfl rfl) rfl ?_
 refine ROps.d (r := optr 1 1 0) (fs := [(1, [i64 0, i64 0, nilsl])]) (Γ' := [⟨0, some (a2.map f32)⟩, ⟨1, some [i64 0, i64 0, nilsl]⟩, ⟨0, none⟩]) rfl rfl rfl (TOp.alloc_o (g := ⟨0, none⟩) 1 rfl zer26 zok26 rfl) rfl ?_
 refine zA (r := b false) rfl rfl rfl rfl rfl ?_
 refine zN ?_
 refine RunC.seq ?_
 refine RunC.seq ?_
 obtain ⟨r1, hf1, h⟩ := obind_some h
 rcases bsel_some h with ⟨hc2, h⟩ | ⟨hc2, h⟩
 ·refine RunC.regionW ?_
  refine ROps.d (r := b true) (fs := []) (Γ' := [⟨0, some (a2.map f32)⟩, ⟨1, some [i64 0, i64 0, nilsl]⟩, ⟨0, none⟩]) rfl rfl rfl (TOp.eqb (TOp.callB (CallAs.func ent48 rfl rfl) (Bors.cons (Bor.ptr (Bors.cons (Bor.pure rfl) (Bors.cons (Bor.pure rfl) (Bors.cons (Bor.own (f := f32) (fun _ => rfl) rfl rfl) Bors.nil)))) Bors.nil) rfl rfl (s_l02Is_ok a0 a1 a2 r1 hf1)) hc2) rfl ?_
  refine zL (r := b false) rfl rfl rfl (LOp.eqb (LOp.not rfl rfl) rfl) ?_
  refine zN ?_
  refine RunC.cond_false rfl rfl ?_
  refine RunC.skip ?_
  refine zQ ?_
  refine zL (r := agg [i64 a0, i64 a1, oref 0 0 0 a2.length]) rfl rfl rfl (LOp.loadAgg agg26 siz26 rfl rfl rfl rfl) ?_
  refine ROps.store_le (r := agg [i64 a0, i64 a1, oref 0 0 0 a2.length]) (l' := [i64 a0, i64 a1, oref 0 0 0 a2.length]) (Γ' := [⟨0, some (a2.map f32)⟩, ⟨1, some [i64 a0, i64 a1, oref 0 0 0 a2.length]⟩, ⟨0, none⟩]) rfl siz26 rfl rfl rfl aR rfl rfl rfl rfl (Nat.le_of_ble_eq_true rfl) rfl rfl ?_
  refine zA (r := b true) rfl rfl rfl rfl rfl ?_
  refine zN ?_
  cases Option.some.inj h
 ·refine RunC.regionW ?_
  refine ROps.d (r := b false) (fs := []) (Γ' := [⟨0, some (a2.map f32)⟩, ⟨1, some [i64 0, i64 0, nilsl]⟩, ⟨0, none⟩]) rfl rfl rfl (TOp.eqb (TOp.callB (CallAs.func ent48 rfl rfl) (Bors.cons (Bor.ptr (Bors.cons (Bor.pure rfl) (Bors.cons (Bor.pure rfl) (Bors.cons (Bor.own (f := f32) (fun _ => rfl) rfl rfl) Bors.nil)))) Bors.nil) rfl rfl (s_l02Is_ok a0 a1 a2 r1 hf1)) hc2) rfl ?_
  refine zL (r := b true) rfl rfl rfl (LOp.eqb (LOp.not rfl rfl) rfl) ?_
  refine zN ?_
  refine RunC.cond_true rfl rfl ?_
  refine zQ ?_
  refine zL (r := agg [i64 0, i64 0, nilsl]) rfl rfl rfl (LOp.build (qs := []) zer26 zok26 und26 plc26 rfl trivial rfl) ?_
  refine ROps.store_le (r := agg [i64 0, i64 0, nilsl]) (l' := [i64 0, i64 0, nilsl]) (Γ' := [⟨0, some (a2.map f32)⟩, ⟨1, some [i64 0, i64 0, nilsl]⟩, ⟨0, none⟩]) rfl siz26 rfl rfl rfl aR rfl rfl rfl rfl (Nat.le_of_ble_eq_true rfl) rfl rfl ?_
  refine zA (r := b false) rfl rfl rfl rfl rfl ?_
  refine zN ?_
  refine RunC.nil_cell (l' := [i64 0, i64 0, oref 2 1 0 0]) (Γ' := [⟨0, some (a2.map f32)⟩, ⟨1, some [i64 0, i64 0, oref 2 1 0 0]⟩, ⟨1, some (([] : List F).map f32)⟩]) 1 2 2 rfl rfl rfl rfl rfl ?_
  refine RunC.ret ?_
  have hq := Option.some.inj h
  have hq := Sum.inr.inj hq
  obtain ⟨hq0, hq⟩ := Prod.mk.inj hq
  obtain ⟨hq1, hq⟩ := Prod.mk.inj hq
  obtain ⟨hq2, hq⟩ := Prod.mk.inj hq
  obtain ⟨hq3, hq⟩ := Prod.mk.inj hq
  subst q0
  subst q1
  subst q2
  subst q3
  subst q4
  exact bodyQ.mk (r' := tup [agg [i64 0, i64 0, oref 2 1 0 (([] : List F).length)], b false]) [(0, 0), (2, 1)] (.inr rfl) rfl (show List.Nodup [0, 2] from by decide) rfl rfl (Res.eq (Res.two rfl (RV.cell agg26 siz26 rfl rfl rfl rfl) (RV.tmp rfl)) (by rw [(show ([] : List F).length = 0 from rfl)] <;> rfl)) (SelL.arr (f := f32) (fun _ => rfl) rfl (SelL.arr0 (f := f32) (fun _ => rfl) rfl trivial))
noncomputable def s_FactorInverse (a0 : Int) (a1 : Int) (a2 : List F) (a3 : List Int) : Option (Int × Int × Bool × (List F)) :=
 obind (s_l03Is a0 a1 a2 a3) fun (r1 : Bool) =>
 bsel r1 (
  obind3 (s_l03Inverse a0 a1 a2 a3) fun (r2 : Int) (r3 : Int) (r4 : List F) =>
  obind (s_l02Give_02o r2 r3 r4) (fun z => osum z (fun y => obind4 (some y) fun (r5 : Int) (r6 : Int) (r7 : Bool) (r8 : List F) =>
   need (decide (r8.length = r4.length)) <|
   some (r5, r6, r7, r8)) (fun y => obind5 (some y) fun (r9 : Int) (r10 : Int) (r11 : Bool) (r12 : List F) (r13 : List F) =>
   need (decide (r12.length = r4.length)) <|
   some (r9, r10, r11, r13)))) (
  some (0, 0, false, ([] : List F)))
theorem s_FactorInverse_ok (a0 : Int) (a1 : Int) (a2 : List F) (a3 : List Int) (q0 : Int) (q1 : Int) (q2 : Bool) (q3 : List F) (h : s_FactorInverse a0 a1 a2 a3 = some (q0, q1, q2, q3)) : Ev Tryz.prog 41 [agg [i64 a0, i64 a1, sl a2.length (a2.map f32), sl a3.length (a3.map i64)]] [] (tup [agg [i64 q0, i64 q1, oref 0 0 0 q3.length], b q2]) [⟨0, some (q3.map f32)⟩] := by
 refine Ev.start Tryz.func41 rfl rfl 3 (τ := [(0, agg [i64 a0, i64 a1, sl a2.length (a2.map f32), sl a3.length (a3.map i64)])]) rfl (Γ' := [⟨0, none⟩, ⟨0, none⟩, ⟨0, none⟩]) rfl (n := 23) rfl (g := 0) rfl (fun _ => rfl) ?_
 unfold s_FactorInverse at h
 refine zQ ?_
 refine ROps.d (r := ptr [i64 a0, i64 a1, sl a2.length (a2.map f32), sl a3.length (a3.map i64)]) (fs := []) (Γ' := [⟨0, none⟩, ⟨0, none⟩, ⟨0, none⟩]) rfl rfl rfl (TOp.box_s rfl rfl rfl) rfl ?_
 refine ROps.d (r := optr 0 1 0) (fs := [(0, [i64 0, i64 0, nilsl])]) (Γ' := [⟨1, some [i64 0, i64 0, nilsl]⟩, ⟨0, none⟩, ⟨0, none⟩]) rfl rfl rfl (TOp.alloc_o (g := ⟨0, none⟩) 0 rfl zer26 zok26 rfl) rfl ?_
 refine zA (r := b false) rfl rfl rfl rfl rfl ?_
 refine zN ?_
 refine RunC.seq ?_
 refine RunC.seq ?_
 obtain ⟨r1, hf1, h⟩ := obind_some h
 rcases bsel_some h with ⟨hc2, h⟩ | ⟨hc2, h⟩
 ·refine RunC.regionW ?_
  refine ROps.d (r := b true) (fs := []) (Γ' := [⟨1, some [i64 0, i64 0, nilsl]⟩, ⟨0, none⟩, ⟨0, none⟩]) rfl rfl rfl (TOp.eqb (TOp.callB (CallAs.func ent78 rfl rfl) (Bors.cons (Bor.ptr (Bors.cons (Bor.pure rfl) (Bors.cons (Bor.pure rfl) (Bors.cons (Bor.sl (fun _ => rfl)) (Bors.cons (Bor.sl (fun _ => rfl)) Bors.nil))))) Bors.nil) rfl rfl (s_l03Is_ok a0 a1 a2 a3 r1 hf1)) hc2) rfl ?_
  refine zL (r := b false) rfl rfl rfl (LOp.eqb (LOp.not rfl rfl) rfl) ?_
  refine zN ?_
  refine RunC.cond_false rfl rfl ?_
  refine RunC.skip ?_
  refine RunC.seq ?_
  obtain ⟨r2, r3, r4, hf3, h⟩ := obind3_some h
  obtain ⟨z1, hf4, h⟩ := obind_some h
  rcases z1 with z1 | z1
  ·replace h := (osum_inl _ _ _).symm.trans h
   obtain ⟨r5, r6, r7, r8, hz2, h⟩ := obind4_some h
   cases hz2
   obtain ⟨hn5, h⟩ := need_some h
   refine RunC.regionW ?_
   refine ROps.d (r := agg [i64 r2, i64 r3, oref 1 1 0 r4.length]) (fs := [(1, (r4.map f32))]) (Γ' := [⟨1, some [i64 0, i64 0, nilsl]⟩, ⟨1, some (r4.map f32)⟩, ⟨0, none⟩]) rfl rfl rfl (TOp.callBN (ls := [(r4.map f32)]) [1] (CallAs.func ent79 rfl rfl) (Bors.cons (Bor.ptr (Bors.cons (Bor.pure rfl) (Bors.cons (Bor.pure rfl) (Bors.cons (Bor.sl (fun _ => rfl)) (Bors.cons (Bor.sl (fun _ => rfl)) Bors.nil))))) Bors.nil) rfl (s_l03Inverse_ok a0 a1 a2 a3 r2 r3 r4 hf3) (and_all (lts0_map (f := f32) (fun _ => rfl) _) rfl) (and_all (noss_map (f := f32) (fun _ => rfl) _) rfl) rfl (by decide) (ns_of ⟨⟨_, rfl⟩, trivial⟩)) rfl ?_
   refine ROps.callO (A := [agg [i64 r2, i64 r3, oref 1 1 0 r4.length]]) (args := [agg [i64 r2, i64 r3, oref 0 0 0 r4.length]]) (Γc := [⟨0, some (r4.map f32)⟩]) (Γc' := [⟨0, some (r8.map f32)⟩]) (r' := tup [agg [i64 r5, i64 r6, oref 1 1 0 r4.length], b r7]) (Γ' := [⟨1, some [i64 0, i64 0, nilsl]⟩, ⟨1, some (r8.map f32)⟩, ⟨0, none⟩]) [(1, 1)] [] rfl (CallAs.func ent22 rfl rfl) rfl rfl (SelOk.of (show List.Nodup [1] from by decide) (SelL.arr0 (f := f32) (fun _ => rfl) rfl trivial)) (live_of ⟨⟨_, _, rfl⟩, trivial⟩) (by simp [ren, rens, sigma, rens_f32, rens_f64, rens_i64, rens_ik, rens_str, rens_cp]) rfl (s_l02Give_02o_ok0 r2 r3 r4 r5 r6 r7 r8 hf4) rfl (news_of trivial) (show List.Nodup [1] from by decide) (by simp [ren, rens, sigma, of_decide_eq_true hn5]) (by simp [backOb, sigma, ren, rens, rens_f32, rens_f64, rens_i64, rens_ik, rens_str, rens_cp]) ?_
   refine zL (r := agg [i64 r5, i64 r6, oref 1 1 0 r4.length]) rfl rfl rfl (LOp.extract rfl rfl rfl) ?_
   refine zL (r := b r7) rfl rfl rfl (LOp.extract rfl rfl rfl) ?_
   refine ROps.store_le (r := agg [i64 r5, i64 r6, oref 1 1 0 r4.length]) (l' := [i64 r5, i64 r6, oref 1 1 0 r4.length]) (Γ' := [⟨1, some [i64 r5, i64 r6, oref 1 1 0 r4.length]⟩, ⟨1, some (r8.map f32)⟩, ⟨0, none⟩]) rfl siz26 rfl rfl rfl aR rfl rfl rfl rfl (Nat.le_of_ble_eq_true rfl) rfl rfl ?_
   refine zA (r := b r7) rfl rfl rfl rfl rfl ?_
   refine zN ?_
   refine RunC.ret ?_
   have hq := Option.some.inj h
   obtain ⟨hq0, hq⟩ := Prod.mk.inj hq
   obtain ⟨hq1, hq⟩ := Prod.mk.inj hq
   obtain ⟨hq2, hq⟩ := Prod.mk.inj hq
   subst q0
   subst q1
   subst q2
   subst q3
   exact bodyQ.mk (r' := tup [agg [i64 r5, i64 r6, oref 1 1 0 r8.length], b r7]) [(1, 1)] (.inr rfl) rfl (show List.Nodup [1] from by decide) rfl rfl (Res.eq (Res.two rfl (RV.cell agg26 siz26 rfl rfl rfl rfl) (RV.tmp rfl)) (by rw [(show r8.length = r4.length from (of_decide_eq_true hn5))] <;> rfl)) (SelL.arr0 (f := f32) (fun _ => rfl) rfl trivial)
  ·replace h := (osum_inr _ _ _).symm.trans h
   obtain ⟨r9, r10, r11, r12, r13, hz3, h⟩ := obind5_some h
   cases hz3
   obtain ⟨hn6, h⟩ := need_some h
   refine RunC.regionW ?_
   refine ROps.d (r := agg [i64 r2, i64 r3, oref 1 1 0 r4.length]) (fs := [(1, (r4.map f32))]) (Γ' := [⟨1, some [i64 0, i64 0, nilsl]⟩, ⟨1, some (r4.map f32)⟩, ⟨0, none⟩]) rfl rfl rfl (TOp.callBN (ls := [(r4.map f32)]) [1] (CallAs.func ent79 rfl rfl) (Bors.cons (Bor.ptr (Bors.cons (Bor.pure rfl) (Bors.cons (Bor.pure rfl) (Bors.cons (Bor.sl (fun _ => rfl)) (Bors.cons (Bor.sl (fun _ => rfl)) Bors.nil))))) Bors.nil) rfl (s_l03Inverse_ok a0 a1 a2 a3 r2 r3 r4 hf3) (and_all (lts0_map (f := f32) (fun _ => rfl) _) rfl) (and_all (noss_map (f := f32) (fun _ => rfl) _) rfl) rfl (by decide) (ns_of ⟨⟨_, rfl⟩, trivial⟩)) rfl ?_
   refine ROps.callO (A := [agg [i64 r2, i64 r3, oref 1 1 0 r4.length]]) (args := [agg [i64 r2, i64 r3, oref 0 0 0 r4.length]]) (Γc := [⟨0, some (r4.map f32)⟩]) (Γc' := [⟨0, some (r12.map f32)⟩, ⟨0, some (r13.map f32)⟩]) (r' := tup [agg [i64 r9, i64 r10, oref 2 1 0 r13.length], b r11]) (Γ' := [⟨1, some [i64 0, i64 0, nilsl]⟩, ⟨1, some (r12.map f32)⟩, ⟨1, some (r13.map f32)⟩]) [(1, 1)] [(2, 1)] rfl (CallAs.func ent22 rfl rfl) rfl rfl (SelOk.of (show List.Nodup [1] from by decide) (SelL.arr0 (f := f32) (fun _ => rfl) rfl trivial)) (live_of ⟨⟨_, _, rfl⟩, trivial⟩) (by simp [ren, rens, sigma, rens_f32, rens_f64, rens_i64, rens_ik, rens_str, rens_cp]) rfl (s_l02Give_02o_ok1 r2 r3 r4 r9 r10 r11 r12 r13 hf4) rfl (news_of ⟨⟨_, rfl, rfl⟩, trivial⟩) (show List.Nodup [1, 2] from by decide) (by simp [ren, rens, sigma, of_decide_eq_true hn6]) (by simp [backOb, sigma, ren, rens, rens_f32, rens_f64, rens_i64, rens_ik, rens_str, rens_cp]) ?_
   refine zL (r := agg [i64 r9, i64 r10, oref 2 1 0 r13.length]) rfl rfl rfl (LOp.extract rfl rfl rfl) ?_
   refine zL (r := b r11) rfl rfl rfl (LOp.extract rfl rfl rfl) ?_
   refine ROps.store_le (r := agg [i64 r9, i64 r10, oref 2 1 0 r13.length]) (l' := [i64 r9, i64 r10, oref 2 1 0 r13.length]) (Γ' := [⟨1, some [i64 r9, i64 r10, oref 2 1 0 r13.length]⟩, ⟨1, some (r12.map f32)⟩, ⟨1, some (r13.map f32)⟩]) rfl siz26 rfl rfl rfl aR rfl rfl rfl rfl (Nat.le_of_ble_eq_true rfl) rfl rfl ?_
   refine zA (r := b r11) rfl rfl rfl rfl rfl ?_
   refine zN ?_
   refine RunC.ret ?_
   have hq := Option.some.inj h
   obtain ⟨hq0, hq⟩ := Prod.mk.inj hq
   obtain ⟨hq1, hq⟩ := Prod.mk.inj hq
   obtain ⟨hq2, hq⟩ := Prod.mk.inj hq
   subst q0
   subst q1
   subst q2
   subst q3
   exact bodyQ.mk (r' := tup [agg [i64 r9, i64 r10, oref 2 1 0 r13.length], b r11]) [(2, 1)] (.inr rfl) rfl (show List.Nodup [2] from by decide) rfl rfl (Res.two rfl (RV.cell agg26 siz26 rfl rfl rfl rfl) (RV.tmp rfl)) (SelL.arr0 (f := f32) (fun _ => rfl) rfl trivial)
 ·refine RunC.regionW ?_
  refine ROps.d (r := b false) (fs := []) (Γ' := [⟨1, some [i64 0, i64 0, nilsl]⟩, ⟨0, none⟩, ⟨0, none⟩]) rfl rfl rfl (TOp.eqb (TOp.callB (CallAs.func ent78 rfl rfl) (Bors.cons (Bor.ptr (Bors.cons (Bor.pure rfl) (Bors.cons (Bor.pure rfl) (Bors.cons (Bor.sl (fun _ => rfl)) (Bors.cons (Bor.sl (fun _ => rfl)) Bors.nil))))) Bors.nil) rfl rfl (s_l03Is_ok a0 a1 a2 a3 r1 hf1)) hc2) rfl ?_
  refine zL (r := b true) rfl rfl rfl (LOp.eqb (LOp.not rfl rfl) rfl) ?_
  refine zN ?_
  refine RunC.cond_true rfl rfl ?_
  refine zQ ?_
  refine zL (r := agg [i64 0, i64 0, nilsl]) rfl rfl rfl (LOp.build (qs := []) zer26 zok26 und26 plc26 rfl trivial rfl) ?_
  refine ROps.store_le (r := agg [i64 0, i64 0, nilsl]) (l' := [i64 0, i64 0, nilsl]) (Γ' := [⟨1, some [i64 0, i64 0, nilsl]⟩, ⟨0, none⟩, ⟨0, none⟩]) rfl siz26 rfl rfl rfl aR rfl rfl rfl rfl (Nat.le_of_ble_eq_true rfl) rfl rfl ?_
  refine zA (r := b false) rfl rfl rfl rfl rfl ?_
  refine zN ?_
  refine RunC.nil_cell (l' := [i64 0, i64 0, oref 1 1 0 0]) (Γ' := [⟨1, some [i64 0, i64 0, oref 1 1 0 0]⟩, ⟨1, some (([] : List F).map f32)⟩, ⟨0, none⟩]) 0 2 1 rfl rfl rfl rfl rfl ?_
  refine RunC.ret ?_
  have hq := Option.some.inj h
  obtain ⟨hq0, hq⟩ := Prod.mk.inj hq
  obtain ⟨hq1, hq⟩ := Prod.mk.inj hq
  obtain ⟨hq2, hq⟩ := Prod.mk.inj hq
  subst q0
  subst q1
  subst q2
  subst q3
  exact bodyQ.mk (r' := tup [agg [i64 0, i64 0, oref 1 1 0 (([] : List F).length)], b false]) [(1, 1)] (.inr rfl) rfl (show List.Nodup [1] from by decide) rfl rfl (Res.eq (Res.two rfl (RV.cell agg26 siz26 rfl rfl rfl rfl) (RV.tmp rfl)) (by rw [(show ([] : List F).length = 0 from rfl)] <;> rfl)) (SelL.arr0 (f := f32) (fun _ => rfl) rfl trivial)
noncomputable def s_l02Blank (a0 : Int) (a1 : Int) : Option (Int × Int × (List F)) :=
 some (a0, a1, ([] : List F))
theorem s_l02Blank_ok (a0 : Int) (a1 : Int) (q0 : Int) (q1 : Int) (q2 : List F) (h : s_l02Blank a0 a1 = some (q0, q1, q2)) : Ev Tryz.prog 119 [i64 a0, i64 a1] [] (agg [i64 q0, i64 q1, oref 0 0 0 q2.length]) [⟨0, some (q2.map f32)⟩] := by
 refine Ev.start Tryz.func119 rfl rfl 2 (τ := [(0, i64 a0), (1, i64 a1)]) rfl (Γ' := [⟨0, none⟩, ⟨0, none⟩]) rfl (n := 19) rfl (g := 0) rfl (fun _ => rfl) ?_
 unfold s_l02Blank at h
 refine zQ ?_
 refine ROps.d (r := optr 0 1 0) (fs := [(0, [i64 0, i64 0, nilsl])]) (Γ' := [⟨1, some [i64 0, i64 0, nilsl]⟩, ⟨0, none⟩]) rfl rfl rfl (TOp.alloc_o (g := ⟨0, none⟩) 0 rfl zer26 zok26 rfl) rfl ?_
 refine zN ?_
 refine zQ ?_
 refine zM (r := i64 a0) rfl rfl rfl rfl rfl ?_
 refine zM (r := i64 a1) rfl rfl rfl rfl rfl ?_
 refine ROps.d (r := oref 1 1 0 0) (fs := [(1, (([] : List F).map f32))]) (Γ' := [⟨1, some [i64 0, i64 0, nilsl]⟩, ⟨1, some (([] : List F).map f32)⟩]) rfl rfl rfl (TOp.buildSlice_o (g := ⟨0, none⟩) (za := f32 (some 0)) (qs := []) 1 rfl und22 siz33 zer33 rfl zel33 rfl rfl trivial rfl) rfl ?_
 refine zL (r := agg [i64 a0, i64 a1, oref 1 1 0 0]) rfl rfl rfl (LOp.build (qs := [(0, [i64 a0]), (1, [i64 a1]), (2, [oref 1 1 0 0])]) zer26 zok26 und26 plc26 rfl ⟨rfl, ⟨_, ALe.refl _, rfl⟩, ⟨rfl, ⟨_, ALe.refl _, rfl⟩, ⟨rfl, ⟨_, ALe.refl _, rfl⟩, trivial⟩⟩⟩ rfl) ?_
 refine ROps.store_le (r := agg [i64 a0, i64 a1, oref 1 1 0 0]) (l' := [i64 a0, i64 a1, oref 1 1 0 0]) (Γ' := [⟨1, some [i64 a0, i64 a1, oref 1 1 0 0]⟩, ⟨1, some (([] : List F).map f32)⟩]) rfl siz26 rfl rfl rfl aR rfl rfl rfl rfl (Nat.le_of_ble_eq_true rfl) rfl rfl ?_
 refine zN ?_
 refine RunC.ret ?_
 have hq := Option.some.inj h
 obtain ⟨hq0, hq⟩ := Prod.mk.inj hq
 obtain ⟨hq1, hq⟩ := Prod.mk.inj hq
 subst q0
 subst q1
 subst q2
 exact bodyQ.mk (r' := agg [i64 a0, i64 a1, oref 1 1 0 (([] : List F).length)]) [(1, 1)] (.inr rfl) rfl (show List.Nodup [1] from by decide) rfl rfl (Res.eq (Res.one rfl (RV.cell agg26 siz26 rfl rfl rfl rfl)) (by rw [(show ([] : List F).length = 0 from rfl)] <;> rfl)) (SelL.arr0 (f := f32) (fun _ => rfl) rfl trivial)
end Go.Proofs.YtcoookgeialmnaaGreat
