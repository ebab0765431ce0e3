/- Generated. -/
import Derived.Test.YtcoookgeialmnaaGreatTys
namespace Go.Proofs.YtcoookgeialmnaaGreat
open Go Go.AM Go.AM.AV
set_option maxRecDepth 20000
set_option maxHeartbeats 4000000
set_option linter.unusedVariables false
set_option linter.unusedSimpArgs false
noncomputable def w_szFloat32S (a0 : List F) (a1 : Int) : Option (Int) :=
 olet (IntKind.i64.wrap (a1 - (a0.length : Int))) fun (x1 : Int) =>
 bsel (decide (x1 < 0)) (
  some (-1)) (
  some x1)
theorem w_szFloat32S_ok (a0 : List F) (a1 : Int) (q0 : Int) (h : w_szFloat32S a0 a1 = some q0) : Ev Tryz.prog 15 [sl a0.length (a0.map f32), i64 a1] [] (i64 q0) [] := by
 refine Ev.start Tryz.func15 rfl rfl 0 (τ := [(0, sl a0.length (a0.map f32)), (1, i64 a1)]) rfl (Γ' := []) rfl (n := 25) rfl (g := 0) rfl (fun _ => rfl) ?_
 unfold w_szFloat32S at h
 refine zQ ?_
 refine zA (r := i64 0) rfl rfl rfl rfl rfl ?_
 refine zN ?_
 refine RunC.seq ?_
 obtain ⟨x1, hx1, h⟩ := olet_some h
 refine RunC.regionW ?_
 refine zM (r := i64 a1) rfl rfl rfl rfl rfl ?_
 refine zM (r := sl a0.length (a0.map f32)) rfl rfl rfl rfl rfl ?_
 refine zL (r := i64 (a0.length : Int)) rfl rfl rfl (LOp.len_sl und22 rfl rfl) ?_
 refine zL (r := i64 x1) rfl rfl rfl (LOp.eqr (LOp.sub rfl rfl rfl) (congrArg (ik .i64) hx1)) ?_
 refine zA (r := i64 x1) rfl rfl rfl rfl rfl ?_
 refine zN ?_
 refine RunC.seq ?_
 refine RunC.seq ?_
 rcases bsel_some h with ⟨hc2, h⟩ | ⟨hc2, h⟩
 ·refine RunC.regionW ?_
  refine zM (r := i64 x1) rfl rfl rfl rfl rfl ?_
  refine zL (r := b true) rfl rfl rfl (LOp.eqb (LOp.lss rfl rfl rfl) hc2) ?_
  refine zN ?_
  refine RunC.cond_true rfl rfl ?_
  refine zQ ?_
  refine zA (r := i64 (-1)) rfl rfl rfl rfl rfl ?_
  refine zN ?_
  refine RunC.ret ?_
  have hq := Option.some.inj h
  subst q0
  exact bodyQ.pure (.inr rfl) rfl (Res.one rfl (RV.tmp rfl))
 ·refine RunC.regionW ?_
  refine zM (r := i64 x1) rfl rfl rfl rfl rfl ?_
  refine zL (r := b false) rfl rfl rfl (LOp.eqb (LOp.lss rfl rfl rfl) hc2) ?_
  refine zN ?_
  refine RunC.cond_false rfl rfl ?_
  refine RunC.skip ?_
  refine zQ ?_
  refine zM (r := i64 x1) rfl rfl rfl rfl rfl ?_
  refine zA (r := i64 x1) rfl rfl rfl rfl rfl ?_
  refine zN ?_
  refine RunC.ret ?_
  have hq := Option.some.inj h
  subst q0
  exact bodyQ.pure (.inr rfl) rfl (Res.one rfl (RV.tmp rfl))
noncomputable def w_szMatrix (a0 : Int) (a1 : Int) (a2 : List F) (a3 : Int) : Option (Int) :=
 obind (w_szFloat32S a2 a3) fun (r1 : Int) =>
 bsel (decide (r1 < 0)) (
  some (-1)) (
  some r1)
theorem w_szMatrix_ok (a0 : Int) (a1 : Int) (a2 : List F) (a3 : Int) (q0 : Int) (h : w_szMatrix a0 a1 a2 a3 = some q0) : Ev Tryz.prog 5 [agg [i64 a0, i64 a1, sl a2.length (a2.map f32)], i64 a3] [] (i64 q0) [] := by
 refine Ev.start Tryz.func5 rfl rfl 0 (τ := [(0, agg [i64 a0, i64 a1, sl a2.length (a2.map f32)]), (1, i64 a3)]) rfl (Γ' := []) rfl (n := 25) rfl (g := 0) rfl (fun _ => rfl) ?_
 unfold w_szMatrix at h
 refine zQ ?_
 refine ROps.d (r := ptr [i64 a0, i64 a1, sl a2.length (a2.map f32)]) (fs := []) (Γ' := []) rfl rfl rfl (TOp.box_s rfl rfl rfl) rfl ?_
 refine zA (r := i64 0) rfl rfl rfl rfl rfl ?_
 refine zN ?_
 refine RunC.seq ?_
 obtain ⟨r1, hf1, h⟩ := obind_some h
 refine RunC.regionW ?_
 refine zL (r := ptr [sl a2.length (a2.map f32)]) rfl rfl rfl (LOp.fap und24 rfl siz22 rfl rfl rfl) ?_
 refine zL (r := sl a2.length (a2.map f32)) rfl rfl rfl (LOp.load1 agg22 rfl rfl) ?_
 refine zM (r := i64 a3) rfl rfl rfl rfl rfl ?_
 refine ROps.d (r := i64 r1) (fs := []) (Γ' := []) rfl rfl rfl (TOp.callB (CallAs.func ent15 rfl rfl) (Bors.cons (Bor.sl (fun _ => rfl)) (Bors.cons (Bor.pure rfl) Bors.nil)) rfl rfl (w_szFloat32S_ok a2 a3 r1 hf1)) rfl ?_
 refine zA (r := i64 r1) rfl rfl rfl rfl rfl ?_
 refine zN ?_
 refine RunC.seq ?_
 refine RunC.seq ?_
 rcases bsel_some h with ⟨hc2, h⟩ | ⟨hc2, h⟩
 ·refine RunC.regionW ?_
  refine zM (r := i64 r1) rfl rfl rfl rfl rfl ?_
  refine zL (r := b true) rfl rfl rfl (LOp.eqb (LOp.lss rfl rfl rfl) hc2) ?_
  refine zN ?_
  refine RunC.cond_true rfl rfl ?_
  refine zQ ?_
  refine zA (r := i64 (-1)) rfl rfl rfl rfl rfl ?_
  refine zN ?_
  refine RunC.ret ?_
  have hq := Option.some.inj h
  subst q0
  exact bodyQ.pure (.inr rfl) rfl (Res.one rfl (RV.tmp rfl))
 ·refine RunC.regionW ?_
  refine zM (r := i64 r1) rfl rfl rfl rfl rfl ?_
  refine zL (r := b false) rfl rfl rfl (LOp.eqb (LOp.lss rfl rfl rfl) hc2) ?_
  refine zN ?_
  refine RunC.cond_false rfl rfl ?_
  refine RunC.skip ?_
  refine zQ ?_
  refine zM (r := i64 r1) rfl rfl rfl rfl rfl ?_
  refine zA (r := i64 r1) rfl rfl rfl rfl rfl ?_
  refine zN ?_
  refine RunC.ret ?_
  have hq := Option.some.inj h
  subst q0
  exact bodyQ.pure (.inr rfl) rfl (Res.one rfl (RV.tmp rfl))
noncomputable def w_toFloat32S_b1 (a0 : List F) (L1 : List F) (v3 : Int) : Option (LR ((List F) × Int) ((List F)) ((List F))) :=
 bsel (decide (v3 < (a0.length : Int))) (
  obind (at? a0 v3) fun (e4 : F) =>
  obind (setAt? L1 v3 e4) fun (L5 : List F) =>
  olet (IntKind.i64.wrap (v3 + 1)) fun (x6 : Int) =>
  some (LR.next (L5, x6))) (
  some (LR.out L1))
noncomputable def w_toFloat32S_s1 (a0 : List F) : ((List F) × Int) → Option (LR ((List F) × Int) ((List F)) ((List F))) := fun s => w_toFloat32S_b1 a0 s.1 s.2
noncomputable def w_toFloat32S_k1 (L7 : List F) : Option ((List F)) :=
 some L7
noncomputable def w_toFloat32S (a0 : List F) : Option ((List F)) :=
 need (mkok 4 (a0.length : Int)) <|
 obind (loopM (w_toFloat32S_s1 a0) ((List.replicate (a0.length : Int).toNat (some 0)), 0)) fun z => osum z (fun e => w_toFloat32S_k1 e) (fun r => some r)
theorem w_toFloat32S_ok (a0 : List F) (q0 : List F) (h : w_toFloat32S a0 = some q0) : Ev Tryz.prog 23 [sl a0.length (a0.map f32)] [] (oref 0 0 0 q0.length) [⟨0, some (q0.map f32)⟩] := by
 refine Ev.start Tryz.func23 rfl rfl 1 (τ := [(0, sl a0.length (a0.map f32))]) rfl (Γ' := [⟨0, none⟩]) rfl (n := 45) rfl (g := 0) rfl (fun _ => rfl) ?_
 unfold w_toFloat32S at h
 refine zQ ?_
 refine zA (r := nilsl) rfl rfl rfl rfl rfl ?_
 refine zN ?_
 refine RunC.seq ?_
 obtain ⟨hm1, h⟩ := need_some h
 refine RunC.regionW ?_
 refine zM (r := sl a0.length (a0.map f32)) rfl rfl rfl rfl rfl ?_
 refine zL (r := i64 (a0.length : Int)) rfl rfl rfl (LOp.len_sl und22 rfl rfl) ?_
 refine ROps.d (r := oref 0 1 0 ((a0.length : Int).toNat)) (fs := [(0, ((List.replicate (a0.length : Int).toNat (some 0)).map f32))]) (Γ' := [⟨1, some ((List.replicate (a0.length : Int).toNat (some 0)).map f32)⟩]) rfl rfl rfl (TOp.mkS (g := ⟨0, none⟩) (t := 22) (e := 33) (by_ := 4) (f := f32) (zv := some 0) 0 rfl und22 tin33 rfl siz33 zer33 rfl zel33 rfl rfl rfl hm1) rfl ?_
 refine zA (r := oref 0 1 0 ((a0.length : Int).toNat)) rfl rfl rfl rfl rfl ?_
 refine zN ?_
 refine RunC.seq ?_
 refine zQ ?_
 refine zA (r := i64 0) rfl rfl rfl rfl rfl ?_
 refine zN ?_
 obtain ⟨z2, hz_2, h⟩ := obind_some h
 refine RunC.cutN (fun τ Γ => ∃ (L7 : List F), L7.length = (a0.length : Int).toNat ∧ WeakLe τ [(3, oref 0 1 0 ((a0.length : Int).toNat))] ∧ DeadLe Γ [⟨1, some (L7.map f32)⟩] ∧ z2 = .inl L7) ?_ ?_
 ·refine RunC.block (RunC.loop (RunL.loopM (x := z2) (w_toFloat32S_s1 a0) (fun (s : (List F) × Int) τ Γ => s.1.length = (a0.length : Int).toNat ∧ WeakLe τ [(0, sl a0.length (a0.map f32)), (3, oref 0 1 0 ((a0.length : Int).toNat)), (4, i64 s.2)] ∧ DeadLe Γ [⟨1, some (s.1.map f32)⟩]) ?_ _ _ _ hz_2 ⟨List.length_replicate, ⟨aR, aR, aR, trivial⟩, ⟨⟨rfl, .inr rfl⟩, trivial⟩⟩))
  rintro ⟨L1, v3⟩ τ2 Γ2 y2_ ⟨hl2, hw2, hd2⟩ h2_ ho2 hr2
  refine RunC.wl (τ' := [(0, sl a0.length (a0.map f32)), (3, oref 0 1 0 ((a0.length : Int).toNat)), (4, i64 v3)]) (Γ' := [⟨1, some (L1.map f32)⟩]) hw2 hd2 ?_
  replace hl2 : L1.length = (a0.length : Int).toNat := hl2
  replace h2_ : w_toFloat32S_b1 a0 L1 v3 = some y2_ := h2_
  unfold w_toFloat32S_b1 at h2_
  refine RunC.seq ?_
  refine RunC.seq ?_
  rcases bsel_some h2_ with ⟨hc2, h2_⟩ | ⟨hc2, h2_⟩
  ·refine RunC.regionW ?_
   refine zM (r := i64 v3) rfl rfl rfl rfl rfl ?_
   refine zM (r := sl a0.length (a0.map f32)) rfl rfl rfl rfl rfl ?_
   refine zL (r := i64 (a0.length : Int)) rfl rfl rfl (LOp.len_sl und22 rfl rfl) ?_
   refine zL (r := b true) rfl rfl rfl (LOp.eqb (LOp.lss rfl rfl rfl) hc2) ?_
   refine zN ?_
   refine RunC.cond_true rfl rfl ?_
   refine RunC.skip ?_
   refine RunC.seq ?_
   refine RunC.block ?_
   obtain ⟨e4, he3, h2_⟩ := obind_some h2_
   obtain ⟨L5, he4, h2_⟩ := obind_some h2_
   refine RunC.regionW ?_
   refine zM (r := oref 0 1 0 ((a0.length : Int).toNat)) rfl rfl rfl rfl rfl ?_
   refine zM (r := i64 v3) rfl rfl rfl rfl rfl ?_
   refine zM (r := sl a0.length (a0.map f32)) rfl rfl rfl rfl rfl ?_
   refine zM (r := i64 v3) rfl rfl rfl rfl rfl ?_
   refine zL (r := ptr [f32 e4]) rfl rfl rfl (LOp.le (LOp.ix (f := f32) und22 siz33 rfl rfl rfl rfl he3) ALe.ptr) ?_
   refine zL (r := f32 e4) rfl rfl rfl (LOp.load1 agg33 rfl rfl) ?_
   refine ROps.d (r := optr 0 1 v3.toNat) (fs := []) (Γ' := [⟨1, some (L1.map f32)⟩]) rfl rfl rfl (TOp.ixo und22 siz33 rfl rfl rfl (set_in he4 hl2) rfl) rfl ?_
   refine ROps.st (f := f32) (i := v3) (Γ' := [⟨1, some (L5.map f32)⟩]) rfl siz33 rfl rfl rfl aR rfl rfl rfl he4 rfl ?_
   refine zN ?_
   obtain ⟨x6, hx5, h2_⟩ := olet_some h2_
   refine RunC.regionW ?_
   refine zM (r := i64 v3) rfl rfl rfl rfl rfl ?_
   refine zL (r := i64 x6) rfl rfl rfl (LOp.eqr (LOp.add rfl rfl rfl) (congrArg (ik .i64) hx5)) ?_
   refine zA (r := i64 x6) rfl rfl rfl rfl rfl ?_
   refine zN ?_
   cases Option.some.inj h2_
   exact ⟨_, rfl, ((setAt?_len he4).trans hl2), ⟨aR, aR, aR, trivial⟩, ⟨⟨rfl, .inr rfl⟩, trivial⟩⟩
  ·refine RunC.regionW ?_
   refine zM (r := i64 v3) rfl rfl rfl rfl rfl ?_
   refine zM (r := sl a0.length (a0.map f32)) rfl rfl rfl rfl rfl ?_
   refine zL (r := i64 (a0.length : Int)) rfl rfl rfl (LOp.len_sl und22 rfl rfl) ?_
   refine zL (r := b false) rfl rfl rfl (LOp.eqb (LOp.lss rfl rfl rfl) hc2) ?_
   refine zN ?_
   refine RunC.cond_false rfl rfl ?_
   refine RunC.exit ?_
   cases Option.some.inj h2_
   have hx := ho2 _ rfl
   exact ⟨L1, hl2, ⟨aR, trivial⟩, ⟨⟨rfl, .inr rfl⟩, trivial⟩, hx⟩
 ·rintro τ3 Γ3 ⟨L7, hl8, hw3, hd3, rfl⟩
  refine RunC.wl hw3 hd3 ?_
  replace h : w_toFloat32S_k1 L7 = some q0 := h
  unfold w_toFloat32S_k1 at h
  refine zQ ?_
  refine zM (r := oref 0 1 0 ((a0.length : Int).toNat)) rfl rfl rfl rfl rfl ?_
  refine zA (r := oref 0 1 0 ((a0.length : Int).toNat)) rfl rfl rfl rfl rfl ?_
  refine zN ?_
  refine RunC.ret ?_
  have hq := Option.some.inj h
  subst q0
  exact bodyQ.mk (r' := oref 0 1 0 L7.length) [(0, 1)] (.inr rfl) rfl (show List.Nodup [0] from by decide) rfl rfl (Res.eq (Res.one rfl (RV.tmp rfl)) (by rw [(show L7.length = (a0.length : Int).toNat from hl8)] <;> rfl)) (SelL.arr0 (f := f32) (fun _ => rfl) rfl trivial)
noncomputable def w_toMatrix (a0 : Int) (a1 : Int) (a2 : List F) : Option (Int × Int × (List F)) :=
 obind (w_toFloat32S a2) fun (r1 : List F) =>
 some (a0, a1, r1)
theorem w_toMatrix_ok (a0 : Int) (a1 : Int) (a2 : List F) (q0 : Int) (q1 : Int) (q2 : List F) (h : w_toMatrix a0 a1 a2 = some (q0, q1, q2)) : Ev Tryz.prog 7 [agg [i64 a0, i64 a1, sl a2.length (a2.map f32)]] [] (agg [i64 q0, i64 q1, oref 0 0 0 q2.length]) [⟨0, some (q2.map f32)⟩] := by
 refine Ev.start Tryz.func7 rfl rfl 3 (τ := [(0, agg [i64 a0, i64 a1, sl a2.length (a2.map f32)])]) rfl (Γ' := [⟨0, none⟩, ⟨0, none⟩, ⟨0, none⟩]) rfl (n := 31) rfl (g := 0) rfl (fun _ => rfl) ?_
 unfold w_toMatrix at h
 refine zQ ?_
 refine ROps.d (r := ptr [i64 a0, i64 a1, sl a2.length (a2.map f32)]) (fs := []) (Γ' := [⟨0, none⟩, ⟨0, none⟩, ⟨0, none⟩]) rfl rfl rfl (TOp.box_s rfl rfl rfl) rfl ?_
 refine ROps.d (r := optr 0 1 0) (fs := [(0, [i64 0, i64 0, nilsl])]) (Γ' := [⟨1, some [i64 0, i64 0, nilsl]⟩, ⟨0, none⟩, ⟨0, none⟩]) rfl rfl rfl (TOp.alloc_o (g := ⟨0, none⟩) 0 rfl zer26 zok26 rfl) rfl ?_
 refine zN ?_
 refine zQ ?_
 refine ROps.d (r := optr 1 1 0) (fs := [(1, [i64 0, i64 0, nilsl])]) (Γ' := [⟨1, some [i64 0, i64 0, nilsl]⟩, ⟨1, some [i64 0, i64 0, nilsl]⟩, ⟨0, none⟩]) rfl rfl rfl (TOp.alloc_o (g := ⟨0, none⟩) 1 rfl zer26 zok26 rfl) rfl ?_
 refine zN ?_
 refine zQ ?_
 refine zL (r := ptr [i64 a0, i64 a1, sl a2.length (a2.map f32)]) rfl rfl rfl (LOp.fap und24 rfl siz2 rfl rfl rfl) ?_
 refine zL (r := i64 a0) rfl rfl rfl (LOp.load1 agg2 rfl rfl) ?_
 refine zL (r := optr 1 1 0) rfl rfl rfl (LOp.fao und26 rfl siz2 rfl rfl rfl) ?_
 refine ROps.store_le (r := i64 a0) (l' := [i64 a0, i64 0, nilsl]) (Γ' := [⟨1, some [i64 0, i64 0, nilsl]⟩, ⟨1, some [i64 a0, i64 0, nilsl]⟩, ⟨0, none⟩]) rfl siz2 rfl rfl rfl aR rfl rfl rfl rfl (Nat.le_of_ble_eq_true rfl) rfl rfl ?_
 refine zN ?_
 refine zQ ?_
 refine zL (r := ptr [i64 a1, sl a2.length (a2.map f32)]) rfl rfl rfl (LOp.fap und24 rfl siz2 rfl rfl rfl) ?_
 refine zL (r := i64 a1) rfl rfl rfl (LOp.load1 agg2 rfl rfl) ?_
 refine zL (r := optr 1 1 1) rfl rfl rfl (LOp.fao und26 rfl siz2 rfl rfl rfl) ?_
 refine ROps.store_le (r := i64 a1) (l' := [i64 a0, i64 a1, nilsl]) (Γ' := [⟨1, some [i64 0, i64 0, nilsl]⟩, ⟨1, some [i64 a0, i64 a1, nilsl]⟩, ⟨0, none⟩]) rfl siz2 rfl rfl rfl aR rfl rfl rfl rfl (Nat.le_of_ble_eq_true rfl) rfl rfl ?_
 refine zN ?_
 refine RunC.seq ?_
 obtain ⟨r1, hf1, h⟩ := obind_some h
 refine RunC.regionW ?_
 refine zL (r := ptr [sl a2.length (a2.map f32)]) rfl rfl rfl (LOp.fap und24 rfl siz22 rfl rfl rfl) ?_
 refine zL (r := sl a2.length (a2.map f32)) rfl rfl rfl (LOp.load1 agg22 rfl rfl) ?_
 refine ROps.d (r := oref 2 1 0 r1.length) (fs := [(2, (r1.map f32))]) (Γ' := [⟨1, some [i64 0, i64 0, nilsl]⟩, ⟨1, some [i64 a0, i64 a1, nilsl]⟩, ⟨1, some (r1.map f32)⟩]) rfl rfl rfl (TOp.callBN (ls := [(r1.map f32)]) [2] (CallAs.func ent23 rfl rfl) (Bors.cons (Bor.sl (fun _ => rfl)) Bors.nil) rfl (w_toFloat32S_ok a2 r1 hf1) (and_all (lts0_map (f := f32) (fun _ => rfl) _) rfl) (and_all (noss_map (f := f32) (fun _ => rfl) _) rfl) rfl (by decide) (ns_of ⟨⟨_, rfl⟩, trivial⟩)) rfl ?_
 refine zL (r := optr 1 1 2) rfl rfl rfl (LOp.fao und26 rfl siz22 rfl rfl rfl) ?_
 refine ROps.store_le (r := oref 2 1 0 r1.length) (l' := [i64 a0, i64 a1, oref 2 1 0 r1.length]) (Γ' := [⟨1, some [i64 0, i64 0, nilsl]⟩, ⟨1, some [i64 a0, i64 a1, oref 2 1 0 r1.length]⟩, ⟨1, some (r1.map f32)⟩]) rfl siz22 rfl rfl rfl aR rfl rfl rfl rfl (Nat.le_of_ble_eq_true rfl) rfl rfl ?_
 refine zN ?_
 refine zQ ?_
 refine ROps.d (r := agg [i64 a0, i64 a1, oref 2 1 0 r1.length]) (fs := []) (Γ' := [⟨1, some [i64 0, i64 0, nilsl]⟩, ⟨1, some [i64 a0, i64 a1, oref 2 1 0 r1.length]⟩, ⟨1, some (r1.map f32)⟩]) rfl rfl rfl (TOp.loadAgg_o rfl agg26 siz26 rfl rfl rfl rfl) rfl ?_
 refine ROps.store_le (r := agg [i64 a0, i64 a1, oref 2 1 0 r1.length]) (l' := [i64 a0, i64 a1, oref 2 1 0 r1.length]) (Γ' := [⟨1, some [i64 a0, i64 a1, oref 2 1 0 r1.length]⟩, ⟨1, some [i64 a0, i64 a1, oref 2 1 0 r1.length]⟩, ⟨1, some (r1.map f32)⟩]) rfl siz26 rfl rfl rfl aR rfl rfl rfl rfl (Nat.le_of_ble_eq_true rfl) rfl rfl ?_
 refine zN ?_
 refine RunC.ret ?_
 have hq := Option.some.inj h
 obtain ⟨hq0, hq⟩ := Prod.mk.inj hq
 obtain ⟨hq1, hq⟩ := Prod.mk.inj hq
 subst q0
 subst q1
 subst q2
 exact bodyQ.mk (r' := agg [i64 a0, i64 a1, oref 2 1 0 r1.length]) [(2, 1)] (.inr rfl) rfl (show List.Nodup [2] from by decide) rfl rfl (Res.one rfl (RV.cell agg26 siz26 rfl rfl rfl rfl)) (SelL.arr0 (f := f32) (fun _ => rfl) rfl trivial)
noncomputable def s_l00In (a0 : Int) (a1 : Int) (a2 : Int) : Option (Bool) :=
 bsel (decide (a1 ≤ a0)) (
  some (decide (a0 ≤ a2))) (
  some false)
theorem s_l00In_ok (a0 : Int) (a1 : Int) (a2 : Int) (q0 : Bool) (h : s_l00In a0 a1 a2 = some q0) : Ev Tryz.prog 17 [i64 a0, i64 a1, i64 a2] [] (b q0) [] := by
 refine Ev.start Tryz.func17 rfl rfl 0 (τ := [(0, i64 a0), (1, i64 a1), (2, i64 a2)]) rfl (Γ' := []) rfl (n := 31) rfl (g := 0) rfl (fun _ => rfl) ?_
 unfold s_l00In at h
 refine zQ ?_
 refine zA (r := b false) rfl rfl rfl rfl rfl ?_
 refine zN ?_
 refine RunC.seq ?_
 rcases bsel_some h with ⟨hc1, h⟩ | ⟨hc1, h⟩
 ·refine RunC.regionW ?_
  refine zM (r := i64 a0) rfl rfl rfl rfl rfl ?_
  refine zM (r := i64 a1) rfl rfl rfl rfl rfl ?_
  refine zL (r := b true) rfl rfl rfl (LOp.eqb (LOp.geq rfl rfl rfl) hc1) ?_
  refine zM (r := b true) rfl rfl rfl rfl rfl ?_
  refine zM (r := i64 a0) rfl rfl rfl rfl rfl ?_
  refine zM (r := i64 a2) rfl rfl rfl rfl rfl ?_
  refine zL (r := b (decide (a0 ≤ a2))) rfl rfl rfl (LOp.leq rfl rfl rfl) ?_
  refine zL (r := b (decide (a0 ≤ a2))) rfl rfl rfl (LOp.pick_true rfl rfl rfl) ?_
  refine zA (r := b (decide (a0 ≤ a2))) rfl rfl rfl rfl rfl ?_
  refine zN ?_
  refine RunC.ret ?_
  have hq := Option.some.inj h
  subst q0
  exact bodyQ.pure (.inr rfl) rfl (Res.one rfl (RV.tmp rfl))
 ·refine RunC.regionW ?_
  refine zM (r := i64 a0) rfl rfl rfl rfl rfl ?_
  refine zM (r := i64 a1) rfl rfl rfl rfl rfl ?_
  refine zL (r := b false) rfl rfl rfl (LOp.eqb (LOp.geq rfl rfl rfl) hc1) ?_
  refine zM (r := b false) rfl rfl rfl rfl rfl ?_
  refine ROps.s rfl rfl rfl ?_
  refine ROps.s rfl rfl rfl ?_
  refine ROps.s rfl rfl rfl ?_
  refine zL (r := b false) rfl rfl rfl (LOp.pick_false rfl rfl rfl) ?_
  refine zA (r := b false) rfl rfl rfl rfl rfl ?_
  refine zN ?_
  refine RunC.ret ?_
  have hq := Option.some.inj h
  subst q0
  exact bodyQ.pure (.inr rfl) rfl (Res.one rfl (RV.tmp rfl))
noncomputable def s_l02Sides (a0 : Int) (a1 : Int) : Option (Bool) :=
 obind (s_l00In a0 1 12) fun (r1 : Bool) =>
 bsel r1 (
  obind (s_l00In a1 1 12) fun (r2 : Bool) =>
  some r2) (
  some false)
theorem s_l02Sides_ok (a0 : Int) (a1 : Int) (q0 : Bool) (h : s_l02Sides a0 a1 = some q0) : Ev Tryz.prog 93 [i64 a0, i64 a1] [] (b q0) [] := by
 refine Ev.start Tryz.func93 rfl rfl 0 (τ := [(0, i64 a0), (1, i64 a1)]) rfl (Γ' := []) rfl (n := 23) rfl (g := 0) rfl (fun _ => rfl) ?_
 unfold s_l02Sides at h
 refine zQ ?_
 refine zA (r := b false) rfl rfl rfl rfl rfl ?_
 refine zN ?_
 refine RunC.seq ?_
 obtain ⟨r1, hf1, h⟩ := obind_some h
 rcases bsel_some h with ⟨hc2, h⟩ | ⟨hc2, h⟩
 ·obtain ⟨r2, hf3, h⟩ := obind_some h
  refine RunC.regionW ?_
  refine zM (r := i64 a0) rfl rfl rfl rfl rfl ?_
  refine ROps.d (r := b true) (fs := []) (Γ' := []) rfl rfl rfl (TOp.eqb (TOp.callB (CallAs.func ent17 rfl rfl) (Bors.cons (Bor.pure rfl) (Bors.cons (Bor.pure rfl) (Bors.cons (Bor.pure rfl) Bors.nil))) rfl rfl (s_l00In_ok a0 1 12 r1 hf1)) hc2) rfl ?_
  refine zM (r := b true) rfl rfl rfl rfl rfl ?_
  refine zM (r := i64 a1) rfl rfl rfl rfl rfl ?_
  refine ROps.d (r := b r2) (fs := []) (Γ' := []) rfl rfl rfl (TOp.callB (CallAs.func ent17 rfl rfl) (Bors.cons (Bor.pure rfl) (Bors.cons (Bor.pure rfl) (Bors.cons (Bor.pure rfl) Bors.nil))) rfl rfl (s_l00In_ok a1 1 12 r2 hf3)) rfl ?_
  refine zL (r := b r2) rfl rfl rfl (LOp.pick_true rfl rfl rfl) ?_
  refine zA (r := b r2) rfl rfl rfl rfl rfl ?_
  refine zN ?_
  refine RunC.ret ?_
  have hq := Option.some.inj h
  subst q0
  exact bodyQ.pure (.inr rfl) rfl (Res.one rfl (RV.tmp rfl))
 ·refine RunC.regionW ?_
  refine zM (r := i64 a0) rfl rfl rfl rfl rfl ?_
  refine ROps.d (r := b false) (fs := []) (Γ' := []) rfl rfl rfl (TOp.eqb (TOp.callB (CallAs.func ent17 rfl rfl) (Bors.cons (Bor.pure rfl) (Bors.cons (Bor.pure rfl) (Bors.cons (Bor.pure rfl) Bors.nil))) rfl rfl (s_l00In_ok a0 1 12 r1 hf1)) hc2) rfl ?_
  refine zM (r := b false) rfl rfl rfl rfl rfl ?_
  refine ROps.s rfl rfl rfl ?_
  refine ROps.s rfl rfl rfl ?_
  refine zL (r := b false) rfl rfl rfl (LOp.pick_false rfl rfl rfl) ?_
  refine zA (r := b false) rfl rfl rfl rfl rfl ?_
  refine zN ?_
  refine RunC.ret ?_
  have hq := Option.some.inj h
  subst q0
  exact bodyQ.pure (.inr rfl) rfl (Res.one rfl (RV.tmp rfl))
noncomputable def s_l01Finite (a0 : F) : Option (Bool) :=
 olet (fop .sub .f32 a0 a0) fun (x1 : F) =>
 some (feq .f32 x1 (some 0))
theorem s_l01Finite_ok (a0 : F) (q0 : Bool) (h : s_l01Finite a0 = some q0) : Ev Tryz.prog 53 [f32 a0] [] (b q0) [] := by
 refine Ev.start Tryz.func53 rfl rfl 0 (τ := [(0, f32 a0)]) rfl (Γ' := []) rfl (n := 15) rfl (g := 0) rfl (fun _ => rfl) ?_
 unfold s_l01Finite at h
 refine zQ ?_
 refine zA (r := b false) rfl rfl rfl rfl rfl ?_
 refine zN ?_
 refine RunC.seq ?_
 obtain ⟨x1, hx1, h⟩ := olet_some h
 refine RunC.regionW ?_
 refine zM (r := f32 a0) rfl rfl rfl rfl rfl ?_
 refine zM (r := f32 a0) rfl rfl rfl rfl rfl ?_
 refine ROps.d (r := f32 x1) (fs := []) (Γ' := []) rfl rfl rfl (TOp.eqr (TOp.fop (.inr (.inl rfl)) rfl (OpF.tmp rfl) (OpF.tmp rfl)) (congrArg (f .f32) hx1)) rfl ?_
 refine zL (r := b (feq .f32 x1 (some 0))) rfl rfl rfl (LOp.feq rfl (OpF.tmp rfl) (OpF.const rfl (by kernel_rfl) (by kernel_rfl))) ?_
 refine zA (r := b (feq .f32 x1 (some 0))) rfl rfl rfl rfl rfl ?_
 refine zN ?_
 refine RunC.ret ?_
 have hq := Option.some.inj h
 subst q0
 exact bodyQ.pure (.inr rfl) rfl (Res.one rfl (RV.tmp rfl))
noncomputable def s_l02Finite_b1 (a0 : List F) (v1 : Int) : Option (LR (Int) (Unit) (Bool)) :=
 bsel (decide (v1 < (a0.length : Int))) (
  obind (at? a0 v1) fun (e2 : F) =>
  obind (s_l01Finite e2) fun (r3 : Bool) =>
  bsel r3 (
   olet (IntKind.i64.wrap (v1 + 1)) fun (x4 : Int) =>
   some (LR.next x4)) (
   some (LR.ret false))) (
  some (LR.out ()))
noncomputable def s_l02Finite_s1 (a0 : List F) : (Int) → Option (LR (Int) (Unit) (Bool)) := fun s => s_l02Finite_b1 a0 s
noncomputable def s_l02Finite_k1  : Option (Bool) :=
 some true
noncomputable def s_l02Finite (a0 : List F) : Option (Bool) :=
 obind (loopM (s_l02Finite_s1 a0) 0) fun z => osum z (fun _ => s_l02Finite_k1) (fun r => some r)
theorem s_l02Finite_ok (a0 : List F) (q0 : Bool) (h : s_l02Finite a0 = some q0) : Ev Tryz.prog 94 [sl a0.length (a0.map f32)] [] (b q0) [] := by
 refine Ev.start Tryz.func94 rfl rfl 0 (τ := [(0, sl a0.length (a0.map f32))]) rfl (Γ' := []) rfl (n := 33) rfl (g := 0) rfl (fun _ => rfl) ?_
 unfold s_l02Finite at h
 refine zQ ?_
 refine zA (r := b false) rfl rfl rfl rfl rfl ?_
 refine zN ?_
 refine RunC.seq ?_
 refine zQ ?_
 refine zA (r := i64 0) rfl rfl rfl rfl rfl ?_
 refine zN ?_
 obtain ⟨z2, hz_2, h⟩ := obind_some h
 refine RunC.cutN (fun τ Γ => WeakLe τ [] ∧ DeadLe Γ [] ∧ z2 = .inl ()) ?_ ?_
 ·refine RunC.block (RunC.loop (RunL.loopM (x := z2) (s_l02Finite_s1 a0) (fun (s : Int) τ Γ => WeakLe τ [(0, sl a0.length (a0.map f32)), (3, i64 s)] ∧ DeadLe Γ []) ?_ _ _ _ hz_2 ⟨⟨aR, aR, trivial⟩, trivial⟩))
  rintro v1 τ2 Γ2 y2_ ⟨hw2, hd2⟩ h2_ ho2 hr2
  refine RunC.wl (τ' := [(0, sl a0.length (a0.map f32)), (3, i64 v1)]) (Γ' := []) hw2 hd2 ?_
  replace h2_ : s_l02Finite_b1 a0 v1 = some y2_ := h2_
  unfold s_l02Finite_b1 at h2_
  refine RunC.seq ?_
  refine RunC.seq ?_
  rcases bsel_some h2_ with ⟨hc1, h2_⟩ | ⟨hc1, h2_⟩
  ·refine RunC.regionW ?_
   refine zM (r := i64 v1) rfl rfl rfl rfl rfl ?_
   refine zM (r := sl a0.length (a0.map f32)) rfl rfl rfl rfl rfl ?_
   refine zL (r := i64 (a0.length : Int)) rfl rfl rfl (LOp.len_sl und22 rfl rfl) ?_
   refine zL (r := b true) rfl rfl rfl (LOp.eqb (LOp.lss rfl rfl rfl) hc1) ?_
   refine zN ?_
   refine RunC.cond_true rfl rfl ?_
   refine RunC.skip ?_
   refine RunC.seq ?_
   refine RunC.block ?_
   refine RunC.seq ?_
   obtain ⟨e2, he2, h2_⟩ := obind_some h2_
   obtain ⟨r3, hf3, h2_⟩ := obind_some h2_
   rcases bsel_some h2_ with ⟨hc4, h2_⟩ | ⟨hc4, h2_⟩
   ·refine RunC.regionW ?_
    refine zM (r := sl a0.length (a0.map f32)) rfl rfl rfl rfl rfl ?_
    refine zM (r := i64 v1) rfl rfl rfl rfl rfl ?_
    refine zL (r := ptr [f32 e2]) rfl rfl rfl (LOp.le (LOp.ix (f := f32) und22 siz33 rfl rfl rfl rfl he2) ALe.ptr) ?_
    refine zL (r := f32 e2) rfl rfl rfl (LOp.load1 agg33 rfl rfl) ?_
    refine ROps.d (r := b true) (fs := []) (Γ' := []) rfl rfl rfl (TOp.eqb (TOp.callB (CallAs.func ent53 rfl rfl) (Bors.cons (Bor.pure rfl) Bors.nil) rfl rfl (s_l01Finite_ok e2 r3 hf3)) hc4) rfl ?_
    refine zL (r := b false) rfl rfl rfl (LOp.eqb (LOp.not rfl rfl) rfl) ?_
    refine zN ?_
    refine RunC.cond_false rfl rfl ?_
    refine RunC.skip ?_
    obtain ⟨x4, hx5, h2_⟩ := olet_some h2_
    refine RunC.regionW ?_
    refine zM (r := i64 v1) rfl rfl rfl rfl rfl ?_
    refine zL (r := i64 x4) rfl rfl rfl (LOp.eqr (LOp.add rfl rfl rfl) (congrArg (ik .i64) hx5)) ?_
    refine zA (r := i64 x4) rfl rfl rfl rfl rfl ?_
    refine zN ?_
    cases Option.some.inj h2_
    exact ⟨_, rfl, ⟨aR, aR, trivial⟩, trivial⟩
   ·refine RunC.regionW ?_
    refine zM (r := sl a0.length (a0.map f32)) rfl rfl rfl rfl rfl ?_
    refine zM (r := i64 v1) rfl rfl rfl rfl rfl ?_
    refine zL (r := ptr [f32 e2]) rfl rfl rfl (LOp.le (LOp.ix (f := f32) und22 siz33 rfl rfl rfl rfl he2) ALe.ptr) ?_
    refine zL (r := f32 e2) rfl rfl rfl (LOp.load1 agg33 rfl rfl) ?_
    refine ROps.d (r := b false) (fs := []) (Γ' := []) rfl rfl rfl (TOp.eqb (TOp.callB (CallAs.func ent53 rfl rfl) (Bors.cons (Bor.pure rfl) Bors.nil) rfl rfl (s_l01Finite_ok e2 r3 hf3)) hc4) rfl ?_
    refine zL (r := b true) rfl rfl rfl (LOp.eqb (LOp.not rfl rfl) rfl) ?_
    refine zN ?_
    refine RunC.cond_true rfl rfl ?_
    refine zQ ?_
    refine zA (r := b false) rfl rfl rfl rfl rfl ?_
    refine zN ?_
    refine RunC.ret ?_
    cases Option.some.inj h2_
    have hx3_ := hr2 _ rfl
    subst hx3_
    have hq := Option.some.inj h
    subst q0
    exact bodyQ.pure (.inr rfl) rfl (Res.one rfl (RV.tmp rfl))
  ·refine RunC.regionW ?_
   refine zM (r := i64 v1) rfl rfl rfl rfl rfl ?_
   refine zM (r := sl a0.length (a0.map f32)) rfl rfl rfl rfl rfl ?_
   refine zL (r := i64 (a0.length : Int)) rfl rfl rfl (LOp.len_sl und22 rfl rfl) ?_
   refine zL (r := b false) rfl rfl rfl (LOp.eqb (LOp.lss rfl rfl rfl) hc1) ?_
   refine zN ?_
   refine RunC.cond_false rfl rfl ?_
   refine RunC.exit ?_
   cases Option.some.inj h2_
   have hx := ho2 _ rfl
   exact ⟨trivial, trivial, hx⟩
 ·rintro τ4 Γ4 ⟨hw4, hd4, rfl⟩
  refine RunC.wl hw4 hd4 ?_
  replace h : s_l02Finite_k1 = some q0 := h
  unfold s_l02Finite_k1 at h
  refine zQ ?_
  refine zA (r := b true) rfl rfl rfl rfl rfl ?_
  refine zN ?_
  refine RunC.ret ?_
  have hq := Option.some.inj h
  subst q0
  exact bodyQ.pure (.inr rfl) rfl (Res.one rfl (RV.tmp rfl))
noncomputable def s_l02Is (a0 : Int) (a1 : Int) (a2 : List F) : Option (Bool) :=
 obind (s_l02Sides a0 a1) fun (r1 : Bool) =>
 bsel r1 (
  olet (IntKind.i64.wrap (a0 * a1)) fun (x2 : Int) =>
  bsel (decide ((a2.length : Int) = x2)) (
   obind (s_l02Finite a2) fun (r3 : Bool) =>
   some r3) (
   some false)) (
  some false)
theorem s_l02Is_ok (a0 : Int) (a1 : Int) (a2 : List F) (q0 : Bool) (h : s_l02Is a0 a1 a2 = some q0) : Ev Tryz.prog 48 [ptr [i64 a0, i64 a1, sl a2.length (a2.map f32)]] [] (b q0) [] := by
 refine Ev.start Tryz.func48 rfl rfl 0 (τ := [(0, ptr [i64 a0, i64 a1, sl a2.length (a2.map f32)])]) rfl (Γ' := []) rfl (n := 73) rfl (g := 0) rfl (fun _ => rfl) ?_
 unfold s_l02Is at h
 refine zQ ?_
 refine zA (r := b false) rfl rfl rfl rfl rfl ?_
 refine zN ?_
 refine RunC.seq ?_
 obtain ⟨r1, hf1, h⟩ := obind_some h
 rcases bsel_some h with ⟨hc2, h⟩ | ⟨hc2, h⟩
 ·obtain ⟨x2, hx3, h⟩ := olet_some h
  rcases bsel_some h with ⟨hc4, h⟩ | ⟨hc4, h⟩
  ·obtain ⟨r3, hf5, h⟩ := obind_some h
   refine RunC.region_draw (Γ' := []) 34 mixed 
    (TR.l (r := ptr [i64 a0, i64 a1, sl a2.length (a2.map f32)]) rfl rfl (LOp.move rfl rfl) <|
    (TR.l (r := ptr [i64 a0, i64 a1, sl a2.length (a2.map f32)]) rfl rfl (LOp.nilCheck_ptr rfl rfl) <|
    (TR.l (r := ptr [i64 a0, i64 a1, sl a2.length (a2.map f32)]) rfl rfl (LOp.fap und26 rfl siz2 rfl rfl rfl) <|
    (TR.l (r := i64 a0) rfl rfl (LOp.load1 agg2 rfl rfl) <|
    (TR.l (r := ptr [i64 a0, i64 a1, sl a2.length (a2.map f32)]) rfl rfl (LOp.move rfl rfl) <|
    (TR.l (r := ptr [i64 a0, i64 a1, sl a2.length (a2.map f32)]) rfl rfl (LOp.nilCheck_ptr rfl rfl) <|
    (TR.l (r := ptr [i64 a1, sl a2.length (a2.map f32)]) rfl rfl (LOp.fap und26 rfl siz2 rfl rfl rfl) <|
    (TR.l (r := i64 a1) rfl rfl (LOp.load1 agg2 rfl rfl) <|
    (TR.d (r := b true) (fs := []) rfl rfl (TOp.eqb (TOp.callB (CallAs.func ent93 rfl rfl) (Bors.cons (Bor.pure rfl) (Bors.cons (Bor.pure rfl) Bors.nil)) rfl rfl (s_l02Sides_ok a0 a1 r1 hf1)) hc2) <|
    (TR.l (r := b true) rfl rfl (LOp.move rfl rfl) <|
    (TR.l (r := ptr [i64 a0, i64 a1, sl a2.length (a2.map f32)]) rfl rfl (LOp.move rfl rfl) <|
    (TR.l (r := ptr [i64 a0, i64 a1, sl a2.length (a2.map f32)]) rfl rfl (LOp.nilCheck_ptr rfl rfl) <|
    (TR.l (r := ptr [sl a2.length (a2.map f32)]) rfl rfl (LOp.fap und26 rfl siz22 rfl rfl rfl) <|
    (TR.l (r := sl a2.length (a2.map f32)) rfl rfl (LOp.load1 agg22 rfl rfl) <|
    (TR.l (r := i64 (a2.length : Int)) rfl rfl (LOp.len_sl und22 rfl rfl) <|
    (TR.l (r := ptr [i64 a0, i64 a1, sl a2.length (a2.map f32)]) rfl rfl (LOp.move rfl rfl) <|
    (TR.l (r := ptr [i64 a0, i64 a1, sl a2.length (a2.map f32)]) rfl rfl (LOp.nilCheck_ptr rfl rfl) <|
    (TR.l (r := ptr [i64 a0, i64 a1, sl a2.length (a2.map f32)]) rfl rfl (LOp.fap und26 rfl siz2 rfl rfl rfl) <|
    (TR.l (r := i64 a0) rfl rfl (LOp.load1 agg2 rfl rfl) <|
    (TR.l (r := ptr [i64 a0, i64 a1, sl a2.length (a2.map f32)]) rfl rfl (LOp.move rfl rfl) <|
    (TR.l (r := ptr [i64 a0, i64 a1, sl a2.length (a2.map f32)]) rfl rfl (LOp.nilCheck_ptr rfl rfl) <|
    (TR.l (r := ptr [i64 a1, sl a2.length (a2.map f32)]) rfl rfl (LOp.fap und26 rfl siz2 rfl rfl rfl) <|
    (TR.l (r := i64 a1) rfl rfl (LOp.load1 agg2 rfl rfl) <|
    (TR.l (r := i64 x2) rfl rfl (LOp.eqr (LOp.mul rfl rfl rfl) (congrArg (ik .i64) hx3)) <|
    (TR.l (r := b true) rfl rfl (LOp.eqb (LOp.eql rfl rfl rfl) hc4) <|
    (TR.l (r := b true) rfl rfl (LOp.pick_true rfl rfl rfl) <|
    (TR.l (r := b true) rfl rfl (LOp.move rfl rfl) <|
    (TR.l (r := ptr [i64 a0, i64 a1, sl a2.length (a2.map f32)]) rfl rfl (LOp.move rfl rfl) <|
    (TR.l (r := ptr [i64 a0, i64 a1, sl a2.length (a2.map f32)]) rfl rfl (LOp.nilCheck_ptr rfl rfl) <|
    (TR.l (r := ptr [sl a2.length (a2.map f32)]) rfl rfl (LOp.fap und26 rfl siz22 rfl rfl rfl) <|
    (TR.l (r := sl a2.length (a2.map f32)) rfl rfl (LOp.load1 agg22 rfl rfl) <|
    (TR.d (r := b r3) (fs := []) rfl rfl (TOp.callB (CallAs.func ent94 rfl rfl) (Bors.cons (Bor.sl (fun _ => rfl)) Bors.nil) rfl rfl (s_l02Finite_ok a2 r3 hf5)) <|
    (TR.l (r := b r3) rfl rfl (LOp.pick_true rfl rfl rfl) <|
    (TR.l (r := b r3) rfl rfl (LOp.assign rfl rfl) <|
    TR.nil)))))))))))))))))))))))))))))))))) rfl (by kernel_rfl) rfl fills_nil rfl ?_
   iterate 34 refine ROps.dropS ?_
   refine ROps.drop0 ?_
   refine zN ?_
   refine RunC.ret ?_
   have hq := Option.some.inj h
   subst q0
   exact bodyQ.pure (.inr rfl) rfl (Res.one rfl (RV.tmp rfl))
  ·refine RunC.region_draw (Γ' := []) 34 mixed 
    (TR.l (r := ptr [i64 a0, i64 a1, sl a2.length (a2.map f32)]) rfl rfl (LOp.move rfl rfl) <|
    (TR.l (r := ptr [i64 a0, i64 a1, sl a2.length (a2.map f32)]) rfl rfl (LOp.nilCheck_ptr rfl rfl) <|
    (TR.l (r := ptr [i64 a0, i64 a1, sl a2.length (a2.map f32)]) rfl rfl (LOp.fap und26 rfl siz2 rfl rfl rfl) <|
    (TR.l (r := i64 a0) rfl rfl (LOp.load1 agg2 rfl rfl) <|
    (TR.l (r := ptr [i64 a0, i64 a1, sl a2.length (a2.map f32)]) rfl rfl (LOp.move rfl rfl) <|
    (TR.l (r := ptr [i64 a0, i64 a1, sl a2.length (a2.map f32)]) rfl rfl (LOp.nilCheck_ptr rfl rfl) <|
    (TR.l (r := ptr [i64 a1, sl a2.length (a2.map f32)]) rfl rfl (LOp.fap und26 rfl siz2 rfl rfl rfl) <|
    (TR.l (r := i64 a1) rfl rfl (LOp.load1 agg2 rfl rfl) <|
    (TR.d (r := b true) (fs := []) rfl rfl (TOp.eqb (TOp.callB (CallAs.func ent93 rfl rfl) (Bors.cons (Bor.pure rfl) (Bors.cons (Bor.pure rfl) Bors.nil)) rfl rfl (s_l02Sides_ok a0 a1 r1 hf1)) hc2) <|
    (TR.l (r := b true) rfl rfl (LOp.move rfl rfl) <|
    (TR.l (r := ptr [i64 a0, i64 a1, sl a2.length (a2.map f32)]) rfl rfl (LOp.move rfl rfl) <|
    (TR.l (r := ptr [i64 a0, i64 a1, sl a2.length (a2.map f32)]) rfl rfl (LOp.nilCheck_ptr rfl rfl) <|
    (TR.l (r := ptr [sl a2.length (a2.map f32)]) rfl rfl (LOp.fap und26 rfl siz22 rfl rfl rfl) <|
    (TR.l (r := sl a2.length (a2.map f32)) rfl rfl (LOp.load1 agg22 rfl rfl) <|
    (TR.l (r := i64 (a2.length : Int)) rfl rfl (LOp.len_sl und22 rfl rfl) <|
    (TR.l (r := ptr [i64 a0, i64 a1, sl a2.length (a2.map f32)]) rfl rfl (LOp.move rfl rfl) <|
    (TR.l (r := ptr [i64 a0, i64 a1, sl a2.length (a2.map f32)]) rfl rfl (LOp.nilCheck_ptr rfl rfl) <|
    (TR.l (r := ptr [i64 a0, i64 a1, sl a2.length (a2.map f32)]) rfl rfl (LOp.fap und26 rfl siz2 rfl rfl rfl) <|
    (TR.l (r := i64 a0) rfl rfl (LOp.load1 agg2 rfl rfl) <|
    (TR.l (r := ptr [i64 a0, i64 a1, sl a2.length (a2.map f32)]) rfl rfl (LOp.move rfl rfl) <|
    (TR.l (r := ptr [i64 a0, i64 a1, sl a2.length (a2.map f32)]) rfl rfl (LOp.nilCheck_ptr rfl rfl) <|
    (TR.l (r := ptr [i64 a1, sl a2.length (a2.map f32)]) rfl rfl (LOp.fap und26 rfl siz2 rfl rfl rfl) <|
    (TR.l (r := i64 a1) rfl rfl (LOp.load1 agg2 rfl rfl) <|
    (TR.l (r := i64 x2) rfl rfl (LOp.eqr (LOp.mul rfl rfl rfl) (congrArg (ik .i64) hx3)) <|
    (TR.l (r := b false) rfl rfl (LOp.eqb (LOp.eql rfl rfl rfl) hc4) <|
    (TR.l (r := b false) rfl rfl (LOp.pick_true rfl rfl rfl) <|
    (TR.l (r := b false) rfl rfl (LOp.move rfl rfl) <|
    (TR.s rfl rfl <|
    (TR.s rfl rfl <|
    (TR.s rfl rfl <|
    (TR.s rfl rfl <|
    (TR.s rfl rfl <|
    (TR.l (r := b false) rfl rfl (LOp.pick_false rfl rfl rfl) <|
    (TR.l (r := b false) rfl rfl (LOp.assign rfl rfl) <|
    TR.nil)))))))))))))))))))))))))))))))))) rfl (by kernel_rfl) rfl fills_nil rfl ?_
   iterate 34 refine ROps.dropS ?_
   refine ROps.drop0 ?_
   refine zN ?_
   refine RunC.ret ?_
   have hq := Option.some.inj h
   subst q0
   exact bodyQ.pure (.inr rfl) rfl (Res.one rfl (RV.tmp rfl))
 ·refine RunC.region_draw (Γ' := []) 34 mixed 
   (TR.l (r := ptr [i64 a0, i64 a1, sl a2.length (a2.map f32)]) rfl rfl (LOp.move rfl rfl) <|
   (TR.l (r := ptr [i64 a0, i64 a1, sl a2.length (a2.map f32)]) rfl rfl (LOp.nilCheck_ptr rfl rfl) <|
   (TR.l (r := ptr [i64 a0, i64 a1, sl a2.length (a2.map f32)]) rfl rfl (LOp.fap und26 rfl siz2 rfl rfl rfl) <|
   (TR.l (r := i64 a0) rfl rfl (LOp.load1 agg2 rfl rfl) <|
   (TR.l (r := ptr [i64 a0, i64 a1, sl a2.length (a2.map f32)]) rfl rfl (LOp.move rfl rfl) <|
   (TR.l (r := ptr [i64 a0, i64 a1, sl a2.length (a2.map f32)]) rfl rfl (LOp.nilCheck_ptr rfl rfl) <|
   (TR.l (r := ptr [i64 a1, sl a2.length (a2.map f32)]) rfl rfl (LOp.fap und26 rfl siz2 rfl rfl rfl) <|
   (TR.l (r := i64 a1) rfl rfl (LOp.load1 agg2 rfl rfl) <|
   (TR.d (r := b false) (fs := []) rfl rfl (TOp.eqb (TOp.callB (CallAs.func ent93 rfl rfl) (Bors.cons (Bor.pure rfl) (Bors.cons (Bor.pure rfl) Bors.nil)) rfl rfl (s_l02Sides_ok a0 a1 r1 hf1)) hc2) <|
   (TR.l (r := b false) rfl rfl (LOp.move rfl rfl) <|
   (TR.s rfl rfl <|
   (TR.s rfl rfl <|
   (TR.s rfl rfl <|
   (TR.s rfl rfl <|
   (TR.s rfl rfl <|
   (TR.s rfl rfl <|
   (TR.s rfl rfl <|
   (TR.s rfl rfl <|
   (TR.s rfl rfl <|
   (TR.s rfl rfl <|
   (TR.s rfl rfl <|
   (TR.s rfl rfl <|
   (TR.s rfl rfl <|
   (TR.s rfl rfl <|
   (TR.s rfl rfl <|
   (TR.l (r := b false) rfl rfl (LOp.pick_false rfl rfl rfl) <|
   (TR.l (r := b false) rfl rfl (LOp.move rfl rfl) <|
   (TR.s rfl rfl <|
   (TR.s rfl rfl <|
   (TR.s rfl rfl <|
   (TR.s rfl rfl <|
   (TR.s rfl rfl <|
   (TR.l (r := b false) rfl rfl (LOp.pick_false rfl rfl rfl) <|
   (TR.l (r := b false) rfl rfl (LOp.assign rfl rfl) <|
   TR.nil)))))))))))))))))))))))))))))))))) rfl (by kernel_rfl) rfl fills_nil rfl ?_
  iterate 34 refine ROps.dropS ?_
  refine ROps.drop0 ?_
  refine zN ?_
  refine RunC.ret ?_
  have hq := Option.some.inj h
  subst q0
  exact bodyQ.pure (.inr rfl) rfl (Res.one rfl (RV.tmp rfl))
noncomputable def s_l04Rounds (a0 : Int) : Option (Bool) :=
 obind (s_l00In a0 0 64) fun (r1 : Bool) =>
 some r1
theorem s_l04Rounds_ok (a0 : Int) (q0 : Bool) (h : s_l04Rounds a0 = some q0) : Ev Tryz.prog 49 [i64 a0] [] (b q0) [] := by
 refine Ev.start Tryz.func49 rfl rfl 0 (τ := [(0, i64 a0)]) rfl (Γ' := []) rfl (n := 11) rfl (g := 0) rfl (fun _ => rfl) ?_
 unfold s_l04Rounds at h
 refine zQ ?_
 refine zA (r := b false) rfl rfl rfl rfl rfl ?_
 refine zN ?_
 refine RunC.seq ?_
 obtain ⟨r1, hf1, h⟩ := obind_some h
 refine RunC.regionW ?_
 refine zM (r := i64 a0) rfl rfl rfl rfl rfl ?_
 refine ROps.d (r := b r1) (fs := []) (Γ' := []) rfl rfl rfl (TOp.callB (CallAs.func ent17 rfl rfl) (Bors.cons (Bor.pure rfl) (Bors.cons (Bor.pure rfl) (Bors.cons (Bor.pure rfl) Bors.nil))) rfl rfl (s_l00In_ok a0 0 64 r1 hf1)) rfl ?_
 refine zA (r := b r1) rfl rfl rfl rfl rfl ?_
 refine zN ?_
 refine RunC.ret ?_
 have hq := Option.some.inj h
 subst q0
 exact bodyQ.pure (.inr rfl) rfl (Res.one rfl (RV.tmp rfl))
noncomputable def s_l04Tall (a0 : Int) (a1 : Int) (a2 : List F) (a3 : Int) : Option (Bool) :=
 obind (s_l02Is a0 a1 a2) fun (r1 : Bool) =>
 bsel r1 (
  bsel (decide (a1 ≤ a0)) (
   obind (s_l04Rounds a3) fun (r2 : Bool) =>
   some r2) (
   some false)) (
  some false)
theorem s_l04Tall_ok (a0 : Int) (a1 : Int) (a2 : List F) (a3 : Int) (q0 : Bool) (h : s_l04Tall a0 a1 a2 a3 = some q0) : Ev Tryz.prog 16 [ptr [i64 a0, i64 a1, sl a2.length (a2.map f32)], i64 a3] [] (b q0) [] := by
 refine Ev.start Tryz.func16 rfl rfl 0 (τ := [(0, ptr [i64 a0, i64 a1, sl a2.length (a2.map f32)]), (1, i64 a3)]) rfl (Γ' := []) rfl (n := 45) rfl (g := 0) rfl (fun _ => rfl) ?_
 unfold s_l04Tall at h
 refine zQ ?_
 refine zA (r := b false) rfl rfl rfl rfl rfl ?_
 refine zN ?_
 refine RunC.seq ?_
 obtain ⟨r1, hf1, h⟩ := obind_some h
 rcases bsel_some h with ⟨hc2, h⟩ | ⟨hc2, h⟩
 ·rcases bsel_some h with ⟨hc3, h⟩ | ⟨hc3, h⟩
  ·obtain ⟨r2, hf4, h⟩ := obind_some h
   refine RunC.region_draw (Γ' := []) 18 mixed 
    (TR.l (r := ptr [i64 a0, i64 a1, sl a2.length (a2.map f32)]) rfl rfl (LOp.move rfl rfl) <|
    (TR.d (r := b true) (fs := []) rfl rfl (TOp.eqb (TOp.callB (CallAs.func ent48 rfl rfl) (Bors.cons (Bor.ptr (Bors.cons (Bor.pure rfl) (Bors.cons (Bor.pure rfl) (Bors.cons (Bor.sl (fun _ => rfl)) Bors.nil)))) Bors.nil) rfl rfl (s_l02Is_ok a0 a1 a2 r1 hf1)) hc2) <|
    (TR.l (r := b true) rfl rfl (LOp.move rfl rfl) <|
    (TR.l (r := ptr [i64 a0, i64 a1, sl a2.length (a2.map f32)]) rfl rfl (LOp.move rfl rfl) <|
    (TR.l (r := ptr [i64 a0, i64 a1, sl a2.length (a2.map f32)]) rfl rfl (LOp.nilCheck_ptr rfl rfl) <|
    (TR.l (r := ptr [i64 a0, i64 a1, sl a2.length (a2.map f32)]) rfl rfl (LOp.fap und26 rfl siz2 rfl rfl rfl) <|
    (TR.l (r := i64 a0) rfl rfl (LOp.load1 agg2 rfl rfl) <|
    (TR.l (r := ptr [i64 a0, i64 a1, sl a2.length (a2.map f32)]) rfl rfl (LOp.move rfl rfl) <|
    (TR.l (r := ptr [i64 a0, i64 a1, sl a2.length (a2.map f32)]) rfl rfl (LOp.nilCheck_ptr rfl rfl) <|
    (TR.l (r := ptr [i64 a1, sl a2.length (a2.map f32)]) rfl rfl (LOp.fap und26 rfl siz2 rfl rfl rfl) <|
    (TR.l (r := i64 a1) rfl rfl (LOp.load1 agg2 rfl rfl) <|
    (TR.l (r := b true) rfl rfl (LOp.eqb (LOp.geq rfl rfl rfl) hc3) <|
    (TR.l (r := b true) rfl rfl (LOp.pick_true rfl rfl rfl) <|
    (TR.l (r := b true) rfl rfl (LOp.move rfl rfl) <|
    (TR.l (r := i64 a3) rfl rfl (LOp.move rfl rfl) <|
    (TR.d (r := b r2) (fs := []) rfl rfl (TOp.callB (CallAs.func ent49 rfl rfl) (Bors.cons (Bor.pure rfl) Bors.nil) rfl rfl (s_l04Rounds_ok a3 r2 hf4)) <|
    (TR.l (r := b r2) rfl rfl (LOp.pick_true rfl rfl rfl) <|
    (TR.l (r := b r2) rfl rfl (LOp.assign rfl rfl) <|
    TR.nil)))))))))))))))))) rfl (by kernel_rfl) rfl fills_nil rfl ?_
   iterate 18 refine ROps.dropS ?_
   refine ROps.drop0 ?_
   refine zN ?_
   refine RunC.ret ?_
   have hq := Option.some.inj h
   subst q0
   exact bodyQ.pure (.inr rfl) rfl (Res.one rfl (RV.tmp rfl))
  ·refine RunC.region_draw (Γ' := []) 18 mixed 
    (TR.l (r := ptr [i64 a0, i64 a1, sl a2.length (a2.map f32)]) rfl rfl (LOp.move rfl rfl) <|
    (TR.d (r := b true) (fs := []) rfl rfl (TOp.eqb (TOp.callB (CallAs.func ent48 rfl rfl) (Bors.cons (Bor.ptr (Bors.cons (Bor.pure rfl) (Bors.cons (Bor.pure rfl) (Bors.cons (Bor.sl (fun _ => rfl)) Bors.nil)))) Bors.nil) rfl rfl (s_l02Is_ok a0 a1 a2 r1 hf1)) hc2) <|
    (TR.l (r := b true) rfl rfl (LOp.move rfl rfl) <|
    (TR.l (r := ptr [i64 a0, i64 a1, sl a2.length (a2.map f32)]) rfl rfl (LOp.move rfl rfl) <|
    (TR.l (r := ptr [i64 a0, i64 a1, sl a2.length (a2.map f32)]) rfl rfl (LOp.nilCheck_ptr rfl rfl) <|
    (TR.l (r := ptr [i64 a0, i64 a1, sl a2.length (a2.map f32)]) rfl rfl (LOp.fap und26 rfl siz2 rfl rfl rfl) <|
    (TR.l (r := i64 a0) rfl rfl (LOp.load1 agg2 rfl rfl) <|
    (TR.l (r := ptr [i64 a0, i64 a1, sl a2.length (a2.map f32)]) rfl rfl (LOp.move rfl rfl) <|
    (TR.l (r := ptr [i64 a0, i64 a1, sl a2.length (a2.map f32)]) rfl rfl (LOp.nilCheck_ptr rfl rfl) <|
    (TR.l (r := ptr [i64 a1, sl a2.length (a2.map f32)]) rfl rfl (LOp.fap und26 rfl siz2 rfl rfl rfl) <|
    (TR.l (r := i64 a1) rfl rfl (LOp.load1 agg2 rfl rfl) <|
    (TR.l (r := b false) rfl rfl (LOp.eqb (LOp.geq rfl rfl rfl) hc3) <|
    (TR.l (r := b false) rfl rfl (LOp.pick_true rfl rfl rfl) <|
    (TR.l (r := b false) rfl rfl (LOp.move rfl rfl) <|
    (TR.s rfl rfl <|
    (TR.s rfl rfl <|
    (TR.l (r := b false) rfl rfl (LOp.pick_false rfl rfl rfl) <|
    (TR.l (r := b false) rfl rfl (LOp.assign rfl rfl) <|
    TR.nil)))))))))))))))))) rfl (by kernel_rfl) rfl fills_nil rfl ?_
   iterate 18 refine ROps.dropS ?_
   refine ROps.drop0 ?_
   refine zN ?_
   refine RunC.ret ?_
   have hq := Option.some.inj h
   subst q0
   exact bodyQ.pure (.inr rfl) rfl (Res.one rfl (RV.tmp rfl))
 ·refine RunC.region_draw (Γ' := []) 18 mixed 
   (TR.l (r := ptr [i64 a0, i64 a1, sl a2.length (a2.map f32)]) rfl rfl (LOp.move rfl rfl) <|
   (TR.d (r := b false) (fs := []) rfl rfl (TOp.eqb (TOp.callB (CallAs.func ent48 rfl rfl) (Bors.cons (Bor.ptr (Bors.cons (Bor.pure rfl) (Bors.cons (Bor.pure rfl) (Bors.cons (Bor.sl (fun _ => rfl)) Bors.nil)))) Bors.nil) rfl rfl (s_l02Is_ok a0 a1 a2 r1 hf1)) hc2) <|
   (TR.l (r := b false) rfl rfl (LOp.move rfl rfl) <|
   (TR.s rfl rfl <|
   (TR.s rfl rfl <|
   (TR.s rfl rfl <|
   (TR.s rfl rfl <|
   (TR.s rfl rfl <|
   (TR.s rfl rfl <|
   (TR.s rfl rfl <|
   (TR.s rfl rfl <|
   (TR.s rfl rfl <|
   (TR.l (r := b false) rfl rfl (LOp.pick_false rfl rfl rfl) <|
   (TR.l (r := b false) rfl rfl (LOp.move rfl rfl) <|
   (TR.s rfl rfl <|
   (TR.s rfl rfl <|
   (TR.l (r := b false) rfl rfl (LOp.pick_false rfl rfl rfl) <|
   (TR.l (r := b false) rfl rfl (LOp.assign rfl rfl) <|
   TR.nil)))))))))))))))))) rfl (by kernel_rfl) rfl fills_nil rfl ?_
  iterate 18 refine ROps.dropS ?_
  refine ROps.drop0 ?_
  refine zN ?_
  refine RunC.ret ?_
  have hq := Option.some.inj h
  subst q0
  exact bodyQ.pure (.inr rfl) rfl (Res.one rfl (RV.tmp rfl))
noncomputable def s_l02Own (a0 : Int) (a1 : Int) (a2 : List F) : Option (Int × Int × (List F)) :=
 need (apok 4 0 a2.length) <|
 some (a0, a1, (([] : List F) ++ a2))
theorem s_l02Own_ok (a0 : Int) (a1 : Int) (a2 : List F) (q0 : Int) (q1 : Int) (q2 : List F) (h : s_l02Own a0 a1 a2 = some (q0, q1, q2)) : Ev Tryz.prog 50 [ptr [i64 a0, i64 a1, sl a2.length (a2.map f32)]] [] (agg [i64 q0, i64 q1, oref 0 0 0 q2.length]) [⟨0, some (q2.map f32)⟩] := by
 refine Ev.start Tryz.func50 rfl rfl 2 (τ := [(0, ptr [i64 a0, i64 a1, sl a2.length (a2.map f32)])]) rfl (Γ' := [⟨0, none⟩, ⟨0, none⟩]) rfl (n := 37) rfl (g := 0) rfl (fun _ => rfl) ?_
 unfold s_l02Own at h
 refine zQ ?_
 refine ROps.d (r := optr 0 1 0) (fs := [(0, [i64 0, i64 0, nilsl])]) (Γ' := [⟨1, some [i64 0, i64 0, nilsl]⟩, ⟨0, none⟩]) rfl rfl rfl (TOp.alloc_o (g := ⟨0, none⟩) 0 rfl zer26 zok26 rfl) rfl ?_
 refine zN ?_
 refine RunC.seq ?_
 obtain ⟨hm1, h⟩ := need_some h
 refine RunC.region_draw (Γ' := [⟨1, some [i64 0, i64 0, nilsl]⟩, ⟨1, some (([] : List F).map f32)⟩]) 13 mixed 
  (TR.loose (r := ptr [i64 a0, i64 a1, sl a2.length (a2.map f32)]) rfl rfl (LOp.move rfl rfl) <|
  (TR.loose (r := ptr [i64 a0, i64 a1, sl a2.length (a2.map f32)]) rfl rfl (LOp.nilCheck_ptr rfl rfl) <|
  (TR.loose (r := ptr [i64 a0, i64 a1, sl a2.length (a2.map f32)]) rfl rfl (LOp.fap und26 rfl siz2 rfl rfl rfl) <|
  (TR.loose (r := i64 a0) rfl rfl (LOp.load1 agg2 rfl rfl) <|
  (TR.loose (r := ptr [i64 a0, i64 a1, sl a2.length (a2.map f32)]) rfl rfl (LOp.move rfl rfl) <|
  (TR.loose (r := ptr [i64 a0, i64 a1, sl a2.length (a2.map f32)]) rfl rfl (LOp.nilCheck_ptr rfl rfl) <|
  (TR.loose (r := ptr [i64 a1, sl a2.length (a2.map f32)]) rfl rfl (LOp.fap und26 rfl siz2 rfl rfl rfl) <|
  (TR.loose (r := i64 a1) rfl rfl (LOp.load1 agg2 rfl rfl) <|
  (TR.d (r := oref 1 1 0 0) (fs := [(1, (([] : List F).map f32))]) rfl rfl (TOp.buildSlice_o (g := ⟨0, none⟩) (za := f32 (some 0)) (qs := []) 1 rfl und22 siz33 zer33 rfl zel33 rfl rfl trivial rfl) <|
  (TR.l (r := ptr [i64 a0, i64 a1, sl a2.length (a2.map f32)]) rfl rfl (LOp.move rfl rfl) <|
  (TR.l (r := ptr [i64 a0, i64 a1, sl a2.length (a2.map f32)]) rfl rfl (LOp.nilCheck_ptr rfl rfl) <|
  (TR.l (r := ptr [sl a2.length (a2.map f32)]) rfl rfl (LOp.fap und26 rfl siz22 rfl rfl rfl) <|
  (TR.l (r := sl a2.length (a2.map f32)) rfl rfl (LOp.load1 agg22 rfl rfl) <|
  TR.nil))))))))))))) rfl (by kernel_rfl) rfl (fills_of (by show List.Nodup [1]; decide) ⟨⟨_, rfl⟩, trivial⟩) rfl ?_
 iterate 13 refine ROps.dropS ?_
 refine ROps.drop0 ?_
 refine ROps.app (f := f32) (xs := ([] : List F)) (ys := a2) (Γ' := [⟨1, some [i64 0, i64 0, nilsl]⟩, ⟨2, some ((([] : List F) ++ a2).map f32)⟩]) rfl pun22 inf33 rfl rfl rfl rfl rfl rfl rfl rfl rfl (by simp) (ReadAs.sl (by simp)) (ones_map (fun _ => rfl)) (ap_by hm1) (ap_mx hm1) rfl ?_
 refine zL (r := agg [i64 a0, i64 a1, oref 1 2 0 (0 + a2.length)]) rfl rfl rfl (LOp.build (qs := [(0, [i64 a0]), (1, [i64 a1]), (2, [oref 1 2 0 (0 + a2.length)])]) zer26 zok26 und26 plc26 rfl ⟨rfl, ⟨_, ALe.refl _, rfl⟩, ⟨rfl, ⟨_, ALe.refl _, rfl⟩, ⟨rfl, ⟨_, ALe.refl _, rfl⟩, trivial⟩⟩⟩ rfl) ?_
 refine ROps.store_le (r := agg [i64 a0, i64 a1, oref 1 2 0 (0 + a2.length)]) (l' := [i64 a0, i64 a1, oref 1 2 0 (0 + a2.length)]) (Γ' := [⟨1, some [i64 a0, i64 a1, oref 1 2 0 (0 + a2.length)]⟩, ⟨2, some ((([] : List F) ++ a2).map f32)⟩]) rfl siz26 rfl rfl rfl aR rfl rfl rfl rfl (Nat.le_of_ble_eq_true rfl) rfl rfl ?_
 refine zN ?_
 refine RunC.ret ?_
 have hq := Option.some.inj h
 obtain ⟨hq0, hq⟩ := Prod.mk.inj hq
 obtain ⟨hq1, hq⟩ := Prod.mk.inj hq
 subst q0
 subst q1
 subst q2
 exact bodyQ.mk (r' := agg [i64 a0, i64 a1, oref 1 2 0 ((([] : List F) ++ a2).length)]) [(1, 2)] (.inr rfl) rfl (show List.Nodup [1] from by decide) rfl rfl (Res.eq (Res.one rfl (RV.cell agg26 siz26 rfl rfl rfl rfl)) (by rw [(show (([] : List F) ++ a2).length = (0 + a2.length) from (app_len rfl rfl))] <;> rfl)) (SelL.arr0 (f := f32) (fun _ => rfl) rfl trivial)
noncomputable def s_l02Zero (a0 : Int) (a1 : Int) : Option (Int × Int × (List F)) :=
 olet (IntKind.i64.wrap (a0 * a1)) fun (x1 : Int) =>
 need (mkok 4 x1) <|
 some (a0, a1, (List.replicate x1.toNat (some 0)))
theorem s_l02Zero_ok (a0 : Int) (a1 : Int) (q0 : Int) (q1 : Int) (q2 : List F) (h : s_l02Zero a0 a1 = some (q0, q1, q2)) : Ev Tryz.prog 20 [i64 a0, i64 a1] [] (agg [i64 q0, i64 q1, oref 0 0 0 q2.length]) [⟨0, some (q2.map f32)⟩] := by
 refine Ev.start Tryz.func20 rfl rfl 2 (τ := [(0, i64 a0), (1, i64 a1)]) rfl (Γ' := [⟨0, none⟩, ⟨0, none⟩]) rfl (n := 25) rfl (g := 0) rfl (fun _ => rfl) ?_
 unfold s_l02Zero at h
 refine zQ ?_
 refine ROps.d (r := optr 0 1 0) (fs := [(0, [i64 0, i64 0, nilsl])]) (Γ' := [⟨1, some [i64 0, i64 0, nilsl]⟩, ⟨0, none⟩]) rfl rfl rfl (TOp.alloc_o (g := ⟨0, none⟩) 0 rfl zer26 zok26 rfl) rfl ?_
 refine zN ?_
 refine RunC.seq ?_
 obtain ⟨x1, hx1, h⟩ := olet_some h
 obtain ⟨hm2, h⟩ := need_some h
 refine RunC.regionW ?_
 refine zM (r := i64 a0) rfl rfl rfl rfl rfl ?_
 refine zM (r := i64 a1) rfl rfl rfl rfl rfl ?_
 refine zM (r := i64 a0) rfl rfl rfl rfl rfl ?_
 refine zM (r := i64 a1) rfl rfl rfl rfl rfl ?_
 refine zL (r := i64 x1) rfl rfl rfl (LOp.eqr (LOp.mul rfl rfl rfl) (congrArg (ik .i64) hx1)) ?_
 refine ROps.d (r := oref 1 1 0 x1.toNat) (fs := [(1, ((List.replicate x1.toNat (some 0)).map f32))]) (Γ' := [⟨1, some [i64 0, i64 0, nilsl]⟩, ⟨1, some ((List.replicate x1.toNat (some 0)).map f32)⟩]) rfl rfl rfl (TOp.mkS (g := ⟨0, none⟩) (t := 22) (e := 33) (by_ := 4) (f := f32) (zv := some 0) 1 rfl und22 tin33 rfl siz33 zer33 rfl zel33 rfl rfl rfl hm2) rfl ?_
 refine zL (r := agg [i64 a0, i64 a1, oref 1 1 0 x1.toNat]) rfl rfl rfl (LOp.build (qs := [(0, [i64 a0]), (1, [i64 a1]), (2, [oref 1 1 0 x1.toNat])]) zer26 zok26 und26 plc26 rfl ⟨rfl, ⟨_, ALe.refl _, rfl⟩, ⟨rfl, ⟨_, ALe.refl _, rfl⟩, ⟨rfl, ⟨_, ALe.refl _, rfl⟩, trivial⟩⟩⟩ rfl) ?_
 refine ROps.store_le (r := agg [i64 a0, i64 a1, oref 1 1 0 x1.toNat]) (l' := [i64 a0, i64 a1, oref 1 1 0 x1.toNat]) (Γ' := [⟨1, some [i64 a0, i64 a1, oref 1 1 0 x1.toNat]⟩, ⟨1, some ((List.replicate x1.toNat (some 0)).map f32)⟩]) rfl siz26 rfl rfl rfl aR rfl rfl rfl rfl (Nat.le_of_ble_eq_true rfl) rfl rfl ?_
 refine zN ?_
 refine RunC.ret ?_
 have hq := Option.some.inj h
 obtain ⟨hq0, hq⟩ := Prod.mk.inj hq
 obtain ⟨hq1, hq⟩ := Prod.mk.inj hq
 subst q0
 subst q1
 subst q2
 exact bodyQ.mk (r' := agg [i64 a0, i64 a1, oref 1 1 0 ((List.replicate x1.toNat (some 0)).length)]) [(1, 1)] (.inr rfl) rfl (show List.Nodup [1] from by decide) rfl rfl (Res.eq (Res.one rfl (RV.cell agg26 siz26 rfl rfl rfl rfl)) (by rw [(show (List.replicate x1.toNat (some 0)).length = x1.toNat from by simp)] <;> rfl)) (SelL.arr0 (f := f32) (fun _ => rfl) rfl trivial)
noncomputable def s_l02Unit_b1 (a0 : Int) (L4 : List F) (v6 : Int) : Option (LR ((List F) × Int) ((List F)) (Int × Int × (List F))) :=
 bsel (decide (v6 < a0)) (
  olet (IntKind.i64.wrap (v6 * a0)) fun (x7 : Int) =>
  olet (IntKind.i64.wrap (x7 + v6)) fun (x8 : Int) =>
  obind (setAt? L4 x8 (some 1065353216)) fun (L9 : List F) =>
  olet (IntKind.i64.wrap (v6 + 1)) fun (x10 : Int) =>
  some (LR.next (L9, x10))) (
  some (LR.out L4))
noncomputable def s_l02Unit_s1 (a0 : Int) : ((List F) × Int) → Option (LR ((List F) × Int) ((List F)) (Int × Int × (List F))) := fun s => s_l02Unit_b1 a0 s.1 s.2
noncomputable def s_l02Unit_k1 (r1 : Int) (r2 : Int) (L11 : List F) : Option (Int × Int × (List F)) :=
 some (r1, r2, L11)
noncomputable def s_l02Unit (a0 : Int) : Option (Int × Int × (List F)) :=
 obind3 (s_l02Zero a0 a0) fun (r1 : Int) (r2 : Int) (r3 : List F) =>
 obind (loopM (s_l02Unit_s1 a0) (r3, 0)) fun z => osum z (fun e => s_l02Unit_k1 r1 r2 e) (fun r => some r)
theorem s_l02Unit_ok (a0 : Int) (q0 : Int) (q1 : Int) (q2 : List F) (h : s_l02Unit a0 = some (q0, q1, q2)) : Ev Tryz.prog 51 [i64 a0] [] (agg [i64 q0, i64 q1, oref 0 0 0 q2.length]) [⟨0, some (q2.map f32)⟩] := by
 refine Ev.start Tryz.func51 rfl rfl 3 (τ := [(0, i64 a0)]) rfl (Γ' := [⟨0, none⟩, ⟨0, none⟩, ⟨0, none⟩]) rfl (n := 45) rfl (g := 0) rfl (fun _ => rfl) ?_
 unfold s_l02Unit at h
 refine zQ ?_
 refine ROps.d (r := optr 0 1 0) (fs := [(0, [i64 0, i64 0, nilsl])]) (Γ' := [⟨1, some [i64 0, i64 0, nilsl]⟩, ⟨0, none⟩, ⟨0, none⟩]) rfl rfl rfl (TOp.alloc_o (g := ⟨0, none⟩) 0 rfl zer26 zok26 rfl) rfl ?_
 refine zN ?_
 refine RunC.seq ?_
 obtain ⟨r1, r2, r3, hf1, h⟩ := obind3_some h
 refine RunC.regionW ?_
 refine zM (r := i64 a0) rfl rfl rfl rfl rfl ?_
 refine zM (r := i64 a0) rfl rfl rfl rfl rfl ?_
 refine ROps.d (r := agg [i64 r1, i64 r2, oref 1 1 0 r3.length]) (fs := [(1, (r3.map f32))]) (Γ' := [⟨1, some [i64 0, i64 0, nilsl]⟩, ⟨1, some (r3.map f32)⟩, ⟨0, none⟩]) rfl rfl rfl (TOp.callBN (ls := [(r3.map f32)]) [1] (CallAs.func ent20 rfl rfl) (Bors.cons (Bor.pure rfl) (Bors.cons (Bor.pure rfl) Bors.nil)) rfl (s_l02Zero_ok a0 a0 r1 r2 r3 hf1) (and_all (lts0_map (f := f32) (fun _ => rfl) _) rfl) (and_all (noss_map (f := f32) (fun _ => rfl) _) rfl) rfl (by decide) (ns_of ⟨⟨_, rfl⟩, trivial⟩)) rfl ?_
 refine ROps.d (r := optr 2 1 0) (fs := [(2, [i64 0, i64 0, nilsl])]) (Γ' := [⟨1, some [i64 0, i64 0, nilsl]⟩, ⟨1, some (r3.map f32)⟩, ⟨1, some [i64 0, i64 0, nilsl]⟩]) rfl rfl rfl (TOp.alloc_o (g := ⟨0, none⟩) 2 rfl zer26 zok26 rfl) rfl ?_
 refine ROps.store_le (r := agg [i64 r1, i64 r2, oref 1 1 0 r3.length]) (l' := [i64 r1, i64 r2, oref 1 1 0 r3.length]) (Γ' := [⟨1, some [i64 0, i64 0, nilsl]⟩, ⟨1, some (r3.map f32)⟩, ⟨1, some [i64 r1, i64 r2, oref 1 1 0 r3.length]⟩]) rfl siz26 rfl rfl rfl aR rfl rfl rfl rfl (Nat.le_of_ble_eq_true rfl) rfl rfl ?_
 refine zN ?_
 refine RunC.seq ?_
 refine zQ ?_
 refine zA (r := i64 0) rfl rfl rfl rfl rfl ?_
 refine zN ?_
 obtain ⟨z2, hz_2, h⟩ := obind_some h
 refine RunC.cutN (fun τ Γ => ∃ (L11 : List F), L11.length = r3.length ∧ WeakLe τ [(2, optr 0 1 0), (3, optr 2 1 0)] ∧ DeadLe Γ [⟨1, some [i64 0, i64 0, nilsl]⟩, ⟨1, some (L11.map f32)⟩, ⟨1, some [i64 r1, i64 r2, oref 1 1 0 r3.length]⟩] ∧ z2 = .inl L11) ?_ ?_
 ·refine RunC.block (RunC.loop (RunL.loopM (x := z2) (s_l02Unit_s1 a0) (fun (s : (List F) × Int) τ Γ => s.1.length = r3.length ∧ WeakLe τ [(0, i64 a0), (2, optr 0 1 0), (3, optr 2 1 0), (4, i64 s.2)] ∧ DeadLe Γ [⟨1, some [i64 0, i64 0, nilsl]⟩, ⟨1, some (s.1.map f32)⟩, ⟨1, some [i64 r1, i64 r2, oref 1 1 0 r3.length]⟩]) ?_ _ _ _ hz_2 ⟨rfl, ⟨aR, aR, aR, aR, trivial⟩, ⟨⟨rfl, .inr rfl⟩, ⟨rfl, .inr rfl⟩, ⟨rfl, .inr rfl⟩, trivial⟩⟩))
  rintro ⟨L4, v6⟩ τ2 Γ2 y2_ ⟨hl5, hw2, hd2⟩ h2_ ho2 hr2
  refine RunC.wl (τ' := [(0, i64 a0), (2, optr 0 1 0), (3, optr 2 1 0), (4, i64 v6)]) (Γ' := [⟨1, some [i64 0, i64 0, nilsl]⟩, ⟨1, some (L4.map f32)⟩, ⟨1, some [i64 r1, i64 r2, oref 1 1 0 r3.length]⟩]) hw2 hd2 ?_
  replace hl5 : L4.length = r3.length := hl5
  replace h2_ : s_l02Unit_b1 a0 L4 v6 = some y2_ := h2_
  unfold s_l02Unit_b1 at h2_
  refine RunC.seq ?_
  refine RunC.seq ?_
  rcases bsel_some h2_ with ⟨hc2, h2_⟩ | ⟨hc2, h2_⟩
  ·refine RunC.regionW ?_
   refine zM (r := i64 v6) rfl rfl rfl rfl rfl ?_
   refine zM (r := i64 a0) rfl rfl rfl rfl rfl ?_
   refine zL (r := b true) rfl rfl rfl (LOp.eqb (LOp.lss rfl rfl rfl) hc2) ?_
   refine zN ?_
   refine RunC.cond_true rfl rfl ?_
   refine RunC.skip ?_
   refine RunC.seq ?_
   refine RunC.block ?_
   obtain ⟨x7, hx3, h2_⟩ := olet_some h2_
   obtain ⟨x8, hx4, h2_⟩ := olet_some h2_
   obtain ⟨L9, he5, h2_⟩ := obind_some h2_
   refine RunC.regionW ?_
   refine zL (r := optr 2 1 2) rfl rfl rfl (LOp.fao und26 rfl siz22 rfl rfl rfl) ?_
   refine ROps.d (r := oref 1 1 0 r3.length) (fs := []) (Γ' := [⟨1, some [i64 0, i64 0, nilsl]⟩, ⟨1, some (L4.map f32)⟩, ⟨1, some [i64 r1, i64 r2, oref 1 1 0 r3.length]⟩]) rfl rfl rfl (TOp.load1_o rfl rfl agg22 rfl rfl) rfl ?_
   refine zM (r := i64 v6) rfl rfl rfl rfl rfl ?_
   refine zM (r := i64 a0) rfl rfl rfl rfl rfl ?_
   refine zL (r := i64 x7) rfl rfl rfl (LOp.eqr (LOp.mul rfl rfl rfl) (congrArg (ik .i64) hx3)) ?_
   refine zM (r := i64 v6) rfl rfl rfl rfl rfl ?_
   refine zL (r := i64 x8) rfl rfl rfl (LOp.eqr (LOp.add rfl rfl rfl) (congrArg (ik .i64) hx4)) ?_
   refine ROps.d (r := optr 1 1 x8.toNat) (fs := []) (Γ' := [⟨1, some [i64 0, i64 0, nilsl]⟩, ⟨1, some (L4.map f32)⟩, ⟨1, some [i64 r1, i64 r2, oref 1 1 0 r3.length]⟩]) rfl rfl rfl (TOp.ixo und22 siz33 rfl rfl rfl (set_in he5 hl5) rfl) rfl ?_
   refine ROps.st (f := f32) (i := x8) (Γ' := [⟨1, some [i64 0, i64 0, nilsl]⟩, ⟨1, some (L9.map f32)⟩, ⟨1, some [i64 r1, i64 r2, oref 1 1 0 r3.length]⟩]) rfl siz33 rfl rfl rfl (ALe.fl (by kernel_rfl) (by kernel_rfl)) rfl rfl rfl he5 rfl ?_
   refine zN ?_
   obtain ⟨x10, hx6, h2_⟩ := olet_some h2_
   refine RunC.regionW ?_
   refine zM (r := i64 v6) rfl rfl rfl rfl rfl ?_
   refine zL (r := i64 x10) rfl rfl rfl (LOp.eqr (LOp.add rfl rfl rfl) (congrArg (ik .i64) hx6)) ?_
   refine zA (r := i64 x10) rfl rfl rfl rfl rfl ?_
   refine zN ?_
   cases Option.some.inj h2_
   exact ⟨_, rfl, ((setAt?_len he5).trans hl5), ⟨aR, aR, aR, aR, trivial⟩, ⟨⟨rfl, .inr rfl⟩, ⟨rfl, .inr rfl⟩, ⟨rfl, .inr rfl⟩, trivial⟩⟩
  ·refine RunC.regionW ?_
   refine zM (r := i64 v6) rfl rfl rfl rfl rfl ?_
   refine zM (r := i64 a0) rfl rfl rfl rfl rfl ?_
   refine zL (r := b false) rfl rfl rfl (LOp.eqb (LOp.lss rfl rfl rfl) hc2) ?_
   refine zN ?_
   refine RunC.cond_false rfl rfl ?_
   refine RunC.exit ?_
   cases Option.some.inj h2_
   have hx := ho2 _ rfl
   exact ⟨L4, hl5, ⟨aR, aR, trivial⟩, ⟨⟨rfl, .inr rfl⟩, ⟨rfl, .inr rfl⟩, ⟨rfl, .inr rfl⟩, trivial⟩, hx⟩
 ·rintro τ3 Γ3 ⟨L11, hl12, hw3, hd3, rfl⟩
  refine RunC.wl hw3 hd3 ?_
  replace h : s_l02Unit_k1 r1 r2 L11 = some (q0, q1, q2) := h
  unfold s_l02Unit_k1 at h
  refine zQ ?_
  refine ROps.d (r := agg [i64 r1, i64 r2, oref 1 1 0 r3.length]) (fs := []) (Γ' := [⟨1, some [i64 0, i64 0, nilsl]⟩, ⟨1, some (L11.map f32)⟩, ⟨1, some [i64 r1, i64 r2, oref 1 1 0 r3.length]⟩]) rfl rfl rfl (TOp.loadAgg_o rfl agg26 siz26 rfl rfl rfl rfl) rfl ?_
  refine ROps.store_le (r := agg [i64 r1, i64 r2, oref 1 1 0 r3.length]) (l' := [i64 r1, i64 r2, oref 1 1 0 r3.length]) (Γ' := [⟨1, some [i64 r1, i64 r2, oref 1 1 0 r3.length]⟩, ⟨1, some (L11.map f32)⟩, ⟨1, some [i64 r1, i64 r2, oref 1 1 0 r3.length]⟩]) rfl siz26 rfl rfl rfl aR rfl rfl rfl rfl (Nat.le_of_ble_eq_true rfl) rfl rfl ?_
  refine zN ?_
  refine RunC.ret ?_
  have hq := Option.some.inj h
  obtain ⟨hq0, hq⟩ := Prod.mk.inj hq
  obtain ⟨hq1, hq⟩ := Prod.mk.inj hq
  subst q0
  subst q1
  subst q2
  exact bodyQ.mk (r' := agg [i64 r1, i64 r2, oref 1 1 0 L11.length]) [(1, 1)] (.inr rfl) rfl (show List.Nodup [1] from by decide) rfl rfl (Res.eq (Res.one rfl (RV.cell agg26 siz26 rfl rfl rfl rfl)) (by rw [(show L11.length = r3.length from hl12)] <;> rfl)) (SelL.arr0 (f := f32) (fun _ => rfl) rfl trivial)
noncomputable def s_l02At (a0 : Int) (a1 : Int) (a2 : List F) (a3 : Int) (a4 : Int) : Option (F) :=
 olet (IntKind.i64.wrap (a3 * a1)) fun (x1 : Int) =>
 olet (IntKind.i64.wrap (x1 + a4)) fun (x2 : Int) =>
 obind (at? a2 x2) fun (e3 : F) =>
 some e3
theorem s_l02At_ok (a0 : Int) (a1 : Int) (a2 : List F) (a3 : Int) (a4 : Int) (q0 : F) (h : s_l02At a0 a1 a2 a3 a4 = some q0) : Ev Tryz.prog 21 [ptr [i64 a0, i64 a1, sl a2.length (a2.map f32)], i64 a3, i64 a4] [] (f32 q0) [] := by
 refine Ev.start Tryz.func21 rfl rfl 0 (τ := [(0, ptr [i64 a0, i64 a1, sl a2.length (a2.map f32)]), (1, i64 a3), (2, i64 a4)]) rfl (Γ' := []) rfl (n := 43) rfl (g := 0) rfl (fun _ => rfl) ?_
 unfold s_l02At at h
 refine zQ ?_
 refine zL (r := f32 (some 0)) rfl rfl rfl (LOp.le (LOp.assign rfl rfl) (ALe.fl (by kernel_rfl) (by kernel_rfl))) ?_
 refine zN ?_
 refine RunC.seq ?_
 obtain ⟨x1, hx1, h⟩ := olet_some h
 obtain ⟨x2, hx2, h⟩ := olet_some h
 obtain ⟨e3, he3, h⟩ := obind_some h
 refine RunC.region_draw (Γ' := []) 15 mixed 
  (TR.l (r := ptr [i64 a0, i64 a1, sl a2.length (a2.map f32)]) rfl rfl (LOp.move rfl rfl) <|
  (TR.l (r := ptr [i64 a0, i64 a1, sl a2.length (a2.map f32)]) rfl rfl (LOp.nilCheck_ptr rfl rfl) <|
  (TR.l (r := ptr [sl a2.length (a2.map f32)]) rfl rfl (LOp.fap und26 rfl siz22 rfl rfl rfl) <|
  (TR.l (r := sl a2.length (a2.map f32)) rfl rfl (LOp.load1 agg22 rfl rfl) <|
  (TR.l (r := i64 a3) rfl rfl (LOp.move rfl rfl) <|
  (TR.l (r := ptr [i64 a0, i64 a1, sl a2.length (a2.map f32)]) rfl rfl (LOp.move rfl rfl) <|
  (TR.l (r := ptr [i64 a0, i64 a1, sl a2.length (a2.map f32)]) rfl rfl (LOp.nilCheck_ptr rfl rfl) <|
  (TR.l (r := ptr [i64 a1, sl a2.length (a2.map f32)]) rfl rfl (LOp.fap und26 rfl siz2 rfl rfl rfl) <|
  (TR.l (r := i64 a1) rfl rfl (LOp.load1 agg2 rfl rfl) <|
  (TR.l (r := i64 x1) rfl rfl (LOp.eqr (LOp.mul rfl rfl rfl) (congrArg (ik .i64) hx1)) <|
  (TR.l (r := i64 a4) rfl rfl (LOp.move rfl rfl) <|
  (TR.l (r := i64 x2) rfl rfl (LOp.eqr (LOp.add rfl rfl rfl) (congrArg (ik .i64) hx2)) <|
  (TR.l (r := ptr [f32 e3]) rfl rfl (LOp.le (LOp.ix (f := f32) und22 siz33 rfl rfl rfl rfl he3) ALe.ptr) <|
  (TR.l (r := f32 e3) rfl rfl (LOp.load1 agg33 rfl rfl) <|
  (TR.l (r := f32 e3) rfl rfl (LOp.assign rfl rfl) <|
  TR.nil))))))))))))))) rfl (by kernel_rfl) rfl fills_nil rfl ?_
 iterate 15 refine ROps.dropS ?_
 refine ROps.drop0 ?_
 refine zN ?_
 refine RunC.ret ?_
 have hq := Option.some.inj h
 subst q0
 exact bodyQ.pure (.inr rfl) rfl (Res.one rfl (RV.tmp rfl))
noncomputable def s_l04Sums_b1 (a0 : Int) (a1 : Int) (a2 : List F) (a3 : Int) (a4 : Int) (y1 : F) (y2 : F) (y3 : F) (v4 : Int) : Option (LR (F × F × F × Int) (F × F × F) (F × F × F)) :=
 bsel (decide (v4 < a0)) (
  obind (s_l02At a0 a1 a2 v4 a3) fun (r5 : F) =>
  obind (s_l02At a0 a1 a2 v4 a4) fun (r6 : F) =>
  olet (fop .mul .f32 r5 r5) fun (x7 : F) =>
  olet (fop .add .f32 y1 x7) fun (x8 : F) =>
  olet (fop .mul .f32 r6 r6) fun (x9 : F) =>
  olet (fop .add .f32 y2 x9) fun (x10 : F) =>
  olet (fop .mul .f32 r5 r6) fun (x11 : F) =>
  olet (fop .add .f32 y3 x11) fun (x12 : F) =>
  olet (IntKind.i64.wrap (v4 + 1)) fun (x13 : Int) =>
  some (LR.next (x8, x10, x12, x13))) (
  some (LR.out (y1, y2, y3)))
noncomputable def s_l04Sums_s1 (a0 : Int) (a1 : Int) (a2 : List F) (a3 : Int) (a4 : Int) : (F × F × F × Int) → Option (LR (F × F × F × Int) (F × F × F) (F × F × F)) := fun s => s_l04Sums_b1 a0 a1 a2 a3 a4 s.1 s.2.1 s.2.2.1 s.2.2.2
noncomputable def s_l04Sums_k1 (y14 : F) (y15 : F) (y16 : F) : Option (F × F × F) :=
 some (y14, y15, y16)
noncomputable def s_l04Sums (a0 : Int) (a1 : Int) (a2 : List F) (a3 : Int) (a4 : Int) : Option (F × F × F) :=
 obind (loopM (s_l04Sums_s1 a0 a1 a2 a3 a4) (some 0, some 0, some 0, 0)) fun z => osum z (fun e => s_l04Sums_k1 e.1 e.2.1 e.2.2) (fun r => some r)
theorem s_l04Sums_ok (a0 : Int) (a1 : Int) (a2 : List F) (a3 : Int) (a4 : Int) (q0 : F) (q1 : F) (q2 : F) (h : s_l04Sums a0 a1 a2 a3 a4 = some (q0, q1, q2)) : Ev Tryz.prog 52 [ptr [i64 a0, i64 a1, sl a2.length (a2.map f32)], i64 a3, i64 a4] [] (tup [f32 q0, f32 q1, f32 q2]) [] := by
 refine Ev.start Tryz.func52 rfl rfl 0 (τ := [(0, ptr [i64 a0, i64 a1, sl a2.length (a2.map f32)]), (1, i64 a3), (2, i64 a4)]) rfl (Γ' := []) rfl (n := 99) rfl (g := 0) rfl (fun _ => rfl) ?_
 unfold s_l04Sums at h
 refine zQ ?_
 refine zL (r := f32 (some 0)) rfl rfl rfl (LOp.le (LOp.assign rfl rfl) (ALe.fl (by kernel_rfl) (by kernel_rfl))) ?_
 refine zL (r := f32 (some 0)) rfl rfl rfl (LOp.le (LOp.assign rfl rfl) (ALe.fl (by kernel_rfl) (by kernel_rfl))) ?_
 refine zL (r := f32 (some 0)) rfl rfl rfl (LOp.le (LOp.assign rfl rfl) (ALe.fl (by kernel_rfl) (by kernel_rfl))) ?_
 refine zN ?_
 refine zQ ?_
 refine zL (r := f32 (some 0)) rfl rfl rfl (LOp.le (LOp.assign rfl rfl) (ALe.fl (by kernel_rfl) (by kernel_rfl))) ?_
 refine zN ?_
 refine zQ ?_
 refine zL (r := f32 (some 0)) rfl rfl rfl (LOp.le (LOp.assign rfl rfl) (ALe.fl (by kernel_rfl) (by kernel_rfl))) ?_
 refine zN ?_
 refine zQ ?_
 refine zL (r := f32 (some 0)) rfl rfl rfl (LOp.le (LOp.assign rfl rfl) (ALe.fl (by kernel_rfl) (by kernel_rfl))) ?_
 refine zN ?_
 refine RunC.seq ?_
 refine zQ ?_
 refine zA (r := i64 0) rfl rfl rfl rfl rfl ?_
 refine zN ?_
 obtain ⟨z2, hz_2, h⟩ := obind_some h
 refine RunC.cutN (fun τ Γ => ∃ (y14 : F) (y15 : F) (y16 : F), WeakLe τ [(9, f32 y14), (10, f32 y15), (11, f32 y16)] ∧ DeadLe Γ [] ∧ z2 = .inl (y14, y15, y16)) ?_ ?_
 ·refine RunC.block (RunC.loop (RunL.loopM (x := z2) (s_l04Sums_s1 a0 a1 a2 a3 a4) (fun (s : F × F × F × Int) τ Γ => WeakLe τ [(0, ptr [i64 a0, i64 a1, sl a2.length (a2.map f32)]), (1, i64 a3), (2, i64 a4), (9, f32 s.1), (10, f32 s.2.1), (11, f32 s.2.2.1), (12, i64 s.2.2.2)] ∧ DeadLe Γ []) ?_ _ _ _ hz_2 ⟨⟨aR, aR, aR, aR, aR, aR, aR, trivial⟩, trivial⟩))
  rintro ⟨y1, y2, y3, v4⟩ τ2 Γ2 y2_ ⟨hw2, hd2⟩ h2_ ho2 hr2
  refine RunC.wl (τ' := [(0, ptr [i64 a0, i64 a1, sl a2.length (a2.map f32)]), (1, i64 a3), (2, i64 a4), (9, f32 y1), (10, f32 y2), (11, f32 y3), (12, i64 v4)]) (Γ' := []) hw2 hd2 ?_
  replace h2_ : s_l04Sums_b1 a0 a1 a2 a3 a4 y1 y2 y3 v4 = some y2_ := h2_
  unfold s_l04Sums_b1 at h2_
  refine RunC.seq ?_
  refine RunC.seq ?_
  rcases bsel_some h2_ with ⟨hc1, h2_⟩ | ⟨hc1, h2_⟩
  ·refine RunC.regionW ?_
   refine zM (r := i64 v4) rfl rfl rfl rfl rfl ?_
   refine zM (r := ptr [i64 a0, i64 a1, sl a2.length (a2.map f32)]) rfl rfl rfl rfl rfl ?_
   refine zL (r := ptr [i64 a0, i64 a1, sl a2.length (a2.map f32)]) rfl rfl rfl (LOp.nilCheck_ptr rfl rfl) ?_
   refine zL (r := ptr [i64 a0, i64 a1, sl a2.length (a2.map f32)]) rfl rfl rfl (LOp.fap und26 rfl siz2 rfl rfl rfl) ?_
   refine zL (r := i64 a0) rfl rfl rfl (LOp.load1 agg2 rfl rfl) ?_
   refine zL (r := b true) rfl rfl rfl (LOp.eqb (LOp.lss rfl rfl rfl) hc1) ?_
   refine zN ?_
   refine RunC.cond_true rfl rfl ?_
   refine RunC.skip ?_
   refine RunC.seq ?_
   refine RunC.block ?_
   refine RunC.seq ?_
   obtain ⟨r5, hf2, h2_⟩ := obind_some h2_
   refine RunC.regionW ?_
   refine zM (r := ptr [i64 a0, i64 a1, sl a2.length (a2.map f32)]) rfl rfl rfl rfl rfl ?_
   refine zM (r := i64 v4) rfl rfl rfl rfl rfl ?_
   refine zM (r := i64 a3) rfl rfl rfl rfl rfl ?_
   refine ROps.d (r := f32 r5) (fs := []) (Γ' := []) rfl rfl rfl (TOp.callB (CallAs.func ent21 rfl rfl) (Bors.cons (Bor.ptr (Bors.cons (Bor.pure rfl) (Bors.cons (Bor.pure rfl) (Bors.cons (Bor.sl (fun _ => rfl)) Bors.nil)))) (Bors.cons (Bor.pure rfl) (Bors.cons (Bor.pure rfl) Bors.nil))) rfl rfl (s_l02At_ok a0 a1 a2 v4 a3 r5 hf2)) rfl ?_
   refine zA (r := f32 r5) rfl rfl rfl rfl rfl ?_
   refine zN ?_
   refine RunC.seq ?_
   obtain ⟨r6, hf3, h2_⟩ := obind_some h2_
   refine RunC.regionW ?_
   refine zM (r := ptr [i64 a0, i64 a1, sl a2.length (a2.map f32)]) rfl rfl rfl rfl rfl ?_
   refine zM (r := i64 v4) rfl rfl rfl rfl rfl ?_
   refine zM (r := i64 a4) rfl rfl rfl rfl rfl ?_
   refine ROps.d (r := f32 r6) (fs := []) (Γ' := []) rfl rfl rfl (TOp.callB (CallAs.func ent21 rfl rfl) (Bors.cons (Bor.ptr (Bors.cons (Bor.pure rfl) (Bors.cons (Bor.pure rfl) (Bors.cons (Bor.sl (fun _ => rfl)) Bors.nil)))) (Bors.cons (Bor.pure rfl) (Bors.cons (Bor.pure rfl) Bors.nil))) rfl rfl (s_l02At_ok a0 a1 a2 v4 a4 r6 hf3)) rfl ?_
   refine zA (r := f32 r6) rfl rfl rfl rfl rfl ?_
   refine zN ?_
   refine RunC.wl (τ' := [(0, ptr [i64 a0, i64 a1, sl a2.length (a2.map f32)]), (1, i64 a3), (2, i64 a4), (9, f32 y1), (10, f32 y2), (11, f32 y3), (12, i64 v4), (13, f32 r5), (14, f32 r6)]) (Γ' := []) ⟨aR, aR, aR, aR, aR, aR, aR, aR, aR, trivial⟩ trivial ?_
   refine RunC.seq ?_
   obtain ⟨x7, hx4, h2_⟩ := olet_some h2_
   obtain ⟨x8, hx5, h2_⟩ := olet_some h2_
   refine RunC.regionW ?_
   refine zM (r := f32 y1) rfl rfl rfl rfl rfl ?_
   refine zM (r := f32 r5) rfl rfl rfl rfl rfl ?_
   refine zM (r := f32 r5) rfl rfl rfl rfl rfl ?_
   refine ROps.d (r := f32 x7) (fs := []) (Γ' := []) rfl rfl rfl (TOp.eqr (TOp.fop (.inr (.inr (.inl rfl))) rfl (OpF.tmp rfl) (OpF.tmp rfl)) (congrArg (f .f32) hx4)) rfl ?_
   refine ROps.d (r := f32 x8) (fs := []) (Γ' := []) rfl rfl rfl (TOp.eqr (TOp.fop (.inl rfl) rfl (OpF.tmp rfl) (OpF.tmp rfl)) (congrArg (f .f32) hx5)) rfl ?_
   refine zA (r := f32 x8) rfl rfl rfl rfl rfl ?_
   refine zN ?_
   refine RunC.seq ?_
   obtain ⟨x9, hx6, h2_⟩ := olet_some h2_
   obtain ⟨x10, hx7, h2_⟩ := olet_some h2_
   refine RunC.regionW ?_
   refine zM (r := f32 y2) rfl rfl rfl rfl rfl ?_
   refine zM (r := f32 r6) rfl rfl rfl rfl rfl ?_
   refine zM (r := f32 r6) rfl rfl rfl rfl rfl ?_
   refine ROps.d (r := f32 x9) (fs := []) (Γ' := []) rfl rfl rfl (TOp.eqr (TOp.fop (.inr (.inr (.inl rfl))) rfl (OpF.tmp rfl) (OpF.tmp rfl)) (congrArg (f .f32) hx6)) rfl ?_
   refine ROps.d (r := f32 x10) (fs := []) (Γ' := []) rfl rfl rfl (TOp.eqr (TOp.fop (.inl rfl) rfl (OpF.tmp rfl) (OpF.tmp rfl)) (congrArg (f .f32) hx7)) rfl ?_
   refine zA (r := f32 x10) rfl rfl rfl rfl rfl ?_
   refine zN ?_
   obtain ⟨x11, hx8, h2_⟩ := olet_some h2_
   obtain ⟨x12, hx9, h2_⟩ := olet_some h2_
   refine RunC.regionW ?_
   refine zM (r := f32 y3) rfl rfl rfl rfl rfl ?_
   refine zM (r := f32 r5) rfl rfl rfl rfl rfl ?_
   refine zM (r := f32 r6) rfl rfl rfl rfl rfl ?_
   refine ROps.d (r := f32 x11) (fs := []) (Γ' := []) rfl rfl rfl (TOp.eqr (TOp.fop (.inr (.inr (.inl rfl))) rfl (OpF.tmp rfl) (OpF.tmp rfl)) (congrArg (f .f32) hx8)) rfl ?_
   refine ROps.d (r := f32 x12) (fs := []) (Γ' := []) rfl rfl rfl (TOp.eqr (TOp.fop (.inl rfl) rfl (OpF.tmp rfl) (OpF.tmp rfl)) (congrArg (f .f32) hx9)) rfl ?_
   refine zA (r := f32 x12) rfl rfl rfl rfl rfl ?_
   refine zN ?_
   refine RunC.wl (τ' := [(0, ptr [i64 a0, i64 a1, sl a2.length (a2.map f32)]), (1, i64 a3), (2, i64 a4), (9, f32 x8), (10, f32 x10), (11, f32 x12), (12, i64 v4)]) (Γ' := []) ⟨aR, aR, aR, aR, aR, aR, aR, trivial⟩ trivial ?_
   obtain ⟨x13, hx10, h2_⟩ := olet_some h2_
   refine RunC.regionW ?_
   refine zM (r := i64 v4) rfl rfl rfl rfl rfl ?_
   refine zL (r := i64 x13) rfl rfl rfl (LOp.eqr (LOp.add rfl rfl rfl) (congrArg (ik .i64) hx10)) ?_
   refine zA (r := i64 x13) rfl rfl rfl rfl rfl ?_
   refine zN ?_
   cases Option.some.inj h2_
   exact ⟨_, rfl, ⟨aR, aR, aR, aR, aR, aR, aR, trivial⟩, trivial⟩
  ·refine RunC.regionW ?_
   refine zM (r := i64 v4) rfl rfl rfl rfl rfl ?_
   refine zM (r := ptr [i64 a0, i64 a1, sl a2.length (a2.map f32)]) rfl rfl rfl rfl rfl ?_
   refine zL (r := ptr [i64 a0, i64 a1, sl a2.length (a2.map f32)]) rfl rfl rfl (LOp.nilCheck_ptr rfl rfl) ?_
   refine zL (r := ptr [i64 a0, i64 a1, sl a2.length (a2.map f32)]) rfl rfl rfl (LOp.fap und26 rfl siz2 rfl rfl rfl) ?_
   refine zL (r := i64 a0) rfl rfl rfl (LOp.load1 agg2 rfl rfl) ?_
   refine zL (r := b false) rfl rfl rfl (LOp.eqb (LOp.lss rfl rfl rfl) hc1) ?_
   refine zN ?_
   refine RunC.cond_false rfl rfl ?_
   refine RunC.exit ?_
   cases Option.some.inj h2_
   have hx := ho2 _ rfl
   exact ⟨y1, y2, y3, ⟨aR, aR, aR, trivial⟩, trivial, hx⟩
 ·rintro τ3 Γ3 ⟨y14, y15, y16, hw3, hd3, rfl⟩
  refine RunC.wl hw3 hd3 ?_
  replace h : s_l04Sums_k1 y14 y15 y16 = some (q0, q1, q2) := h
  unfold s_l04Sums_k1 at h
  refine zQ ?_
  refine zM (r := f32 y14) rfl rfl rfl rfl rfl ?_
  refine zM (r := f32 y15) rfl rfl rfl rfl rfl ?_
  refine zM (r := f32 y16) rfl rfl rfl rfl rfl ?_
  refine zA (r := f32 y14) rfl rfl rfl rfl rfl ?_
  refine zA (r := f32 y15) rfl rfl rfl rfl rfl ?_
  refine zA (r := f32 y16) rfl rfl rfl rfl rfl ?_
  refine zN ?_
  refine RunC.ret ?_
  have hq := Option.some.inj h
  obtain ⟨hq0, hq⟩ := Prod.mk.inj hq
  obtain ⟨hq1, hq⟩ := Prod.mk.inj hq
  subst q0
  subst q1
  subst q2
  exact bodyQ.pure (.inr rfl) rfl (Res.three rfl (RV.tmp rfl) (RV.tmp rfl) (RV.tmp rfl))
noncomputable def s_l02Size (a0 : F) : Option (F) :=
 bsel (fle .f32 a0 (some 0)) (
  olet (fop .sub .f32 (some 0) a0) fun (x1 : F) =>
  some x1) (
  some a0)
theorem s_l02Size_ok (a0 : F) (q0 : F) (h : s_l02Size a0 = some q0) : Ev Tryz.prog 95 [f32 a0] [] (f32 q0) [] := by
 refine Ev.start Tryz.func95 rfl rfl 0 (τ := [(0, f32 a0)]) rfl (Γ' := []) rfl (n := 17) rfl (g := 0) rfl (fun _ => rfl) ?_
 unfold s_l02Size at h
 refine zQ ?_
 refine zL (r := f32 (some 0)) rfl rfl rfl (LOp.le (LOp.assign rfl rfl) (ALe.fl (by kernel_rfl) (by kernel_rfl))) ?_
 refine zN ?_
 refine RunC.seq ?_
 refine RunC.seq ?_
 rcases bsel_some h with ⟨hc1, h⟩ | ⟨hc1, h⟩
 ·refine RunC.regionW ?_
  refine zM (r := f32 a0) rfl rfl rfl rfl rfl ?_
  refine zL (r := b true) rfl rfl rfl (LOp.eqb (LOp.fle rfl (OpF.tmp rfl) (OpF.const rfl (by kernel_rfl) (by kernel_rfl))) hc1) ?_
  refine zN ?_
  refine RunC.cond_true rfl rfl ?_
  refine RunC.seq ?_
  obtain ⟨x1, hx2, h⟩ := olet_some h
  refine RunC.regionW ?_
  refine zM (r := f32 a0) rfl rfl rfl rfl rfl ?_
  refine ROps.d (r := f32 x1) (fs := []) (Γ' := []) rfl rfl rfl (TOp.eqr (TOp.fop (.inr (.inl rfl)) rfl (OpF.const rfl (by kernel_rfl) (by kernel_rfl)) (OpF.tmp rfl)) (congrArg (f .f32) hx2)) rfl ?_
  refine zA (r := f32 x1) rfl rfl rfl rfl rfl ?_
  refine zN ?_
  refine RunC.ret ?_
  have hq := Option.some.inj h
  subst q0
  exact bodyQ.pure (.inr rfl) rfl (Res.one rfl (RV.tmp rfl))
 ·refine RunC.regionW ?_
  refine zM (r := f32 a0) rfl rfl rfl rfl rfl ?_
  refine zL (r := b false) rfl rfl rfl (LOp.eqb (LOp.fle rfl (OpF.tmp rfl) (OpF.const rfl (by kernel_rfl) (by kernel_rfl))) hc1) ?_
  refine zN ?_
  refine RunC.cond_false rfl rfl ?_
  refine RunC.skip ?_
  refine zQ ?_
  refine zM (r := f32 a0) rfl rfl rfl rfl rfl ?_
  refine zA (r := f32 a0) rfl rfl rfl rfl rfl ?_
  refine zN ?_
  refine RunC.ret ?_
  have hq := Option.some.inj h
  subst q0
  exact bodyQ.pure (.inr rfl) rfl (Res.one rfl (RV.tmp rfl))
noncomputable def x_math_Sqrt (a0 : F) : Option (F) :=
 olet (fsqrt a0) fun (x1 : F) =>
 some x1
theorem x_math_Sqrt_ok (a0 : F) (q0 : F) (h : x_math_Sqrt a0 = some q0) : Ev Tryz.prog 130 [f64 a0] [] (f64 q0) [] := by
 refine Ev.start Tryz.func130 rfl rfl 0 (τ := [(0, f64 a0)]) rfl (Γ' := []) rfl (n := 11) rfl (g := 0) rfl (fun _ => rfl) ?_
 unfold x_math_Sqrt at h
 refine zQ ?_
 refine zL (r := f64 (some 0)) rfl rfl rfl (LOp.le (LOp.assign rfl rfl) (ALe.fl (by kernel_rfl) (by kernel_rfl))) ?_
 refine zN ?_
 refine RunC.seq ?_
 obtain ⟨x1, hx1, h⟩ := olet_some h
 refine RunC.regionW ?_
 refine zM (r := f64 a0) rfl rfl rfl rfl rfl ?_
 refine ROps.d (r := f64 x1) (fs := []) (Γ' := []) rfl rfl rfl (TOp.eqr (TOp.fsqrt ext145 rfl (OpF.tmp rfl)) (congrArg (f .f64) hx1)) rfl ?_
 refine zA (r := f64 x1) rfl rfl rfl rfl rfl ?_
 refine zN ?_
 refine RunC.ret ?_
 have hq := Option.some.inj h
 subst q0
 exact bodyQ.pure (.inr rfl) rfl (Res.one rfl (RV.tmp rfl))
noncomputable def s_l01Narrow (a0 : F) : Option (F) :=
 obind (fnarrow a0) fun (y1 : F) =>
 some y1
theorem s_l01Narrow_ok (a0 : F) (q0 : F) (h : s_l01Narrow a0 = some q0) : Ev Tryz.prog 129 [f64 a0] [] (f32 q0) [] := by
 refine Ev.start Tryz.func129 rfl rfl 0 (τ := [(0, f64 a0)]) rfl (Γ' := []) rfl (n := 11) rfl (g := 0) rfl (fun _ => rfl) ?_
 unfold s_l01Narrow at h
 refine zQ ?_
 refine zL (r := f32 (some 0)) rfl rfl rfl (LOp.le (LOp.assign rfl rfl) (ALe.fl (by kernel_rfl) (by kernel_rfl))) ?_
 refine zN ?_
 refine RunC.seq ?_
 obtain ⟨y1, hy1, h⟩ := obind_some h
 refine RunC.regionW ?_
 refine zM (r := f64 a0) rfl rfl rfl rfl rfl ?_
 refine ROps.d (r := f32 y1) (fs := []) (Γ' := []) rfl rfl rfl (TOp.narrow (src := 37) (dst := 33) ⟨_, pun37⟩ pun33 rfl (OpF.tmp rfl) hy1) rfl ?_
 refine zA (r := f32 y1) rfl rfl rfl rfl rfl ?_
 refine zN ?_
 refine RunC.ret ?_
 have hq := Option.some.inj h
 subst q0
 exact bodyQ.pure (.inr rfl) rfl (Res.one rfl (RV.tmp rfl))
noncomputable def s_l01Sqrt (a0 : F) : Option (F) :=
 olet (fwiden a0) fun (x1 : F) =>
 obind (x_math_Sqrt x1) fun (r2 : F) =>
 obind (s_l01Narrow r2) fun (r3 : F) =>
 some r3
theorem s_l01Sqrt_ok (a0 : F) (q0 : F) (h : s_l01Sqrt a0 = some q0) : Ev Tryz.prog 96 [f32 a0] [] (f32 q0) [] := by
 refine Ev.start Tryz.func96 rfl rfl 0 (τ := [(0, f32 a0)]) rfl (Γ' := []) rfl (n := 15) rfl (g := 0) rfl (fun _ => rfl) ?_
 unfold s_l01Sqrt at h
 refine zQ ?_
 refine zL (r := f32 (some 0)) rfl rfl rfl (LOp.le (LOp.assign rfl rfl) (ALe.fl (by kernel_rfl) (by kernel_rfl))) ?_
 refine zN ?_
 refine RunC.seq ?_
 obtain ⟨x1, hx1, h⟩ := olet_some h
 obtain ⟨r2, hf2, h⟩ := obind_some h
 obtain ⟨r3, hf3, h⟩ := obind_some h
 refine RunC.regionW ?_
 refine zM (r := f32 a0) rfl rfl rfl rfl rfl ?_
 refine ROps.d (r := f64 x1) (fs := []) (Γ' := []) rfl rfl rfl (TOp.eqr (TOp.widen (src := 33) (dst := 37) ⟨_, pun33⟩ pun37 rfl (OpF.tmp rfl)) (congrArg (f .f64) hx1)) rfl ?_
 refine ROps.d (r := f64 r2) (fs := []) (Γ' := []) rfl rfl rfl (TOp.callB (CallAs.func ent130 rfl rfl) (Bors.cons (Bor.pure rfl) Bors.nil) rfl rfl (x_math_Sqrt_ok x1 r2 hf2)) rfl ?_
 refine ROps.d (r := f32 r3) (fs := []) (Γ' := []) rfl rfl rfl (TOp.callB (CallAs.func ent129 rfl rfl) (Bors.cons (Bor.pure rfl) Bors.nil) rfl rfl (s_l01Narrow_ok r2 r3 hf3)) rfl ?_
 refine zA (r := f32 r3) rfl rfl rfl rfl rfl ?_
 refine zN ?_
 refine RunC.ret ?_
 have hq := Option.some.inj h
 subst q0
 exact bodyQ.pure (.inr rfl) rfl (Res.one rfl (RV.tmp rfl))
noncomputable def s_l04Cosine_k1 (y8 : F) : Option (F × F) :=
 olet (fop .mul .f32 y8 y8) fun (x9 : F) =>
 olet (fop .add .f32 x9 (some 1065353216)) fun (x10 : F) =>
 obind (s_l01Sqrt x10) fun (r11 : F) =>
 olet (fop .quo .f32 (some 1065353216) r11) fun (x12 : F) =>
 olet (fop .mul .f32 y8 x12) fun (x13 : F) =>
 some (x12, x13)
noncomputable def s_l04Cosine (a0 : F) : Option (F × F) :=
 obind (s_l02Size a0) fun (r1 : F) =>
 olet (fop .mul .f32 a0 a0) fun (x2 : F) =>
 olet (fop .add .f32 x2 (some 1065353216)) fun (x3 : F) =>
 obind (s_l01Sqrt x3) fun (r4 : F) =>
 olet (fop .add .f32 r1 r4) fun (x5 : F) =>
 olet (fop .quo .f32 (some 1065353216) x5) fun (x6 : F) =>
 bsel (flt .f32 a0 (some 0)) (
  olet (fneg .f32 x6) fun (x7 : F) =>
  s_l04Cosine_k1 x7) (
  s_l04Cosine_k1 x6)
theorem s_l04Cosine_ok (a0 : F) (q0 : F) (q1 : F) (h : s_l04Cosine a0 = some (q0, q1)) : Ev Tryz.prog 54 [f32 a0] [] (tup [f32 q0, f32 q1]) [] := by
 refine Ev.start Tryz.func54 rfl rfl 0 (τ := [(0, f32 a0)]) rfl (Γ' := []) rfl (n := 59) rfl (g := 0) rfl (fun _ => rfl) ?_
 unfold s_l04Cosine at h
 refine zQ ?_
 refine zL (r := f32 (some 0)) rfl rfl rfl (LOp.le (LOp.assign rfl rfl) (ALe.fl (by kernel_rfl) (by kernel_rfl))) ?_
 refine zL (r := f32 (some 0)) rfl rfl rfl (LOp.le (LOp.assign rfl rfl) (ALe.fl (by kernel_rfl) (by kernel_rfl))) ?_
 refine zN ?_
 refine RunC.seq ?_
 obtain ⟨r1, hf1, h⟩ := obind_some h
 obtain ⟨x2, hx2, h⟩ := olet_some h
 obtain ⟨x3, hx3, h⟩ := olet_some h
 obtain ⟨r4, hf4, h⟩ := obind_some h
 obtain ⟨x5, hx5, h⟩ := olet_some h
 obtain ⟨x6, hx6, h⟩ := olet_some h
 refine RunC.regionW ?_
 refine zM (r := f32 a0) rfl rfl rfl rfl rfl ?_
 refine ROps.d (r := f32 r1) (fs := []) (Γ' := []) rfl rfl rfl (TOp.callB (CallAs.func ent95 rfl rfl) (Bors.cons (Bor.pure rfl) Bors.nil) rfl rfl (s_l02Size_ok a0 r1 hf1)) rfl ?_
 refine zM (r := f32 a0) rfl rfl rfl rfl rfl ?_
 refine zM (r := f32 a0) rfl rfl rfl rfl rfl ?_
 refine ROps.d (r := f32 x2) (fs := []) (Γ' := []) rfl rfl rfl (TOp.eqr (TOp.fop (.inr (.inr (.inl rfl))) rfl (OpF.tmp rfl) (OpF.tmp rfl)) (congrArg (f .f32) hx2)) rfl ?_
 refine ROps.d (r := f32 x3) (fs := []) (Γ' := []) rfl rfl rfl (TOp.eqr (TOp.fop (.inl rfl) rfl (OpF.tmp rfl) (OpF.const rfl (by kernel_rfl) (by kernel_rfl))) (congrArg (f .f32) hx3)) rfl ?_
 refine ROps.d (r := f32 r4) (fs := []) (Γ' := []) rfl rfl rfl (TOp.callB (CallAs.func ent96 rfl rfl) (Bors.cons (Bor.pure rfl) Bors.nil) rfl rfl (s_l01Sqrt_ok x3 r4 hf4)) rfl ?_
 refine ROps.d (r := f32 x5) (fs := []) (Γ' := []) rfl rfl rfl (TOp.eqr (TOp.fop (.inl rfl) rfl (OpF.tmp rfl) (OpF.tmp rfl)) (congrArg (f .f32) hx5)) rfl ?_
 refine ROps.d (r := f32 x6) (fs := []) (Γ' := []) rfl rfl rfl (TOp.eqr (TOp.fop (.inr (.inr (.inr rfl))) rfl (OpF.const rfl (by kernel_rfl) (by kernel_rfl)) (OpF.tmp rfl)) (congrArg (f .f32) hx6)) rfl ?_
 refine zA (r := f32 x6) rfl rfl rfl rfl rfl ?_
 refine zN ?_
 refine RunC.seq ?_
 refine RunC.cutN (fun τ Γ => ∃ (y8 : F), WeakLe τ [(4, f32 y8)] ∧ DeadLe Γ [] ∧ s_l04Cosine_k1 y8 = some (q0, q1)) ?_ ?_
 ·refine RunC.seq ?_
  rcases bsel_some h with ⟨hc7, h⟩ | ⟨hc7, h⟩
  ·refine RunC.regionW ?_
   refine zM (r := f32 a0) rfl rfl rfl rfl rfl ?_
   refine zL (r := b true) rfl rfl rfl (LOp.eqb (LOp.flt rfl (OpF.tmp rfl) (OpF.const rfl (by kernel_rfl) (by kernel_rfl))) hc7) ?_
   refine zN ?_
   refine RunC.wl (τ' := [(4, f32 x6), (16, b true)]) (Γ' := []) ⟨aR, aR, trivial⟩ trivial ?_
   refine RunC.cond_true rfl rfl ?_
   obtain ⟨x7, hx8, h⟩ := olet_some h
   refine RunC.regionW ?_
   refine zM (r := f32 x6) rfl rfl rfl rfl rfl ?_
   refine zL (r := f32 x7) rfl rfl rfl (LOp.eqr (LOp.fneg rfl (OpF.tmp rfl)) (congrArg (f .f32) hx8)) ?_
   refine zA (r := f32 x7) rfl rfl rfl rfl rfl ?_
   refine zN ?_
   exact ⟨x7, ⟨aR, trivial⟩, trivial, h⟩
  ·refine RunC.regionW ?_
   refine zM (r := f32 a0) rfl rfl rfl rfl rfl ?_
   refine zL (r := b false) rfl rfl rfl (LOp.eqb (LOp.flt rfl (OpF.tmp rfl) (OpF.const rfl (by kernel_rfl) (by kernel_rfl))) hc7) ?_
   refine zN ?_
   refine RunC.wl (τ' := [(4, f32 x6), (16, b false)]) (Γ' := []) ⟨aR, aR, trivial⟩ trivial ?_
   refine RunC.cond_false rfl rfl ?_
   refine RunC.skip ?_
   exact ⟨x6, ⟨aR, trivial⟩, trivial, h⟩
 ·rintro τ2 Γ2 ⟨y8, hw2, hd2, h⟩
  refine RunC.wl hw2 hd2 ?_
  unfold s_l04Cosine_k1 at h
  refine RunC.seq ?_
  obtain ⟨x9, hx9, h⟩ := olet_some h
  obtain ⟨x10, hx10, h⟩ := olet_some h
  obtain ⟨r11, hf11, h⟩ := obind_some h
  obtain ⟨x12, hx12, h⟩ := olet_some h
  refine RunC.regionW ?_
  refine zM (r := f32 y8) rfl rfl rfl rfl rfl ?_
  refine zM (r := f32 y8) rfl rfl rfl rfl rfl ?_
  refine ROps.d (r := f32 x9) (fs := []) (Γ' := []) rfl rfl rfl (TOp.eqr (TOp.fop (.inr (.inr (.inl rfl))) rfl (OpF.tmp rfl) (OpF.tmp rfl)) (congrArg (f .f32) hx9)) rfl ?_
  refine ROps.d (r := f32 x10) (fs := []) (Γ' := []) rfl rfl rfl (TOp.eqr (TOp.fop (.inl rfl) rfl (OpF.tmp rfl) (OpF.const rfl (by kernel_rfl) (by kernel_rfl))) (congrArg (f .f32) hx10)) rfl ?_
  refine ROps.d (r := f32 r11) (fs := []) (Γ' := []) rfl rfl rfl (TOp.callB (CallAs.func ent96 rfl rfl) (Bors.cons (Bor.pure rfl) Bors.nil) rfl rfl (s_l01Sqrt_ok x10 r11 hf11)) rfl ?_
  refine ROps.d (r := f32 x12) (fs := []) (Γ' := []) rfl rfl rfl (TOp.eqr (TOp.fop (.inr (.inr (.inr rfl))) rfl (OpF.const rfl (by kernel_rfl) (by kernel_rfl)) (OpF.tmp rfl)) (congrArg (f .f32) hx12)) rfl ?_
  refine zA (r := f32 x12) rfl rfl rfl rfl rfl ?_
  refine zN ?_
  refine RunC.seq ?_
  obtain ⟨x13, hx13, h⟩ := olet_some h
  refine RunC.regionW ?_
  refine zM (r := f32 x12) rfl rfl rfl rfl rfl ?_
  refine zM (r := f32 y8) rfl rfl rfl rfl rfl ?_
  refine zM (r := f32 x12) rfl rfl rfl rfl rfl ?_
  refine ROps.d (r := f32 x13) (fs := []) (Γ' := []) rfl rfl rfl (TOp.eqr (TOp.fop (.inr (.inr (.inl rfl))) rfl (OpF.tmp rfl) (OpF.tmp rfl)) (congrArg (f .f32) hx13)) rfl ?_
  refine zA (r := f32 x12) rfl rfl rfl rfl rfl ?_
  refine zA (r := f32 x13) rfl rfl rfl rfl rfl ?_
  refine zN ?_
  refine RunC.ret ?_
  have hq := Option.some.inj h
  obtain ⟨hq0, hq⟩ := Prod.mk.inj hq
  subst q0
  subst q1
  exact bodyQ.pure (.inr rfl) rfl (Res.two rfl (RV.tmp rfl) (RV.tmp rfl))
noncomputable def s_l04Columns_0p0_C02o1_b1 (a0 : Int) (a1 : Int) (a2 : F) (a3 : F) (a4 : Int) (a5 : Int) (L1 : List F) (v3 : Int) : Option (LR ((List F) × Int) ((List F)) ((List F))) :=
 bsel (decide (v3 < a4)) (
  obind (s_l02At a4 a5 L1 v3 a0) fun (r4 : F) =>
  obind (s_l02At a4 a5 L1 v3 a1) fun (r5 : F) =>
  olet (IntKind.i64.wrap (v3 * a5)) fun (x6 : Int) =>
  olet (IntKind.i64.wrap (x6 + a0)) fun (x7 : Int) =>
  olet (fop .mul .f32 a2 r4) fun (x8 : F) =>
  olet (fop .mul .f32 a3 r5) fun (x9 : F) =>
  olet (fop .sub .f32 x8 x9) fun (x10 : F) =>
  obind (setAt? L1 x7 x10) fun (L11 : List F) =>
  olet (IntKind.i64.wrap (v3 * a5)) fun (x12 : Int) =>
  olet (IntKind.i64.wrap (x12 + a1)) fun (x13 : Int) =>
  olet (fop .mul .f32 a3 r4) fun (x14 : F) =>
  olet (fop .mul .f32 a2 r5) fun (x15 : F) =>
  olet (fop .add .f32 x14 x15) fun (x16 : F) =>
  obind (setAt? L11 x13 x16) fun (L17 : List F) =>
  olet (IntKind.i64.wrap (v3 + 1)) fun (x18 : Int) =>
  some (LR.next (L17, x18))) (
  some (LR.out L1))
noncomputable def s_l04Columns_0p0_C02o1_s1 (a0 : Int) (a1 : Int) (a2 : F) (a3 : F) (a4 : Int) (a5 : Int) : ((List F) × Int) → Option (LR ((List F) × Int) ((List F)) ((List F))) := fun s => s_l04Columns_0p0_C02o1_b1 a0 a1 a2 a3 a4 a5 s.1 s.2
noncomputable def s_l04Columns_0p0_C02o1_k1 (L19 : List F) : Option ((List F)) :=
 some L19
noncomputable def s_l04Columns_0p0_C02o1 (a0 : Int) (a1 : Int) (a2 : F) (a3 : F) (a4 : Int) (a5 : Int) (a6 : List F) : Option ((List F)) :=
 obind (loopM (s_l04Columns_0p0_C02o1_s1 a0 a1 a2 a3 a4 a5) (a6, 0)) fun z => osum z (fun e => s_l04Columns_0p0_C02o1_k1 e) (fun r => some r)
theorem s_l04Columns_0p0_C02o1_ok (a0 : Int) (a1 : Int) (a2 : F) (a3 : F) (a4 : Int) (a5 : Int) (a6 : List F) (q0 : List F) (h : s_l04Columns_0p0_C02o1 a0 a1 a2 a3 a4 a5 a6 = some q0) : Ev Tryz.prog 55 [optr 0 0 0, i64 a0, i64 a1, f32 a2, f32 a3] [⟨0, some [i64 a4, i64 a5, oref 1 0 0 a6.length]⟩, ⟨0, some (a6.map f32)⟩] (tup []) [⟨0, some [i64 a4, i64 a5, oref 1 0 0 a6.length]⟩, ⟨0, some (q0.map f32)⟩] := by
 refine Ev.start Tryz.func55 rfl rfl 0 (τ := [(0, optr 0 0 0), (1, i64 a0), (2, i64 a1), (3, f32 a2), (4, f32 a3)]) rfl (Γ' := [⟨0, some [i64 a4, i64 a5, oref 1 0 0 a6.length]⟩, ⟨0, some (a6.map f32)⟩]) rfl (n := 138) rfl (g := 2) rfl (by decide) ?_
 unfold s_l04Columns_0p0_C02o1 at h
 refine zQ ?_
 refine zA (r := i64 0) rfl rfl rfl rfl rfl ?_
 refine zN ?_
 obtain ⟨z2, hz_2, h⟩ := obind_some h
 refine RunC.cutN (fun τ Γ => ∃ (L19 : List F), L19.length = a6.length ∧ WeakLe τ [] ∧ DeadLe Γ [⟨0, some [i64 a4, i64 a5, oref 1 0 0 a6.length]⟩, ⟨0, some (L19.map f32)⟩] ∧ z2 = .inl L19) ?_ ?_
 ·refine RunC.block (RunC.loop (RunL.loopM (x := z2) (s_l04Columns_0p0_C02o1_s1 a0 a1 a2 a3 a4 a5) (fun (s : (List F) × Int) τ Γ => s.1.length = a6.length ∧ WeakLe τ [(0, optr 0 0 0), (1, i64 a0), (2, i64 a1), (3, f32 a2), (4, f32 a3), (10, i64 s.2)] ∧ DeadLe Γ [⟨0, some [i64 a4, i64 a5, oref 1 0 0 a6.length]⟩, ⟨0, some (s.1.map f32)⟩]) ?_ _ _ _ hz_2 ⟨rfl, ⟨aR, aR, aR, aR, aR, aR, trivial⟩, ⟨⟨rfl, .inr rfl⟩, ⟨rfl, .inr rfl⟩, trivial⟩⟩))
  rintro ⟨L1, v3⟩ τ2 Γ2 y2_ ⟨hl2, hw2, hd2⟩ h2_ ho2 hr2
  refine RunC.wl (τ' := [(0, optr 0 0 0), (1, i64 a0), (2, i64 a1), (3, f32 a2), (4, f32 a3), (10, i64 v3)]) (Γ' := [⟨0, some [i64 a4, i64 a5, oref 1 0 0 a6.length]⟩, ⟨0, some (L1.map f32)⟩]) hw2 hd2 ?_
  replace hl2 : L1.length = a6.length := hl2
  replace h2_ : s_l04Columns_0p0_C02o1_b1 a0 a1 a2 a3 a4 a5 L1 v3 = some y2_ := h2_
  unfold s_l04Columns_0p0_C02o1_b1 at h2_
  refine RunC.seq ?_
  refine RunC.seq ?_
  rcases bsel_some h2_ with ⟨hc1, h2_⟩ | ⟨hc1, h2_⟩
  ·refine RunC.regionW ?_
   refine zM (r := i64 v3) rfl rfl rfl rfl rfl ?_
   refine zM (r := optr 0 0 0) rfl rfl rfl rfl rfl ?_
   refine zL (r := optr 0 0 0) rfl rfl rfl (LOp.nilCheck_optr rfl rfl) ?_
   refine zL (r := optr 0 0 0) rfl rfl rfl (LOp.fao und26 rfl siz2 rfl rfl rfl) ?_
   refine ROps.d (r := i64 a4) (fs := []) (Γ' := [⟨0, some [i64 a4, i64 a5, oref 1 0 0 a6.length]⟩, ⟨0, some (L1.map f32)⟩]) rfl rfl rfl (TOp.load1_o rfl rfl agg2 rfl rfl) rfl ?_
   refine zL (r := b true) rfl rfl rfl (LOp.eqb (LOp.lss rfl rfl rfl) hc1) ?_
   refine zN ?_
   refine RunC.cond_true rfl rfl ?_
   refine RunC.skip ?_
   refine RunC.seq ?_
   refine RunC.block ?_
   refine RunC.seq ?_
   obtain ⟨r4, hf2, h2_⟩ := obind_some h2_
   refine RunC.regionW ?_
   refine zM (r := optr 0 0 0) rfl rfl rfl rfl rfl ?_
   refine zM (r := i64 v3) rfl rfl rfl rfl rfl ?_
   refine zM (r := i64 a0) rfl rfl rfl rfl rfl ?_
   refine ROps.d (r := f32 r4) (fs := []) (Γ' := [⟨0, some [i64 a4, i64 a5, oref 1 0 0 a6.length]⟩, ⟨0, some (L1.map f32)⟩]) rfl rfl rfl (TOp.callB (CallAs.func ent21 rfl rfl) (Bors.cons (Bor.optr rfl (Bors.p (Bors.cons (Bor.pure rfl) (Bors.cons (Bor.pure rfl) (Bors.cons (Bor.own (f := f32) (fun _ => rfl) rfl hl2) Bors.nil)))) rfl) (Bors.cons (Bor.pure rfl) (Bors.cons (Bor.pure rfl) Bors.nil))) rfl rfl (s_l02At_ok a4 a5 L1 v3 a0 r4 hf2)) rfl ?_
   refine zA (r := f32 r4) rfl rfl rfl rfl rfl ?_
   refine zN ?_
   refine RunC.seq ?_
   obtain ⟨r5, hf3, h2_⟩ := obind_some h2_
   refine RunC.regionW ?_
   refine zM (r := optr 0 0 0) rfl rfl rfl rfl rfl ?_
   refine zM (r := i64 v3) rfl rfl rfl rfl rfl ?_
   refine zM (r := i64 a1) rfl rfl rfl rfl rfl ?_
   refine ROps.d (r := f32 r5) (fs := []) (Γ' := [⟨0, some [i64 a4, i64 a5, oref 1 0 0 a6.length]⟩, ⟨0, some (L1.map f32)⟩]) rfl rfl rfl (TOp.callB (CallAs.func ent21 rfl rfl) (Bors.cons (Bor.optr rfl (Bors.p (Bors.cons (Bor.pure rfl) (Bors.cons (Bor.pure rfl) (Bors.cons (Bor.own (f := f32) (fun _ => rfl) rfl hl2) Bors.nil)))) rfl) (Bors.cons (Bor.pure rfl) (Bors.cons (Bor.pure rfl) Bors.nil))) rfl rfl (s_l02At_ok a4 a5 L1 v3 a1 r5 hf3)) rfl ?_
   refine zA (r := f32 r5) rfl rfl rfl rfl rfl ?_
   refine zN ?_
   refine RunC.wl (τ' := [(0, optr 0 0 0), (1, i64 a0), (2, i64 a1), (3, f32 a2), (4, f32 a3), (10, i64 v3), (11, f32 r4), (12, f32 r5)]) (Γ' := [⟨0, some [i64 a4, i64 a5, oref 1 0 0 a6.length]⟩, ⟨0, some (L1.map f32)⟩]) ⟨aR, aR, aR, aR, aR, aR, aR, aR, trivial⟩ ⟨⟨rfl, .inr rfl⟩, ⟨rfl, .inr rfl⟩, trivial⟩ ?_
   refine RunC.seq ?_
   obtain ⟨x6, hx4, h2_⟩ := olet_some h2_
   obtain ⟨x7, hx5, h2_⟩ := olet_some h2_
   obtain ⟨x8, hx6, h2_⟩ := olet_some h2_
   obtain ⟨x9, hx7, h2_⟩ := olet_some h2_
   obtain ⟨x10, hx8, h2_⟩ := olet_some h2_
   obtain ⟨L11, he9, h2_⟩ := obind_some h2_
   refine RunC.region_draw (Γ' := [⟨0, some [i64 a4, i64 a5, oref 1 0 0 a6.length]⟩, ⟨0, some (L1.map f32)⟩]) 20 mixed 
    (TR.l (r := optr 0 0 0) rfl rfl (LOp.move rfl rfl) <|
    (TR.l (r := optr 0 0 0) rfl rfl (LOp.nilCheck_optr rfl rfl) <|
    (TR.l (r := optr 0 0 2) rfl rfl (LOp.fao und26 rfl siz22 rfl rfl rfl) <|
    (TR.d (r := oref 1 0 0 a6.length) (fs := []) rfl rfl (TOp.load1_o rfl rfl agg22 rfl rfl) <|
    (TR.l (r := i64 v3) rfl rfl (LOp.move rfl rfl) <|
    (TR.l (r := optr 0 0 0) rfl rfl (LOp.move rfl rfl) <|
    (TR.l (r := optr 0 0 0) rfl rfl (LOp.nilCheck_optr rfl rfl) <|
    (TR.l (r := optr 0 0 1) rfl rfl (LOp.fao und26 rfl siz2 rfl rfl rfl) <|
    (TR.d (r := i64 a5) (fs := []) rfl rfl (TOp.load1_o rfl rfl agg2 rfl rfl) <|
    (TR.l (r := i64 x6) rfl rfl (LOp.eqr (LOp.mul rfl rfl rfl) (congrArg (ik .i64) hx4)) <|
    (TR.l (r := i64 a0) rfl rfl (LOp.move rfl rfl) <|
    (TR.l (r := i64 x7) rfl rfl (LOp.eqr (LOp.add rfl rfl rfl) (congrArg (ik .i64) hx5)) <|
    (TR.l (r := f32 a2) rfl rfl (LOp.move rfl rfl) <|
    (TR.l (r := f32 r4) rfl rfl (LOp.move rfl rfl) <|
    (TR.d (r := f32 x8) (fs := []) rfl rfl (TOp.eqr (TOp.fop (.inr (.inr (.inl rfl))) rfl (OpF.tmp rfl) (OpF.tmp rfl)) (congrArg (f .f32) hx6)) <|
    (TR.l (r := f32 a3) rfl rfl (LOp.move rfl rfl) <|
    (TR.l (r := f32 r5) rfl rfl (LOp.move rfl rfl) <|
    (TR.d (r := f32 x9) (fs := []) rfl rfl (TOp.eqr (TOp.fop (.inr (.inr (.inl rfl))) rfl (OpF.tmp rfl) (OpF.tmp rfl)) (congrArg (f .f32) hx7)) <|
    (TR.d (r := f32 x10) (fs := []) rfl rfl (TOp.eqr (TOp.fop (.inr (.inl rfl)) rfl (OpF.tmp rfl) (OpF.tmp rfl)) (congrArg (f .f32) hx8)) <|
    (TR.d (r := optr 1 0 x7.toNat) (fs := []) rfl rfl (TOp.ixo und22 siz33 rfl rfl rfl (set_in he9 hl2) rfl) <|
    TR.nil)))))))))))))))))))) rfl (by kernel_rfl) rfl fills_nil rfl ?_
   iterate 20 refine ROps.dropS ?_
   refine ROps.drop0 ?_
   refine ROps.st (f := f32) (i := x7) (Γ' := [⟨0, some [i64 a4, i64 a5, oref 1 0 0 a6.length]⟩, ⟨0, some (L11.map f32)⟩]) rfl siz33 rfl rfl rfl aR rfl rfl rfl he9 rfl ?_
   refine zN ?_
   refine RunC.wl (τ' := [(0, optr 0 0 0), (1, i64 a0), (2, i64 a1), (3, f32 a2), (4, f32 a3), (10, i64 v3), (11, f32 r4), (12, f32 r5)]) (Γ' := [⟨0, some [i64 a4, i64 a5, oref 1 0 0 a6.length]⟩, ⟨0, some (L11.map f32)⟩]) ⟨aR, aR, aR, aR, aR, aR, aR, aR, trivial⟩ ⟨⟨rfl, .inr rfl⟩, ⟨rfl, .inr rfl⟩, trivial⟩ ?_
   obtain ⟨x12, hx10, h2_⟩ := olet_some h2_
   obtain ⟨x13, hx11, h2_⟩ := olet_some h2_
   obtain ⟨x14, hx12, h2_⟩ := olet_some h2_
   obtain ⟨x15, hx13, h2_⟩ := olet_some h2_
   obtain ⟨x16, hx14, h2_⟩ := olet_some h2_
   obtain ⟨L17, he15, h2_⟩ := obind_some h2_
   refine RunC.region_draw (Γ' := [⟨0, some [i64 a4, i64 a5, oref 1 0 0 a6.length]⟩, ⟨0, some (L11.map f32)⟩]) 20 mixed 
    (TR.l (r := optr 0 0 0) rfl rfl (LOp.move rfl rfl) <|
    (TR.l (r := optr 0 0 0) rfl rfl (LOp.nilCheck_optr rfl rfl) <|
    (TR.l (r := optr 0 0 2) rfl rfl (LOp.fao und26 rfl siz22 rfl rfl rfl) <|
    (TR.d (r := oref 1 0 0 a6.length) (fs := []) rfl rfl (TOp.load1_o rfl rfl agg22 rfl rfl) <|
    (TR.l (r := i64 v3) rfl rfl (LOp.move rfl rfl) <|
    (TR.l (r := optr 0 0 0) rfl rfl (LOp.move rfl rfl) <|
    (TR.l (r := optr 0 0 0) rfl rfl (LOp.nilCheck_optr rfl rfl) <|
    (TR.l (r := optr 0 0 1) rfl rfl (LOp.fao und26 rfl siz2 rfl rfl rfl) <|
    (TR.d (r := i64 a5) (fs := []) rfl rfl (TOp.load1_o rfl rfl agg2 rfl rfl) <|
    (TR.l (r := i64 x12) rfl rfl (LOp.eqr (LOp.mul rfl rfl rfl) (congrArg (ik .i64) hx10)) <|
    (TR.l (r := i64 a1) rfl rfl (LOp.move rfl rfl) <|
    (TR.l (r := i64 x13) rfl rfl (LOp.eqr (LOp.add rfl rfl rfl) (congrArg (ik .i64) hx11)) <|
    (TR.l (r := f32 a3) rfl rfl (LOp.move rfl rfl) <|
    (TR.l (r := f32 r4) rfl rfl (LOp.move rfl rfl) <|
    (TR.d (r := f32 x14) (fs := []) rfl rfl (TOp.eqr (TOp.fop (.inr (.inr (.inl rfl))) rfl (OpF.tmp rfl) (OpF.tmp rfl)) (congrArg (f .f32) hx12)) <|
    (TR.l (r := f32 a2) rfl rfl (LOp.move rfl rfl) <|
    (TR.l (r := f32 r5) rfl rfl (LOp.move rfl rfl) <|
    (TR.d (r := f32 x15) (fs := []) rfl rfl (TOp.eqr (TOp.fop (.inr (.inr (.inl rfl))) rfl (OpF.tmp rfl) (OpF.tmp rfl)) (congrArg (f .f32) hx13)) <|
    (TR.d (r := f32 x16) (fs := []) rfl rfl (TOp.eqr (TOp.fop (.inl rfl) rfl (OpF.tmp rfl) (OpF.tmp rfl)) (congrArg (f .f32) hx14)) <|
    (TR.d (r := optr 1 0 x13.toNat) (fs := []) rfl rfl (TOp.ixo und22 siz33 rfl rfl rfl (set_in he15 ((setAt?_len he9).trans hl2)) rfl) <|
    TR.nil)))))))))))))))))))) rfl (by kernel_rfl) rfl fills_nil rfl ?_
   iterate 20 refine ROps.dropS ?_
   refine ROps.drop0 ?_
   refine ROps.st (f := f32) (i := x13) (Γ' := [⟨0, some [i64 a4, i64 a5, oref 1 0 0 a6.length]⟩, ⟨0, some (L17.map f32)⟩]) rfl siz33 rfl rfl rfl aR rfl rfl rfl he15 rfl ?_
   refine zN ?_
   refine RunC.wl (τ' := [(0, optr 0 0 0), (1, i64 a0), (2, i64 a1), (3, f32 a2), (4, f32 a3), (10, i64 v3)]) (Γ' := [⟨0, some [i64 a4, i64 a5, oref 1 0 0 a6.length]⟩, ⟨0, some (L17.map f32)⟩]) ⟨aR, aR, aR, aR, aR, aR, trivial⟩ ⟨⟨rfl, .inr rfl⟩, ⟨rfl, .inr rfl⟩, trivial⟩ ?_
   obtain ⟨x18, hx16, h2_⟩ := olet_some h2_
   refine RunC.regionW ?_
   refine zM (r := i64 v3) rfl rfl rfl rfl rfl ?_
   refine zL (r := i64 x18) rfl rfl rfl (LOp.eqr (LOp.add rfl rfl rfl) (congrArg (ik .i64) hx16)) ?_
   refine zA (r := i64 x18) rfl rfl rfl rfl rfl ?_
   refine zN ?_
   cases Option.some.inj h2_
   exact ⟨_, rfl, ((setAt?_len he15).trans ((setAt?_len he9).trans hl2)), ⟨aR, aR, aR, aR, aR, aR, trivial⟩, ⟨⟨rfl, .inr rfl⟩, ⟨rfl, .inr rfl⟩, trivial⟩⟩
  ·refine RunC.regionW ?_
   refine zM (r := i64 v3) rfl rfl rfl rfl rfl ?_
   refine zM (r := optr 0 0 0) rfl rfl rfl rfl rfl ?_
   refine zL (r := optr 0 0 0) rfl rfl rfl (LOp.nilCheck_optr rfl rfl) ?_
   refine zL (r := optr 0 0 0) rfl rfl rfl (LOp.fao und26 rfl siz2 rfl rfl rfl) ?_
   refine ROps.d (r := i64 a4) (fs := []) (Γ' := [⟨0, some [i64 a4, i64 a5, oref 1 0 0 a6.length]⟩, ⟨0, some (L1.map f32)⟩]) rfl rfl rfl (TOp.load1_o rfl rfl agg2 rfl rfl) rfl ?_
   refine zL (r := b false) rfl rfl rfl (LOp.eqb (LOp.lss rfl rfl rfl) hc1) ?_
   refine zN ?_
   refine RunC.cond_false rfl rfl ?_
   refine RunC.exit ?_
   cases Option.some.inj h2_
   have hx := ho2 _ rfl
   exact ⟨L1, hl2, trivial, ⟨⟨rfl, .inr rfl⟩, ⟨rfl, .inr rfl⟩, trivial⟩, hx⟩
 ·rintro τ3 Γ3 ⟨L19, hl20, hw3, hd3, rfl⟩
  replace h : s_l04Columns_0p0_C02o1_k1 L19 = some q0 := h
  unfold s_l04Columns_0p0_C02o1_k1 at h
  refine bodyQ.wl hw3 hd3 ?_
  have hq := Option.some.inj h
  subst q0
  exact bodyQ.mk (r' := tup []) [(0, 0), (1, 0)] (.inl rfl) rfl (show List.Nodup [0, 1] from by decide) rfl rfl (Res.zero rfl) (SelL.cells rfl (by first | rfl | simp [ren, rens, sigma, rens_f32, rens_f64, rens_i64, rens_ik, rens_str, rens_cp]) rfl (SelL.arr (f := f32) (fun _ => rfl) rfl trivial))
noncomputable def s_l04Side_k12 (v22 : Int) (L38 : List F) (L40 : List F) (y42 : F) (y43 : F) : Option (LR ((List F) × (List F) × Int) ((List F) × (List F)) (Int × Int × Int × Int × Bool × (List F) × (List F))) :=
 olet (IntKind.i64.wrap (v22 + 1)) fun (x44 : Int) =>
 some (LR.next (L38, L40, x44))
noncomputable def s_l04Side_b13 (a1 : Int) (r1 : Int) (r2 : Int) (r3 : List F) (r4 : Int) (r5 : Int) (r6 : List F) (v16 : Int) (L18 : List F) (L20 : List F) (v22 : Int) : Option (LR ((List F) × (List F) × Int) ((List F) × (List F)) (Int × Int × Int × Int × Bool × (List F) × (List F))) :=
 bsel (decide (v22 < a1)) (
  obind3 (s_l04Sums r1 r2 L18 v16 v22) fun (r23 : F) (r24 : F) (r25 : F) =>
  obind (s_l01Finite r23) fun (r26 : Bool) =>
  bsel r26 (
   obind (s_l01Finite r24) fun (r27 : Bool) =>
   bsel r27 (
    obind (s_l01Finite r25) fun (r28 : Bool) =>
    bsel r28 (
     bsel (feq .f32 r25 (some 0)) (
      s_l04Side_k12 v22 L18 L20 r24 r25) (
      olet (fop .sub .f32 r24 r23) fun (x29 : F) =>
      olet (fop .mul .f32 (some 1073741824) r25) fun (x30 : F) =>
      olet (fop .quo .f32 x29 x30) fun (x31 : F) =>
      obind2 (s_l04Cosine x31) fun (r32 : F) (r33 : F) =>
      obind (s_l04Columns_0p0_C02o1 v16 v22 r32 r33 r1 r2 L18) fun (r34 : List F) =>
      need (decide (r34.length = r3.length)) <|
      obind (s_l04Columns_0p0_C02o1 v16 v22 r32 r33 r4 r5 L20) fun (r35 : List F) =>
      need (decide (r35.length = r6.length)) <|
      obind (s_l02Is r1 r2 r34) fun (r36 : Bool) =>
      bsel r36 (
       obind (s_l02Is r4 r5 r35) fun (r37 : Bool) =>
       bsel r37 (
        s_l04Side_k12 v22 r34 r35 r24 r25) (
        some (LR.ret (0, 0, 0, 0, false, ([] : List F), ([] : List F))))) (
       some (LR.ret (0, 0, 0, 0, false, ([] : List F), ([] : List F)))))) (
     some (LR.ret (0, 0, 0, 0, false, ([] : List F), ([] : List F))))) (
    some (LR.ret (0, 0, 0, 0, false, ([] : List F), ([] : List F))))) (
   some (LR.ret (0, 0, 0, 0, false, ([] : List F), ([] : List F))))) (
  some (LR.out (L18, L20)))
noncomputable def s_l04Side_s13 (a1 : Int) (r1 : Int) (r2 : Int) (r3 : List F) (r4 : Int) (r5 : Int) (r6 : List F) (v16 : Int) : ((List F) × (List F) × Int) → Option (LR ((List F) × (List F) × Int) ((List F) × (List F)) (Int × Int × Int × Int × Bool × (List F) × (List F))) := fun s => s_l04Side_b13 a1 r1 r2 r3 r4 r5 r6 v16 s.1 s.2.1 s.2.2
noncomputable def s_l04Side_k13 (v16 : Int) (L45 : List F) (L47 : List F) : Option (LR ((List F) × (List F) × Int) ((List F) × (List F)) (Int × Int × Int × Int × Bool × (List F) × (List F))) :=
 olet (IntKind.i64.wrap (v16 + 1)) fun (x49 : Int) =>
 some (LR.next (L45, L47, x49))
noncomputable def s_l04Side_b14 (a1 : Int) (r1 : Int) (r2 : Int) (r3 : List F) (r4 : Int) (r5 : Int) (r6 : List F) (L12 : List F) (L14 : List F) (v16 : Int) : Option (LR ((List F) × (List F) × Int) ((List F) × (List F)) (Int × Int × Int × Int × Bool × (List F) × (List F))) :=
 bsel (decide (v16 < a1)) (
  olet (IntKind.i64.wrap (v16 + 1)) fun (x17 : Int) =>
  obind (loopM (s_l04Side_s13 a1 r1 r2 r3 r4 r5 r6 v16) (L12, L14, x17)) fun z => osum z (fun e => s_l04Side_k13 v16 e.1 e.2) (fun r => some (LR.ret r))) (
  some (LR.out (L12, L14)))
noncomputable def s_l04Side_s14 (a1 : Int) (r1 : Int) (r2 : Int) (r3 : List F) (r4 : Int) (r5 : Int) (r6 : List F) : ((List F) × (List F) × Int) → Option (LR ((List F) × (List F) × Int) ((List F) × (List F)) (Int × Int × Int × Int × Bool × (List F) × (List F))) := fun s => s_l04Side_b14 a1 r1 r2 r3 r4 r5 r6 s.1 s.2.1 s.2.2
noncomputable def s_l04Side_k14 (v11 : Int) (L50 : List F) (L52 : List F) : Option (LR ((List F) × (List F) × Int) ((List F) × (List F)) (Int × Int × Int × Int × Bool × (List F) × (List F))) :=
 olet (IntKind.i64.wrap (v11 + 1)) fun (x54 : Int) =>
 some (LR.next (L50, L52, x54))
noncomputable def s_l04Side_b15 (a1 : Int) (a3 : Int) (r1 : Int) (r2 : Int) (r3 : List F) (r4 : Int) (r5 : Int) (r6 : List F) (L7 : List F) (L9 : List F) (v11 : Int) : Option (LR ((List F) × (List F) × Int) ((List F) × (List F)) (Int × Int × Int × Int × Bool × (List F) × (List F))) :=
 bsel (decide (v11 < a3)) (
  obind (loopM (s_l04Side_s14 a1 r1 r2 r3 r4 r5 r6) (L7, L9, 0)) fun z => osum z (fun e => s_l04Side_k14 v11 e.1 e.2) (fun r => some (LR.ret r))) (
  some (LR.out (L7, L9)))
noncomputable def s_l04Side_s15 (a1 : Int) (a3 : Int) (r1 : Int) (r2 : Int) (r3 : List F) (r4 : Int) (r5 : Int) (r6 : List F) : ((List F) × (List F) × Int) → Option (LR ((List F) × (List F) × Int) ((List F) × (List F)) (Int × Int × Int × Int × Bool × (List F) × (List F))) := fun s => s_l04Side_b15 a1 a3 r1 r2 r3 r4 r5 r6 s.1 s.2.1 s.2.2
noncomputable def s_l04Side_k15 (r1 : Int) (r2 : Int) (r4 : Int) (r5 : Int) (L55 : List F) (L57 : List F) : Option (Int × Int × Int × Int × Bool × (List F) × (List F)) :=
 some (r1, r2, r4, r5, true, L55, L57)
noncomputable def s_l04Side (a0 : Int) (a1 : Int) (a2 : List F) (a3 : Int) : Option (Int × Int × Int × Int × Bool × (List F) × (List F)) :=
 obind3 (s_l02Own a0 a1 a2) fun (r1 : Int) (r2 : Int) (r3 : List F) =>
 obind3 (s_l02Unit a1) fun (r4 : Int) (r5 : Int) (r6 : List F) =>
 obind (loopM (s_l04Side_s15 a1 a3 r1 r2 r3 r4 r5 r6) (r3, r6, 0)) fun z => osum z (fun e => s_l04Side_k15 r1 r2 r4 r5 e.1 e.2) (fun r => some r)
theorem s_l04Side_ok (a0 : Int) (a1 : Int) (a2 : List F) (a3 : Int) (q0 : Int) (q1 : Int) (q2 : Int) (q3 : Int) (q4 : Bool) (q5 : List F) (q6 : List F) (h : s_l04Side a0 a1 a2 a3 = some (q0, q1, q2, q3, q4, q5, q6)) : Ev Tryz.prog 18 [ptr [i64 a0, i64 a1, sl a2.length (a2.map f32)], i64 a3] [] (tup [agg [i64 q0, i64 q1, oref 0 0 0 q5.length], agg [i64 q2, i64 q3, oref 1 0 0 q6.length], b q4]) [⟨0, some (q5.map f32)⟩, ⟨0, some (q6.map f32)⟩] := by
 refine Ev.start Tryz.func18 rfl rfl 8 (τ := [(0, ptr [i64 a0, i64 a1, sl a2.length (a2.map f32)]), (1, i64 a3)]) rfl (Γ' := [⟨0, none⟩, ⟨0, none⟩, ⟨0, none⟩, ⟨0, none⟩, ⟨0, none⟩, ⟨0, none⟩, ⟨0, none⟩, ⟨0, none⟩]) rfl (n := 203) rfl (g := 0) rfl (fun _ => rfl) ?_
 unfold s_l04Side at h
 refine zQ ?_
 refine ROps.d (r := optr 0 1 0) (fs := [(0, [i64 0, i64 0, nilsl])]) (Γ' := [⟨1, some [i64 0, i64 0, nilsl]⟩, ⟨0, none⟩, ⟨0, none⟩, ⟨0, none⟩, ⟨0, none⟩, ⟨0, none⟩, ⟨0, none⟩, ⟨0, none⟩]) rfl rfl rfl (TOp.alloc_o (g := ⟨0, none⟩) 0 rfl zer26 zok26 rfl) rfl ?_
 refine ROps.d (r := optr 1 1 0) (fs := [(1, [i64 0, i64 0, nilsl])]) (Γ' := [⟨1, some [i64 0, i64 0, nilsl]⟩, ⟨1, some [i64 0, i64 0, nilsl]⟩, ⟨0, none⟩, ⟨0, none⟩, ⟨0, none⟩, ⟨0, none⟩, ⟨0, none⟩, ⟨0, none⟩]) rfl rfl rfl (TOp.alloc_o (g := ⟨0, none⟩) 1 rfl zer26 zok26 rfl) rfl ?_
 refine zA (r := b false) rfl rfl rfl rfl rfl ?_
 refine zN ?_
 refine RunC.seq ?_
 obtain ⟨r1, r2, r3, hf1, h⟩ := obind3_some h
 refine RunC.regionW ?_
 refine zM (r := ptr [i64 a0, i64 a1, sl a2.length (a2.map f32)]) rfl rfl rfl rfl rfl ?_
 refine ROps.d (r := agg [i64 r1, i64 r2, oref 2 1 0 r3.length]) (fs := [(2, (r3.map f32))]) (Γ' := [⟨1, some [i64 0, i64 0, nilsl]⟩, ⟨1, some [i64 0, i64 0, nilsl]⟩, ⟨1, some (r3.map f32)⟩, ⟨0, none⟩, ⟨0, none⟩, ⟨0, none⟩, ⟨0, none⟩, ⟨0, none⟩]) rfl rfl rfl (TOp.callBN (ls := [(r3.map f32)]) [2] (CallAs.func ent50 rfl rfl) (Bors.cons (Bor.ptr (Bors.cons (Bor.pure rfl) (Bors.cons (Bor.pure rfl) (Bors.cons (Bor.sl (fun _ => rfl)) Bors.nil)))) Bors.nil) rfl (s_l02Own_ok a0 a1 a2 r1 r2 r3 hf1) (and_all (lts0_map (f := f32) (fun _ => rfl) _) rfl) (and_all (noss_map (f := f32) (fun _ => rfl) _) rfl) rfl (by decide) (ns_of ⟨⟨_, rfl⟩, trivial⟩)) rfl ?_
 refine ROps.d (r := optr 3 1 0) (fs := [(3, [i64 0, i64 0, nilsl])]) (Γ' := [⟨1, some [i64 0, i64 0, nilsl]⟩, ⟨1, some [i64 0, i64 0, nilsl]⟩, ⟨1, some (r3.map f32)⟩, ⟨1, some [i64 0, i64 0, nilsl]⟩, ⟨0, none⟩, ⟨0, none⟩, ⟨0, none⟩, ⟨0, none⟩]) rfl rfl rfl (TOp.alloc_o (g := ⟨0, none⟩) 3 rfl zer26 zok26 rfl) rfl ?_
 refine ROps.store_le (r := agg [i64 r1, i64 r2, oref 2 1 0 r3.length]) (l' := [i64 r1, i64 r2, oref 2 1 0 r3.length]) (Γ' := [⟨1, some [i64 0, i64 0, nilsl]⟩, ⟨1, some [i64 0, i64 0, nilsl]⟩, ⟨1, some (r3.map f32)⟩, ⟨1, some [i64 r1, i64 r2, oref 2 1 0 r3.length]⟩, ⟨0, none⟩, ⟨0, none⟩, ⟨0, none⟩, ⟨0, none⟩]) rfl siz26 rfl rfl rfl aR rfl rfl rfl rfl (Nat.le_of_ble_eq_true rfl) rfl rfl ?_
 refine zN ?_
 refine RunC.seq ?_
 obtain ⟨r4, r5, r6, hf2, h⟩ := obind3_some h
 refine RunC.regionW ?_
 refine zM (r := ptr [i64 a0, i64 a1, sl a2.length (a2.map f32)]) rfl rfl rfl rfl rfl ?_
 refine zL (r := ptr [i64 a0, i64 a1, sl a2.length (a2.map f32)]) rfl rfl rfl (LOp.nilCheck_ptr rfl rfl) ?_
 refine zL (r := ptr [i64 a1, sl a2.length (a2.map f32)]) rfl rfl rfl (LOp.fap und26 rfl siz2 rfl rfl rfl) ?_
 refine zL (r := i64 a1) rfl rfl rfl (LOp.load1 agg2 rfl rfl) ?_
 refine ROps.d (r := agg [i64 r4, i64 r5, oref 4 1 0 r6.length]) (fs := [(4, (r6.map f32))]) (Γ' := [⟨1, some [i64 0, i64 0, nilsl]⟩, ⟨1, some [i64 0, i64 0, nilsl]⟩, ⟨1, some (r3.map f32)⟩, ⟨1, some [i64 r1, i64 r2, oref 2 1 0 r3.length]⟩, ⟨1, some (r6.map f32)⟩, ⟨0, none⟩, ⟨0, none⟩, ⟨0, none⟩]) rfl rfl rfl (TOp.callBN (ls := [(r6.map f32)]) [4] (CallAs.func ent51 rfl rfl) (Bors.cons (Bor.pure rfl) Bors.nil) rfl (s_l02Unit_ok a1 r4 r5 r6 hf2) (and_all (lts0_map (f := f32) (fun _ => rfl) _) rfl) (and_all (noss_map (f := f32) (fun _ => rfl) _) rfl) rfl (by decide) (ns_of ⟨⟨_, rfl⟩, trivial⟩)) rfl ?_
 refine ROps.d (r := optr 5 1 0) (fs := [(5, [i64 0, i64 0, nilsl])]) (Γ' := [⟨1, some [i64 0, i64 0, nilsl]⟩, ⟨1, some [i64 0, i64 0, nilsl]⟩, ⟨1, some (r3.map f32)⟩, ⟨1, some [i64 r1, i64 r2, oref 2 1 0 r3.length]⟩, ⟨1, some (r6.map f32)⟩, ⟨1, some [i64 0, i64 0, nilsl]⟩, ⟨0, none⟩, ⟨0, none⟩]) rfl rfl rfl (TOp.alloc_o (g := ⟨0, none⟩) 5 rfl zer26 zok26 rfl) rfl ?_
 refine ROps.store_le (r := agg [i64 r4, i64 r5, oref 4 1 0 r6.length]) (l' := [i64 r4, i64 r5, oref 4 1 0 r6.length]) (Γ' := [⟨1, some [i64 0, i64 0, nilsl]⟩, ⟨1, some [i64 0, i64 0, nilsl]⟩, ⟨1, some (r3.map f32)⟩, ⟨1, some [i64 r1, i64 r2, oref 2 1 0 r3.length]⟩, ⟨1, some (r6.map f32)⟩, ⟨1, some [i64 r4, i64 r5, oref 4 1 0 r6.length]⟩, ⟨0, none⟩, ⟨0, none⟩]) rfl siz26 rfl rfl rfl aR rfl rfl rfl rfl (Nat.le_of_ble_eq_true rfl) rfl rfl ?_
 refine zN ?_
 refine RunC.seq ?_
 refine zQ ?_
 refine zA (r := i64 0) rfl rfl rfl rfl rfl ?_
 refine zN ?_
 obtain ⟨z16, hz_16, h⟩ := obind_some h
 refine RunC.cutN (fun τ Γ => ∃ (L55 : List F) (L57 : List F), L55.length = r3.length ∧ L57.length = r6.length ∧ WeakLe τ [(4, optr 0 1 0), (5, optr 1 1 0), (7, optr 3 1 0), (8, optr 5 1 0)] ∧ DeadLe Γ [⟨1, some [i64 0, i64 0, nilsl]⟩, ⟨1, some [i64 0, i64 0, nilsl]⟩, ⟨1, some (L55.map f32)⟩, ⟨1, some [i64 r1, i64 r2, oref 2 1 0 r3.length]⟩, ⟨1, some (L57.map f32)⟩, ⟨1, some [i64 r4, i64 r5, oref 4 1 0 r6.length]⟩, ⟨0, none⟩, ⟨0, none⟩] ∧ z16 = .inl (L55, L57)) ?_ ?_
 ·refine RunC.block (RunC.loop (RunL.loopM (x := z16) (s_l04Side_s15 a1 a3 r1 r2 r3 r4 r5 r6) (fun (s : (List F) × (List F) × Int) τ Γ => s.1.length = r3.length ∧ s.2.1.length = r6.length ∧ WeakLe τ [(0, ptr [i64 a0, i64 a1, sl a2.length (a2.map f32)]), (1, i64 a3), (4, optr 0 1 0), (5, optr 1 1 0), (7, optr 3 1 0), (8, optr 5 1 0), (9, i64 s.2.2)] ∧ DeadLe Γ [⟨1, some [i64 0, i64 0, nilsl]⟩, ⟨1, some [i64 0, i64 0, nilsl]⟩, ⟨1, some (s.1.map f32)⟩, ⟨1, some [i64 r1, i64 r2, oref 2 1 0 r3.length]⟩, ⟨1, some (s.2.1.map f32)⟩, ⟨1, some [i64 r4, i64 r5, oref 4 1 0 r6.length]⟩, ⟨0, none⟩, ⟨0, none⟩]) ?_ _ _ _ hz_16 ⟨rfl, rfl, ⟨aR, aR, aR, aR, aR, aR, aR, trivial⟩, ⟨⟨rfl, .inr rfl⟩, ⟨rfl, .inr rfl⟩, ⟨rfl, .inr rfl⟩, ⟨rfl, .inr rfl⟩, ⟨rfl, .inr rfl⟩, ⟨rfl, .inr rfl⟩, ⟨rfl, .inr rfl⟩, ⟨rfl, .inr rfl⟩, trivial⟩⟩))
  rintro ⟨L7, L9, v11⟩ τ16 Γ16 y16_ ⟨hl8, hl10, hw16, hd16⟩ h16_ ho16 hr16
  refine RunC.wl (τ' := [(0, ptr [i64 a0, i64 a1, sl a2.length (a2.map f32)]), (1, i64 a3), (4, optr 0 1 0), (5, optr 1 1 0), (7, optr 3 1 0), (8, optr 5 1 0), (9, i64 v11)]) (Γ' := [⟨1, some [i64 0, i64 0, nilsl]⟩, ⟨1, some [i64 0, i64 0, nilsl]⟩, ⟨1, some (L7.map f32)⟩, ⟨1, some [i64 r1, i64 r2, oref 2 1 0 r3.length]⟩, ⟨1, some (L9.map f32)⟩, ⟨1, some [i64 r4, i64 r5, oref 4 1 0 r6.length]⟩, ⟨0, none⟩, ⟨0, none⟩]) hw16 hd16 ?_
  replace hl8 : L7.length = r3.length := hl8
  replace hl10 : L9.length = r6.length := hl10
  replace h16_ : s_l04Side_b15 a1 a3 r1 r2 r3 r4 r5 r6 L7 L9 v11 = some y16_ := h16_
  unfold s_l04Side_b15 at h16_
  refine RunC.seq ?_
  refine RunC.seq ?_
  rcases bsel_some h16_ with ⟨hc3, h16_⟩ | ⟨hc3, h16_⟩
  ·refine RunC.regionW ?_
   refine zM (r := i64 v11) rfl rfl rfl rfl rfl ?_
   refine zM (r := i64 a3) rfl rfl rfl rfl rfl ?_
   refine zL (r := b true) rfl rfl rfl (LOp.eqb (LOp.lss rfl rfl rfl) hc3) ?_
   refine zN ?_
   refine RunC.cond_true rfl rfl ?_
   refine RunC.skip ?_
   refine RunC.seq ?_
   refine RunC.block ?_
   refine zQ ?_
   refine zA (r := i64 0) rfl rfl rfl rfl rfl ?_
   refine zN ?_
   obtain ⟨z17, hz_17, h16_⟩ := obind_some h16_
   refine RunC.cutN (fun τ Γ => ∃ (L50 : List F) (L52 : List F), L50.length = r3.length ∧ L52.length = r6.length ∧ WeakLe τ [(0, ptr [i64 a0, i64 a1, sl a2.length (a2.map f32)]), (1, i64 a3), (4, optr 0 1 0), (5, optr 1 1 0), (7, optr 3 1 0), (8, optr 5 1 0), (9, i64 v11)] ∧ DeadLe Γ [⟨1, some [i64 0, i64 0, nilsl]⟩, ⟨1, some [i64 0, i64 0, nilsl]⟩, ⟨1, some (L50.map f32)⟩, ⟨1, some [i64 r1, i64 r2, oref 2 1 0 r3.length]⟩, ⟨1, some (L52.map f32)⟩, ⟨1, some [i64 r4, i64 r5, oref 4 1 0 r6.length]⟩, ⟨0, none⟩, ⟨0, none⟩] ∧ z17 = .inl (L50, L52)) ?_ ?_
   ·refine RunC.block (RunC.loop (RunL.loopM (x := z17) (s_l04Side_s14 a1 r1 r2 r3 r4 r5 r6) (fun (s : (List F) × (List F) × Int) τ Γ => s.1.length = r3.length ∧ s.2.1.length = r6.length ∧ WeakLe τ [(0, ptr [i64 a0, i64 a1, sl a2.length (a2.map f32)]), (1, i64 a3), (4, optr 0 1 0), (5, optr 1 1 0), (7, optr 3 1 0), (8, optr 5 1 0), (9, i64 v11), (10, i64 s.2.2)] ∧ DeadLe Γ [⟨1, some [i64 0, i64 0, nilsl]⟩, ⟨1, some [i64 0, i64 0, nilsl]⟩, ⟨1, some (s.1.map f32)⟩, ⟨1, some [i64 r1, i64 r2, oref 2 1 0 r3.length]⟩, ⟨1, some (s.2.1.map f32)⟩, ⟨1, some [i64 r4, i64 r5, oref 4 1 0 r6.length]⟩, ⟨0, none⟩, ⟨0, none⟩]) ?_ _ _ _ hz_17 ⟨hl8, hl10, ⟨aR, aR, aR, aR, aR, aR, aR, aR, trivial⟩, ⟨⟨rfl, .inr rfl⟩, ⟨rfl, .inr rfl⟩, ⟨rfl, .inr rfl⟩, ⟨rfl, .inr rfl⟩, ⟨rfl, .inr rfl⟩, ⟨rfl, .inr rfl⟩, ⟨rfl, .inr rfl⟩, ⟨rfl, .inr rfl⟩, trivial⟩⟩))
    rintro ⟨L12, L14, v16⟩ τ17 Γ17 y17_ ⟨hl13, hl15, hw17, hd17⟩ h17_ ho17 hr17
    refine RunC.wl (τ' := [(0, ptr [i64 a0, i64 a1, sl a2.length (a2.map f32)]), (1, i64 a3), (4, optr 0 1 0), (5, optr 1 1 0), (7, optr 3 1 0), (8, optr 5 1 0), (9, i64 v11), (10, i64 v16)]) (Γ' := [⟨1, some [i64 0, i64 0, nilsl]⟩, ⟨1, some [i64 0, i64 0, nilsl]⟩, ⟨1, some (L12.map f32)⟩, ⟨1, some [i64 r1, i64 r2, oref 2 1 0 r3.length]⟩, ⟨1, some (L14.map f32)⟩, ⟨1, some [i64 r4, i64 r5, oref 4 1 0 r6.length]⟩, ⟨0, none⟩, ⟨0, none⟩]) hw17 hd17 ?_
    replace hl13 : L12.length = r3.length := hl13
    replace hl15 : L14.length = r6.length := hl15
    replace h17_ : s_l04Side_b14 a1 r1 r2 r3 r4 r5 r6 L12 L14 v16 = some y17_ := h17_
    unfold s_l04Side_b14 at h17_
    refine RunC.seq ?_
    refine RunC.seq ?_
    rcases bsel_some h17_ with ⟨hc4, h17_⟩ | ⟨hc4, h17_⟩
    ·refine RunC.regionW ?_
     refine zM (r := i64 v16) rfl rfl rfl rfl rfl ?_
     refine zM (r := ptr [i64 a0, i64 a1, sl a2.length (a2.map f32)]) rfl rfl rfl rfl rfl ?_
     refine zL (r := ptr [i64 a0, i64 a1, sl a2.length (a2.map f32)]) rfl rfl rfl (LOp.nilCheck_ptr rfl rfl) ?_
     refine zL (r := ptr [i64 a1, sl a2.length (a2.map f32)]) rfl rfl rfl (LOp.fap und26 rfl siz2 rfl rfl rfl) ?_
     refine zL (r := i64 a1) rfl rfl rfl (LOp.load1 agg2 rfl rfl) ?_
     refine zL (r := b true) rfl rfl rfl (LOp.eqb (LOp.lss rfl rfl rfl) hc4) ?_
     refine zN ?_
     refine RunC.cond_true rfl rfl ?_
     refine RunC.skip ?_
     refine RunC.seq ?_
     refine RunC.block ?_
     refine RunC.seq ?_
     obtain ⟨x17, hx5, h17_⟩ := olet_some h17_
     refine RunC.regionW ?_
     refine zM (r := i64 v16) rfl rfl rfl rfl rfl ?_
     refine zL (r := i64 x17) rfl rfl rfl (LOp.eqr (LOp.add rfl rfl rfl) (congrArg (ik .i64) hx5)) ?_
     refine zA (r := i64 x17) rfl rfl rfl rfl rfl ?_
     refine zN ?_
     obtain ⟨z18, hz_18, h17_⟩ := obind_some h17_
     refine RunC.cutN (fun τ Γ => ∃ (L45 : List F) (L47 : List F), L45.length = r3.length ∧ L47.length = r6.length ∧ WeakLe τ [(0, ptr [i64 a0, i64 a1, sl a2.length (a2.map f32)]), (1, i64 a3), (4, optr 0 1 0), (5, optr 1 1 0), (7, optr 3 1 0), (8, optr 5 1 0), (9, i64 v11), (10, i64 v16)] ∧ DeadLe Γ [⟨1, some [i64 0, i64 0, nilsl]⟩, ⟨1, some [i64 0, i64 0, nilsl]⟩, ⟨1, some (L45.map f32)⟩, ⟨1, some [i64 r1, i64 r2, oref 2 1 0 r3.length]⟩, ⟨1, some (L47.map f32)⟩, ⟨1, some [i64 r4, i64 r5, oref 4 1 0 r6.length]⟩, ⟨0, none⟩, ⟨0, none⟩] ∧ z18 = .inl (L45, L47)) ?_ ?_
     ·refine RunC.block (RunC.loop (RunL.loopM (x := z18) (s_l04Side_s13 a1 r1 r2 r3 r4 r5 r6 v16) (fun (s : (List F) × (List F) × Int) τ Γ => s.1.length = r3.length ∧ s.2.1.length = r6.length ∧ WeakLe τ [(0, ptr [i64 a0, i64 a1, sl a2.length (a2.map f32)]), (1, i64 a3), (4, optr 0 1 0), (5, optr 1 1 0), (7, optr 3 1 0), (8, optr 5 1 0), (9, i64 v11), (10, i64 v16), (11, i64 s.2.2)] ∧ DeadLe Γ [⟨1, some [i64 0, i64 0, nilsl]⟩, ⟨1, some [i64 0, i64 0, nilsl]⟩, ⟨1, some (s.1.map f32)⟩, ⟨1, some [i64 r1, i64 r2, oref 2 1 0 r3.length]⟩, ⟨1, some (s.2.1.map f32)⟩, ⟨1, some [i64 r4, i64 r5, oref 4 1 0 r6.length]⟩, ⟨0, none⟩, ⟨0, none⟩]) ?_ _ _ _ hz_18 ⟨hl13, hl15, ⟨aR, aR, aR, aR, aR, aR, aR, aR, aR, trivial⟩, ⟨⟨rfl, .inr rfl⟩, ⟨rfl, .inr rfl⟩, ⟨rfl, .inr rfl⟩, ⟨rfl, .inr rfl⟩, ⟨rfl, .inr rfl⟩, ⟨rfl, .inr rfl⟩, ⟨rfl, .inr rfl⟩, ⟨rfl, .inr rfl⟩, trivial⟩⟩))
      rintro ⟨L18, L20, v22⟩ τ18 Γ18 y18_ ⟨hl19, hl21, hw18, hd18⟩ h18_ ho18 hr18
      refine RunC.wl (τ' := [(0, ptr [i64 a0, i64 a1, sl a2.length (a2.map f32)]), (1, i64 a3), (4, optr 0 1 0), (5, optr 1 1 0), (7, optr 3 1 0), (8, optr 5 1 0), (9, i64 v11), (10, i64 v16), (11, i64 v22)]) (Γ' := [⟨1, some [i64 0, i64 0, nilsl]⟩, ⟨1, some [i64 0, i64 0, nilsl]⟩, ⟨1, some (L18.map f32)⟩, ⟨1, some [i64 r1, i64 r2, oref 2 1 0 r3.length]⟩, ⟨1, some (L20.map f32)⟩, ⟨1, some [i64 r4, i64 r5, oref 4 1 0 r6.length]⟩, ⟨0, none⟩, ⟨0, none⟩]) hw18 hd18 ?_
      replace hl19 : L18.length = r3.length := hl19
      replace hl21 : L20.length = r6.length := hl21
      replace h18_ : s_l04Side_b13 a1 r1 r2 r3 r4 r5 r6 v16 L18 L20 v22 = some y18_ := h18_
      unfold s_l04Side_b13 at h18_
      refine RunC.seq ?_
      refine RunC.seq ?_
      rcases bsel_some h18_ with ⟨hc6, h18_⟩ | ⟨hc6, h18_⟩
      ·refine RunC.regionW ?_
       refine zM (r := i64 v22) rfl rfl rfl rfl rfl ?_
       refine zM (r := ptr [i64 a0, i64 a1, sl a2.length (a2.map f32)]) rfl rfl rfl rfl rfl ?_
       refine zL (r := ptr [i64 a0, i64 a1, sl a2.length (a2.map f32)]) rfl rfl rfl (LOp.nilCheck_ptr rfl rfl) ?_
       refine zL (r := ptr [i64 a1, sl a2.length (a2.map f32)]) rfl rfl rfl (LOp.fap und26 rfl siz2 rfl rfl rfl) ?_
       refine zL (r := i64 a1) rfl rfl rfl (LOp.load1 agg2 rfl rfl) ?_
       refine zL (r := b true) rfl rfl rfl (LOp.eqb (LOp.lss rfl rfl rfl) hc6) ?_
       refine zN ?_
       refine RunC.cond_true rfl rfl ?_
       refine RunC.skip ?_
       refine RunC.seq ?_
       refine RunC.cutN (fun τ Γ => ∃ (L38 : List F) (L40 : List F) (y42 : F) (y43 : F), L38.length = r3.length ∧ L40.length = r6.length ∧ WeakLe τ [(0, ptr [i64 a0, i64 a1, sl a2.length (a2.map f32)]), (1, i64 a3), (4, optr 0 1 0), (5, optr 1 1 0), (7, optr 3 1 0), (8, optr 5 1 0), (9, i64 v11), (10, i64 v16), (11, i64 v22), (58, f32 y42), (59, b true), (60, b false), (63, f32 y43), (64, b true), (65, b false)] ∧ DeadLe Γ [⟨1, some [i64 0, i64 0, nilsl]⟩, ⟨1, some [i64 0, i64 0, nilsl]⟩, ⟨1, some (L38.map f32)⟩, ⟨1, some [i64 r1, i64 r2, oref 2 1 0 r3.length]⟩, ⟨1, some (L40.map f32)⟩, ⟨1, some [i64 r4, i64 r5, oref 4 1 0 r6.length]⟩, ⟨0, none⟩, ⟨0, none⟩] ∧ s_l04Side_k12 v22 L38 L40 y42 y43 = some y18_) ?_ ?_
       ·refine RunC.block ?_
        refine RunC.seq ?_
        obtain ⟨r23, r24, r25, hf7, h18_⟩ := obind3_some h18_
        refine RunC.regionW ?_
        refine zM (r := i64 v16) rfl rfl rfl rfl rfl ?_
        refine zM (r := i64 v22) rfl rfl rfl rfl rfl ?_
        refine ROps.d (r := tup [f32 r23, f32 r24, f32 r25]) (fs := []) (Γ' := [⟨1, some [i64 0, i64 0, nilsl]⟩, ⟨1, some [i64 0, i64 0, nilsl]⟩, ⟨1, some (L18.map f32)⟩, ⟨1, some [i64 r1, i64 r2, oref 2 1 0 r3.length]⟩, ⟨1, some (L20.map f32)⟩, ⟨1, some [i64 r4, i64 r5, oref 4 1 0 r6.length]⟩, ⟨0, none⟩, ⟨0, none⟩]) rfl rfl rfl (TOp.callB (CallAs.func ent52 rfl rfl) (Bors.cons (Bor.optr rfl (Bors.p (Bors.cons (Bor.pure rfl) (Bors.cons (Bor.pure rfl) (Bors.cons (Bor.own (f := f32) (fun _ => rfl) rfl hl19) Bors.nil)))) rfl) (Bors.cons (Bor.pure rfl) (Bors.cons (Bor.pure rfl) Bors.nil))) rfl rfl (s_l04Sums_ok r1 r2 L18 v16 v22 r23 r24 r25 hf7)) rfl ?_
        refine zM (r := tup [f32 r23, f32 r24, f32 r25]) rfl rfl rfl rfl rfl ?_
        refine zL (r := f32 r23) rfl rfl rfl (LOp.extract rfl rfl rfl) ?_
        refine zL (r := f32 r24) rfl rfl rfl (LOp.extract rfl rfl rfl) ?_
        refine zL (r := f32 r25) rfl rfl rfl (LOp.extract rfl rfl rfl) ?_
        refine zA (r := f32 r23) rfl rfl rfl rfl rfl ?_
        refine zA (r := f32 r24) rfl rfl rfl rfl rfl ?_
        refine zA (r := f32 r25) rfl rfl rfl rfl rfl ?_
        refine zN ?_
        refine RunC.seq ?_
        refine RunC.seq ?_
        obtain ⟨r26, hf8, h18_⟩ := obind_some h18_
        rcases bsel_some h18_ with ⟨hc9, h18_⟩ | ⟨hc9, h18_⟩
        ·obtain ⟨r27, hf10, h18_⟩ := obind_some h18_
         rcases bsel_some h18_ with ⟨hc11, h18_⟩ | ⟨hc11, h18_⟩
         ·obtain ⟨r28, hf12, h18_⟩ := obind_some h18_
          rcases bsel_some h18_ with ⟨hc13, h18_⟩ | ⟨hc13, h18_⟩
          ·refine RunC.regionW ?_
           refine zM (r := f32 r23) rfl rfl rfl rfl rfl ?_
           refine ROps.d (r := b true) (fs := []) (Γ' := [⟨1, some [i64 0, i64 0, nilsl]⟩, ⟨1, some [i64 0, i64 0, nilsl]⟩, ⟨1, some (L18.map f32)⟩, ⟨1, some [i64 r1, i64 r2, oref 2 1 0 r3.length]⟩, ⟨1, some (L20.map f32)⟩, ⟨1, some [i64 r4, i64 r5, oref 4 1 0 r6.length]⟩, ⟨0, none⟩, ⟨0, none⟩]) rfl rfl rfl (TOp.eqb (TOp.callB (CallAs.func ent53 rfl rfl) (Bors.cons (Bor.pure rfl) Bors.nil) rfl rfl (s_l01Finite_ok r23 r26 hf8)) hc9) rfl ?_
           refine zL (r := b false) rfl rfl rfl (LOp.eqb (LOp.not rfl rfl) rfl) ?_
           refine zM (r := b false) rfl rfl rfl rfl rfl ?_
           refine zM (r := f32 r24) rfl rfl rfl rfl rfl ?_
           refine ROps.d (r := b true) (fs := []) (Γ' := [⟨1, some [i64 0, i64 0, nilsl]⟩, ⟨1, some [i64 0, i64 0, nilsl]⟩, ⟨1, some (L18.map f32)⟩, ⟨1, some [i64 r1, i64 r2, oref 2 1 0 r3.length]⟩, ⟨1, some (L20.map f32)⟩, ⟨1, some [i64 r4, i64 r5, oref 4 1 0 r6.length]⟩, ⟨0, none⟩, ⟨0, none⟩]) rfl rfl rfl (TOp.eqb (TOp.callB (CallAs.func ent53 rfl rfl) (Bors.cons (Bor.pure rfl) Bors.nil) rfl rfl (s_l01Finite_ok r24 r27 hf10)) hc11) rfl ?_
           refine zL (r := b false) rfl rfl rfl (LOp.eqb (LOp.not rfl rfl) rfl) ?_
           refine zL (r := b false) rfl rfl rfl (LOp.pick_false rfl rfl rfl) ?_
           refine zM (r := b false) rfl rfl rfl rfl rfl ?_
           refine zM (r := f32 r25) rfl rfl rfl rfl rfl ?_
           refine ROps.d (r := b true) (fs := []) (Γ' := [⟨1, some [i64 0, i64 0, nilsl]⟩, ⟨1, some [i64 0, i64 0, nilsl]⟩, ⟨1, some (L18.map f32)⟩, ⟨1, some [i64 r1, i64 r2, oref 2 1 0 r3.length]⟩, ⟨1, some (L20.map f32)⟩, ⟨1, some [i64 r4, i64 r5, oref 4 1 0 r6.length]⟩, ⟨0, none⟩, ⟨0, none⟩]) rfl rfl rfl (TOp.eqb (TOp.callB (CallAs.func ent53 rfl rfl) (Bors.cons (Bor.pure rfl) Bors.nil) rfl rfl (s_l01Finite_ok r25 r28 hf12)) hc13) rfl ?_
           refine zL (r := b false) rfl rfl rfl (LOp.eqb (LOp.not rfl rfl) rfl) ?_
           refine zL (r := b false) rfl rfl rfl (LOp.pick_false rfl rfl rfl) ?_
           refine zN ?_
           refine RunC.wl (τ' := [(0, ptr [i64 a0, i64 a1, sl a2.length (a2.map f32)]), (1, i64 a3), (4, optr 0 1 0), (5, optr 1 1 0), (7, optr 3 1 0), (8, optr 5 1 0), (9, i64 v11), (10, i64 v16), (11, i64 v22), (12, f32 r23), (13, f32 r24), (14, f32 r25), (58, f32 r24), (59, b true), (60, b false), (63, f32 r25), (64, b true), (65, b false), (66, b false)]) (Γ' := [⟨1, some [i64 0, i64 0, nilsl]⟩, ⟨1, some [i64 0, i64 0, nilsl]⟩, ⟨1, some (L18.map f32)⟩, ⟨1, some [i64 r1, i64 r2, oref 2 1 0 r3.length]⟩, ⟨1, some (L20.map f32)⟩, ⟨1, some [i64 r4, i64 r5, oref 4 1 0 r6.length]⟩, ⟨0, none⟩, ⟨0, none⟩]) ⟨aR, aR, aR, aR, aR, aR, aR, aR, aR, aR, aR, aR, aR, aR, aR, aR, aR, aR, aR, trivial⟩ ⟨⟨rfl, .inr rfl⟩, ⟨rfl, .inr rfl⟩, ⟨rfl, .inr rfl⟩, ⟨rfl, .inr rfl⟩, ⟨rfl, .inr rfl⟩, ⟨rfl, .inr rfl⟩, ⟨rfl, .inr rfl⟩, ⟨rfl, .inr rfl⟩, trivial⟩ ?_
           refine RunC.cond_false rfl rfl ?_
           refine RunC.skip ?_
           refine RunC.seq ?_
           refine RunC.seq ?_
           rcases bsel_some h18_ with ⟨hc14, h18_⟩ | ⟨hc14, h18_⟩
           ·refine RunC.regionW ?_
            refine zM (r := f32 r25) rfl rfl rfl rfl rfl ?_
            refine zL (r := b true) rfl rfl rfl (LOp.eqb (LOp.feq rfl (OpF.tmp rfl) (OpF.const rfl (by kernel_rfl) (by kernel_rfl))) hc14) ?_
            refine zN ?_
            refine RunC.cond_true rfl rfl ?_
            refine RunC.exit ?_
            exact ⟨L18, L20, r24, r25, hl19, hl21, ⟨aR, aR, aR, aR, aR, aR, aR, aR, aR, aR, aR, aR, aR, aR, aR, trivial⟩, ⟨⟨rfl, .inr rfl⟩, ⟨rfl, .inr rfl⟩, ⟨rfl, .inr rfl⟩, ⟨rfl, .inr rfl⟩, ⟨rfl, .inr rfl⟩, ⟨rfl, .inr rfl⟩, ⟨rfl, .inr rfl⟩, ⟨rfl, .inr rfl⟩, trivial⟩, h18_⟩
           ·refine RunC.regionW ?_
            refine zM (r := f32 r25) rfl rfl rfl rfl rfl ?_
            refine zL (r := b false) rfl rfl rfl (LOp.eqb (LOp.feq rfl (OpF.tmp rfl) (OpF.const rfl (by kernel_rfl) (by kernel_rfl))) hc14) ?_
            refine zN ?_
            refine RunC.cond_false rfl rfl ?_
            refine RunC.skip ?_
            refine RunC.seq ?_
            obtain ⟨x29, hx15, h18_⟩ := olet_some h18_
            obtain ⟨x30, hx16, h18_⟩ := olet_some h18_
            obtain ⟨x31, hx17, h18_⟩ := olet_some h18_
            obtain ⟨r32, r33, hf18, h18_⟩ := obind2_some h18_
            refine RunC.regionW ?_
            refine zM (r := f32 r24) rfl rfl rfl rfl rfl ?_
            refine zM (r := f32 r23) rfl rfl rfl rfl rfl ?_
            refine ROps.d (r := f32 x29) (fs := []) (Γ' := [⟨1, some [i64 0, i64 0, nilsl]⟩, ⟨1, some [i64 0, i64 0, nilsl]⟩, ⟨1, some (L18.map f32)⟩, ⟨1, some [i64 r1, i64 r2, oref 2 1 0 r3.length]⟩, ⟨1, some (L20.map f32)⟩, ⟨1, some [i64 r4, i64 r5, oref 4 1 0 r6.length]⟩, ⟨0, none⟩, ⟨0, none⟩]) rfl rfl rfl (TOp.eqr (TOp.fop (.inr (.inl rfl)) rfl (OpF.tmp rfl) (OpF.tmp rfl)) (congrArg (f .f32) hx15)) rfl ?_
            refine zM (r := f32 r25) rfl rfl rfl rfl rfl ?_
            refine ROps.d (r := f32 x30) (fs := []) (Γ' := [⟨1, some [i64 0, i64 0, nilsl]⟩, ⟨1, some [i64 0, i64 0, nilsl]⟩, ⟨1, some (L18.map f32)⟩, ⟨1, some [i64 r1, i64 r2, oref 2 1 0 r3.length]⟩, ⟨1, some (L20.map f32)⟩, ⟨1, some [i64 r4, i64 r5, oref 4 1 0 r6.length]⟩, ⟨0, none⟩, ⟨0, none⟩]) rfl rfl rfl (TOp.eqr (TOp.fop (.inr (.inr (.inl rfl))) rfl (OpF.const rfl (by kernel_rfl) (by kernel_rfl)) (OpF.tmp rfl)) (congrArg (f .f32) hx16)) rfl ?_
            refine ROps.d (r := f32 x31) (fs := []) (Γ' := [⟨1, some [i64 0, i64 0, nilsl]⟩, ⟨1, some [i64 0, i64 0, nilsl]⟩, ⟨1, some (L18.map f32)⟩, ⟨1, some [i64 r1, i64 r2, oref 2 1 0 r3.length]⟩, ⟨1, some (L20.map f32)⟩, ⟨1, some [i64 r4, i64 r5, oref 4 1 0 r6.length]⟩, ⟨0, none⟩, ⟨0, none⟩]) rfl rfl rfl (TOp.eqr (TOp.fop (.inr (.inr (.inr rfl))) rfl (OpF.tmp rfl) (OpF.tmp rfl)) (congrArg (f .f32) hx17)) rfl ?_
            refine ROps.d (r := tup [f32 r32, f32 r33]) (fs := []) (Γ' := [⟨1, some [i64 0, i64 0, nilsl]⟩, ⟨1, some [i64 0, i64 0, nilsl]⟩, ⟨1, some (L18.map f32)⟩, ⟨1, some [i64 r1, i64 r2, oref 2 1 0 r3.length]⟩, ⟨1, some (L20.map f32)⟩, ⟨1, some [i64 r4, i64 r5, oref 4 1 0 r6.length]⟩, ⟨0, none⟩, ⟨0, none⟩]) rfl rfl rfl (TOp.callB (CallAs.func ent54 rfl rfl) (Bors.cons (Bor.pure rfl) Bors.nil) rfl rfl (s_l04Cosine_ok x31 r32 r33 hf18)) rfl ?_
            refine zM (r := tup [f32 r32, f32 r33]) rfl rfl rfl rfl rfl ?_
            refine zL (r := f32 r32) rfl rfl rfl (LOp.extract rfl rfl rfl) ?_
            refine zL (r := f32 r33) rfl rfl rfl (LOp.extract rfl rfl rfl) ?_
            refine zA (r := f32 r32) rfl rfl rfl rfl rfl ?_
            refine zA (r := f32 r33) rfl rfl rfl rfl rfl ?_
            refine zN ?_
            refine RunC.wl (τ' := [(0, ptr [i64 a0, i64 a1, sl a2.length (a2.map f32)]), (1, i64 a3), (4, optr 0 1 0), (5, optr 1 1 0), (7, optr 3 1 0), (8, optr 5 1 0), (9, i64 v11), (10, i64 v16), (11, i64 v22), (15, f32 r32), (16, f32 r33), (58, f32 r24), (59, b true), (60, b false), (63, f32 r25), (64, b true), (65, b false)]) (Γ' := [⟨1, some [i64 0, i64 0, nilsl]⟩, ⟨1, some [i64 0, i64 0, nilsl]⟩, ⟨1, some (L18.map f32)⟩, ⟨1, some [i64 r1, i64 r2, oref 2 1 0 r3.length]⟩, ⟨1, some (L20.map f32)⟩, ⟨1, some [i64 r4, i64 r5, oref 4 1 0 r6.length]⟩, ⟨0, none⟩, ⟨0, none⟩]) ⟨aR, aR, aR, aR, aR, aR, aR, aR, aR, aR, aR, aR, aR, aR, aR, aR, aR, trivial⟩ ⟨⟨rfl, .inr rfl⟩, ⟨rfl, .inr rfl⟩, ⟨rfl, .inr rfl⟩, ⟨rfl, .inr rfl⟩, ⟨rfl, .inr rfl⟩, ⟨rfl, .inr rfl⟩, ⟨rfl, .inr rfl⟩, ⟨rfl, .inr rfl⟩, trivial⟩ ?_
            refine RunC.seq ?_
            obtain ⟨r34, hf19, h18_⟩ := obind_some h18_
            obtain ⟨hn20, h18_⟩ := need_some h18_
            refine RunC.regionW ?_
            refine zM (r := i64 v16) rfl rfl rfl rfl rfl ?_
            refine zM (r := i64 v22) rfl rfl rfl rfl rfl ?_
            refine zM (r := f32 r32) rfl rfl rfl rfl rfl ?_
            refine zM (r := f32 r33) rfl rfl rfl rfl rfl ?_
            refine ROps.callO (A := [optr 3 1 0, i64 v16, i64 v22, f32 r32, f32 r33]) (args := [optr 0 0 0, i64 v16, i64 v22, f32 r32, f32 r33]) (Γc := [⟨0, some [i64 r1, i64 r2, oref 1 0 0 L18.length]⟩, ⟨0, some (L18.map f32)⟩]) (Γc' := [⟨0, some [i64 r1, i64 r2, oref 1 0 0 L18.length]⟩, ⟨0, some (r34.map f32)⟩]) (r' := tup []) (Γ' := [⟨1, some [i64 0, i64 0, nilsl]⟩, ⟨1, some [i64 0, i64 0, nilsl]⟩, ⟨1, some (r34.map f32)⟩, ⟨1, some [i64 r1, i64 r2, oref 2 1 0 r3.length]⟩, ⟨1, some (L20.map f32)⟩, ⟨1, some [i64 r4, i64 r5, oref 4 1 0 r6.length]⟩, ⟨0, none⟩, ⟨0, none⟩]) [(3, 1), (2, 1)] [] rfl (CallAs.func ent55 rfl rfl) rfl rfl (SelOk.of (show List.Nodup [3, 2] from by decide) (SelL.cells0 rfl (by simp [ren, rens, sigma, rens_f32, rens_f64, rens_i64, rens_ik, rens_str, rens_cp, hl19]) rfl (SelL.arr0 (f := f32) (fun _ => rfl) rfl trivial))) (live_of ⟨⟨_, _, rfl⟩, ⟨_, _, rfl⟩, trivial⟩) (by simp [ren, rens, sigma, rens_f32, rens_f64, rens_i64, rens_ik, rens_str, rens_cp, hl19]) rfl (s_l04Columns_0p0_C02o1_ok v16 v22 r32 r33 r1 r2 L18 r34 hf19) rfl (news_of trivial) (show List.Nodup [3, 2] from by decide) (by simp [ren, rens, sigma, of_decide_eq_true hn20]) (by simp [backOb, sigma, ren, rens, rens_f32, rens_f64, rens_i64, rens_ik, rens_str, rens_cp, hl19, of_decide_eq_true hn20]) ?_
            refine zN ?_
            refine RunC.seq ?_
            obtain ⟨r35, hf21, h18_⟩ := obind_some h18_
            obtain ⟨hn22, h18_⟩ := need_some h18_
            refine RunC.regionW ?_
            refine zM (r := i64 v16) rfl rfl rfl rfl rfl ?_
            refine zM (r := i64 v22) rfl rfl rfl rfl rfl ?_
            refine zM (r := f32 r32) rfl rfl rfl rfl rfl ?_
            refine zM (r := f32 r33) rfl rfl rfl rfl rfl ?_
            refine ROps.callO (A := [optr 5 1 0, i64 v16, i64 v22, f32 r32, f32 r33]) (args := [optr 0 0 0, i64 v16, i64 v22, f32 r32, f32 r33]) (Γc := [⟨0, some [i64 r4, i64 r5, oref 1 0 0 L20.length]⟩, ⟨0, some (L20.map f32)⟩]) (Γc' := [⟨0, some [i64 r4, i64 r5, oref 1 0 0 L20.length]⟩, ⟨0, some (r35.map f32)⟩]) (r' := tup []) (Γ' := [⟨1, some [i64 0, i64 0, nilsl]⟩, ⟨1, some [i64 0, i64 0, nilsl]⟩, ⟨1, some (r34.map f32)⟩, ⟨1, some [i64 r1, i64 r2, oref 2 1 0 r3.length]⟩, ⟨1, some (r35.map f32)⟩, ⟨1, some [i64 r4, i64 r5, oref 4 1 0 r6.length]⟩, ⟨0, none⟩, ⟨0, none⟩]) [(5, 1), (4, 1)] [] rfl (CallAs.func ent55 rfl rfl) rfl rfl (SelOk.of (show List.Nodup [5, 4] from by decide) (SelL.cells0 rfl (by simp [ren, rens, sigma, rens_f32, rens_f64, rens_i64, rens_ik, rens_str, rens_cp, hl21]) rfl (SelL.arr0 (f := f32) (fun _ => rfl) rfl trivial))) (live_of ⟨⟨_, _, rfl⟩, ⟨_, _, rfl⟩, trivial⟩) (by simp [ren, rens, sigma, rens_f32, rens_f64, rens_i64, rens_ik, rens_str, rens_cp, hl21]) rfl (s_l04Columns_0p0_C02o1_ok v16 v22 r32 r33 r4 r5 L20 r35 hf21) rfl (news_of trivial) (show List.Nodup [5, 4] from by decide) (by simp [ren, rens, sigma, of_decide_eq_true hn22]) (by simp [backOb, sigma, ren, rens, rens_f32, rens_f64, rens_i64, rens_ik, rens_str, rens_cp, hl21, of_decide_eq_true hn22]) ?_
            refine zN ?_
            refine RunC.seq ?_
            obtain ⟨r36, hf23, h18_⟩ := obind_some h18_
            rcases bsel_some h18_ with ⟨hc24, h18_⟩ | ⟨hc24, h18_⟩
            ·obtain ⟨r37, hf25, h18_⟩ := obind_some h18_
             rcases bsel_some h18_ with ⟨hc26, h18_⟩ | ⟨hc26, h18_⟩
             ·refine RunC.regionW ?_
              refine ROps.d (r := b true) (fs := []) (Γ' := [⟨1, some [i64 0, i64 0, nilsl]⟩, ⟨1, some [i64 0, i64 0, nilsl]⟩, ⟨1, some (r34.map f32)⟩, ⟨1, some [i64 r1, i64 r2, oref 2 1 0 r3.length]⟩, ⟨1, some (r35.map f32)⟩, ⟨1, some [i64 r4, i64 r5, oref 4 1 0 r6.length]⟩, ⟨0, none⟩, ⟨0, none⟩]) rfl rfl rfl (TOp.eqb (TOp.callB (CallAs.func ent48 rfl rfl) (Bors.cons (Bor.optr rfl (Bors.p (Bors.cons (Bor.pure rfl) (Bors.cons (Bor.pure rfl) (Bors.cons (Bor.own (f := f32) (fun _ => rfl) rfl (of_decide_eq_true hn20)) Bors.nil)))) rfl) Bors.nil) rfl rfl (s_l02Is_ok r1 r2 r34 r36 hf23)) hc24) rfl ?_
              refine zL (r := b false) rfl rfl rfl (LOp.eqb (LOp.not rfl rfl) rfl) ?_
              refine zM (r := b false) rfl rfl rfl rfl rfl ?_
              refine ROps.d (r := b true) (fs := []) (Γ' := [⟨1, some [i64 0, i64 0, nilsl]⟩, ⟨1, some [i64 0, i64 0, nilsl]⟩, ⟨1, some (r34.map f32)⟩, ⟨1, some [i64 r1, i64 r2, oref 2 1 0 r3.length]⟩, ⟨1, some (r35.map f32)⟩, ⟨1, some [i64 r4, i64 r5, oref 4 1 0 r6.length]⟩, ⟨0, none⟩, ⟨0, none⟩]) rfl rfl rfl (TOp.eqb (TOp.callB (CallAs.func ent48 rfl rfl) (Bors.cons (Bor.optr rfl (Bors.p (Bors.cons (Bor.pure rfl) (Bors.cons (Bor.pure rfl) (Bors.cons (Bor.own (f := f32) (fun _ => rfl) rfl (of_decide_eq_true hn22)) Bors.nil)))) rfl) Bors.nil) rfl rfl (s_l02Is_ok r4 r5 r35 r37 hf25)) hc26) rfl ?_
              refine zL (r := b false) rfl rfl rfl (LOp.eqb (LOp.not rfl rfl) rfl) ?_
              refine zL (r := b false) rfl rfl rfl (LOp.pick_false rfl rfl rfl) ?_
              refine zN ?_
              refine RunC.wl (τ' := [(0, ptr [i64 a0, i64 a1, sl a2.length (a2.map f32)]), (1, i64 a3), (4, optr 0 1 0), (5, optr 1 1 0), (7, optr 3 1 0), (8, optr 5 1 0), (9, i64 v11), (10, i64 v16), (11, i64 v22), (58, f32 r24), (59, b true), (60, b false), (63, f32 r25), (64, b true), (65, b false), (94, b true), (95, b false), (96, b false)]) (Γ' := [⟨1, some [i64 0, i64 0, nilsl]⟩, ⟨1, some [i64 0, i64 0, nilsl]⟩, ⟨1, some (r34.map f32)⟩, ⟨1, some [i64 r1, i64 r2, oref 2 1 0 r3.length]⟩, ⟨1, some (r35.map f32)⟩, ⟨1, some [i64 r4, i64 r5, oref 4 1 0 r6.length]⟩, ⟨0, none⟩, ⟨0, none⟩]) ⟨aR, aR, aR, aR, aR, aR, aR, aR, aR, aR, aR, aR, aR, aR, aR, aR, aR, aR, trivial⟩ ⟨⟨rfl, .inr rfl⟩, ⟨rfl, .inr rfl⟩, ⟨rfl, .inr rfl⟩, ⟨rfl, .inr rfl⟩, ⟨rfl, .inr rfl⟩, ⟨rfl, .inr rfl⟩, ⟨rfl, .inr rfl⟩, ⟨rfl, .inr rfl⟩, trivial⟩ ?_
              refine RunC.cond_false rfl rfl ?_
              refine RunC.skip ?_
              exact ⟨r34, r35, r24, r25, (of_decide_eq_true hn20), (of_decide_eq_true hn22), ⟨aR, aR, aR, aR, aR, aR, aR, aR, aR, aR, aR, aR, aR, aR, aR, trivial⟩, ⟨⟨rfl, .inr rfl⟩, ⟨rfl, .inr rfl⟩, ⟨rfl, .inr rfl⟩, ⟨rfl, .inr rfl⟩, ⟨rfl, .inr rfl⟩, ⟨rfl, .inr rfl⟩, ⟨rfl, .inr rfl⟩, ⟨rfl, .inr rfl⟩, trivial⟩, h18_⟩
             ·refine RunC.regionW ?_
              refine ROps.d (r := b true) (fs := []) (Γ' := [⟨1, some [i64 0, i64 0, nilsl]⟩, ⟨1, some [i64 0, i64 0, nilsl]⟩, ⟨1, some (r34.map f32)⟩, ⟨1, some [i64 r1, i64 r2, oref 2 1 0 r3.length]⟩, ⟨1, some (r35.map f32)⟩, ⟨1, some [i64 r4, i64 r5, oref 4 1 0 r6.length]⟩, ⟨0, none⟩, ⟨0, none⟩]) rfl rfl rfl (TOp.eqb (TOp.callB (CallAs.func ent48 rfl rfl) (Bors.cons (Bor.optr rfl (Bors.p (Bors.cons (Bor.pure rfl) (Bors.cons (Bor.pure rfl) (Bors.cons (Bor.own (f := f32) (fun _ => rfl) rfl (of_decide_eq_true hn20)) Bors.nil)))) rfl) Bors.nil) rfl rfl (s_l02Is_ok r1 r2 r34 r36 hf23)) hc24) rfl ?_
              refine zL (r := b false) rfl rfl rfl (LOp.eqb (LOp.not rfl rfl) rfl) ?_
              refine zM (r := b false) rfl rfl rfl rfl rfl ?_
              refine ROps.d (r := b false) (fs := []) (Γ' := [⟨1, some [i64 0, i64 0, nilsl]⟩, ⟨1, some [i64 0, i64 0, nilsl]⟩, ⟨1, some (r34.map f32)⟩, ⟨1, some [i64 r1, i64 r2, oref 2 1 0 r3.length]⟩, ⟨1, some (r35.map f32)⟩, ⟨1, some [i64 r4, i64 r5, oref 4 1 0 r6.length]⟩, ⟨0, none⟩, ⟨0, none⟩]) rfl rfl rfl (TOp.eqb (TOp.callB (CallAs.func ent48 rfl rfl) (Bors.cons (Bor.optr rfl (Bors.p (Bors.cons (Bor.pure rfl) (Bors.cons (Bor.pure rfl) (Bors.cons (Bor.own (f := f32) (fun _ => rfl) rfl (of_decide_eq_true hn22)) Bors.nil)))) rfl) Bors.nil) rfl rfl (s_l02Is_ok r4 r5 r35 r37 hf25)) hc26) rfl ?_
              refine zL (r := b true) rfl rfl rfl (LOp.eqb (LOp.not rfl rfl) rfl) ?_
              refine zL (r := b true) rfl rfl rfl (LOp.pick_false rfl rfl rfl) ?_
              refine zN ?_
              refine RunC.wl (τ' := [(0, ptr [i64 a0, i64 a1, sl a2.length (a2.map f32)]), (1, i64 a3), (4, optr 0 1 0), (5, optr 1 1 0), (7, optr 3 1 0), (8, optr 5 1 0), (9, i64 v11), (10, i64 v16), (11, i64 v22), (58, f32 r24), (59, b true), (60, b false), (63, f32 r25), (64, b true), (65, b false), (94, b false), (95, b true), (96, b true)]) (Γ' := [⟨1, some [i64 0, i64 0, nilsl]⟩, ⟨1, some [i64 0, i64 0, nilsl]⟩, ⟨1, some (r34.map f32)⟩, ⟨1, some [i64 r1, i64 r2, oref 2 1 0 r3.length]⟩, ⟨1, some (r35.map f32)⟩, ⟨1, some [i64 r4, i64 r5, oref 4 1 0 r6.length]⟩, ⟨0, none⟩, ⟨0, none⟩]) ⟨aR, aR, aR, aR, aR, aR, aR, aR, aR, aR, aR, aR, aR, aR, aR, aR, aR, aR, trivial⟩ ⟨⟨rfl, .inr rfl⟩, ⟨rfl, .inr rfl⟩, ⟨rfl, .inr rfl⟩, ⟨rfl, .inr rfl⟩, ⟨rfl, .inr rfl⟩, ⟨rfl, .inr rfl⟩, ⟨rfl, .inr rfl⟩, ⟨rfl, .inr rfl⟩, trivial⟩ ?_
              refine RunC.cond_true rfl rfl ?_
              refine zQ ?_
              refine zL (r := agg [i64 0, i64 0, nilsl]) rfl rfl rfl (LOp.build (qs := []) zer26 zok26 und26 plc26 rfl trivial rfl) ?_
              refine zL (r := agg [i64 0, i64 0, nilsl]) rfl rfl rfl (LOp.build (qs := []) zer26 zok26 und26 plc26 rfl trivial rfl) ?_
              refine ROps.store_le (r := agg [i64 0, i64 0, nilsl]) (l' := [i64 0, i64 0, nilsl]) (Γ' := [⟨1, some [i64 0, i64 0, nilsl]⟩, ⟨1, some [i64 0, i64 0, nilsl]⟩, ⟨1, some (r34.map f32)⟩, ⟨1, some [i64 r1, i64 r2, oref 2 1 0 r3.length]⟩, ⟨1, some (r35.map f32)⟩, ⟨1, some [i64 r4, i64 r5, oref 4 1 0 r6.length]⟩, ⟨0, none⟩, ⟨0, none⟩]) rfl siz26 rfl rfl rfl aR rfl rfl rfl rfl (Nat.le_of_ble_eq_true rfl) rfl rfl ?_
              refine ROps.store_le (r := agg [i64 0, i64 0, nilsl]) (l' := [i64 0, i64 0, nilsl]) (Γ' := [⟨1, some [i64 0, i64 0, nilsl]⟩, ⟨1, some [i64 0, i64 0, nilsl]⟩, ⟨1, some (r34.map f32)⟩, ⟨1, some [i64 r1, i64 r2, oref 2 1 0 r3.length]⟩, ⟨1, some (r35.map f32)⟩, ⟨1, some [i64 r4, i64 r5, oref 4 1 0 r6.length]⟩, ⟨0, none⟩, ⟨0, none⟩]) rfl siz26 rfl rfl rfl aR rfl rfl rfl rfl (Nat.le_of_ble_eq_true rfl) rfl rfl ?_
              refine zA (r := b false) rfl rfl rfl rfl rfl ?_
              refine zN ?_
              refine RunC.nil_cell (l' := [i64 0, i64 0, oref 6 1 0 0]) (Γ' := [⟨1, some [i64 0, i64 0, oref 6 1 0 0]⟩, ⟨1, some [i64 0, i64 0, nilsl]⟩, ⟨1, some (r34.map f32)⟩, ⟨1, some [i64 r1, i64 r2, oref 2 1 0 r3.length]⟩, ⟨1, some (r35.map f32)⟩, ⟨1, some [i64 r4, i64 r5, oref 4 1 0 r6.length]⟩, ⟨1, some (([] : List F).map f32)⟩, ⟨0, none⟩]) 0 2 6 rfl rfl rfl rfl rfl ?_
              refine RunC.nil_cell (l' := [i64 0, i64 0, oref 7 1 0 0]) (Γ' := [⟨1, some [i64 0, i64 0, oref 6 1 0 0]⟩, ⟨1, some [i64 0, i64 0, oref 7 1 0 0]⟩, ⟨1, some (r34.map f32)⟩, ⟨1, some [i64 r1, i64 r2, oref 2 1 0 r3.length]⟩, ⟨1, some (r35.map f32)⟩, ⟨1, some [i64 r4, i64 r5, oref 4 1 0 r6.length]⟩, ⟨1, some (([] : List F).map f32)⟩, ⟨1, some (([] : List F).map f32)⟩]) 1 2 7 rfl rfl rfl rfl rfl ?_
              refine RunC.ret ?_
              cases Option.some.inj h18_
              have hx19_ := hr18 _ rfl
              subst hx19_
              cases Option.some.inj h17_
              have hx20_ := hr17 _ rfl
              subst hx20_
              cases Option.some.inj h16_
              have hx21_ := hr16 _ rfl
              subst hx21_
              have hq := Option.some.inj h
              obtain ⟨hq0, hq⟩ := Prod.mk.inj hq
              obtain ⟨hq1, hq⟩ := Prod.mk.inj hq
              obtain ⟨hq2, hq⟩ := Prod.mk.inj hq
              obtain ⟨hq3, hq⟩ := Prod.mk.inj hq
              obtain ⟨hq4, hq⟩ := Prod.mk.inj hq
              obtain ⟨hq5, hq⟩ := Prod.mk.inj hq
              subst q0
              subst q1
              subst q2
              subst q3
              subst q4
              subst q5
              subst q6
              exact bodyQ.mk (r' := tup [agg [i64 0, i64 0, oref 6 1 0 (([] : List F).length)], agg [i64 0, i64 0, oref 7 1 0 (([] : List F).length)], b false]) [(6, 1), (7, 1)] (.inr rfl) rfl (show List.Nodup [6, 7] from by decide) rfl rfl (Res.eq (Res.three rfl (RV.cell agg26 siz26 rfl rfl rfl rfl) (RV.cell agg26 siz26 rfl rfl rfl rfl) (RV.tmp rfl)) (by rw [(show ([] : List F).length = 0 from rfl)] <;> rfl)) (SelL.arr0 (f := f32) (fun _ => rfl) rfl (SelL.arr0 (f := f32) (fun _ => rfl) rfl trivial))
            ·refine RunC.regionW ?_
             refine ROps.d (r := b false) (fs := []) (Γ' := [⟨1, some [i64 0, i64 0, nilsl]⟩, ⟨1, some [i64 0, i64 0, nilsl]⟩, ⟨1, some (r34.map f32)⟩, ⟨1, some [i64 r1, i64 r2, oref 2 1 0 r3.length]⟩, ⟨1, some (r35.map f32)⟩, ⟨1, some [i64 r4, i64 r5, oref 4 1 0 r6.length]⟩, ⟨0, none⟩, ⟨0, none⟩]) rfl rfl rfl (TOp.eqb (TOp.callB (CallAs.func ent48 rfl rfl) (Bors.cons (Bor.optr rfl (Bors.p (Bors.cons (Bor.pure rfl) (Bors.cons (Bor.pure rfl) (Bors.cons (Bor.own (f := f32) (fun _ => rfl) rfl (of_decide_eq_true hn20)) Bors.nil)))) rfl) Bors.nil) rfl rfl (s_l02Is_ok r1 r2 r34 r36 hf23)) hc24) rfl ?_
             refine zL (r := b true) rfl rfl rfl (LOp.eqb (LOp.not rfl rfl) rfl) ?_
             refine zM (r := b true) rfl rfl rfl rfl rfl ?_
             refine ROps.s rfl rfl rfl ?_
             refine ROps.s rfl rfl rfl ?_
             refine zL (r := b true) rfl rfl rfl (LOp.pick_true rfl rfl rfl) ?_
             refine zN ?_
             refine RunC.wl (τ' := [(0, ptr [i64 a0, i64 a1, sl a2.length (a2.map f32)]), (1, i64 a3), (4, optr 0 1 0), (5, optr 1 1 0), (7, optr 3 1 0), (8, optr 5 1 0), (9, i64 v11), (10, i64 v16), (11, i64 v22), (58, f32 r24), (59, b true), (60, b false), (63, f32 r25), (64, b true), (65, b false), (96, b true)]) (Γ' := [⟨1, some [i64 0, i64 0, nilsl]⟩, ⟨1, some [i64 0, i64 0, nilsl]⟩, ⟨1, some (r34.map f32)⟩, ⟨1, some [i64 r1, i64 r2, oref 2 1 0 r3.length]⟩, ⟨1, some (r35.map f32)⟩, ⟨1, some [i64 r4, i64 r5, oref 4 1 0 r6.length]⟩, ⟨0, none⟩, ⟨0, none⟩]) ⟨aR, aR, aR, aR, aR, aR, aR, aR, aR, aR, aR, aR, aR, aR, aR, aR, trivial⟩ ⟨⟨rfl, .inr rfl⟩, ⟨rfl, .inr rfl⟩, ⟨rfl, .inr rfl⟩, ⟨rfl, .inr rfl⟩, ⟨rfl, .inr rfl⟩, ⟨rfl, .inr rfl⟩, ⟨rfl, .inr rfl⟩, ⟨rfl, .inr rfl⟩, trivial⟩ ?_
             refine RunC.cond_true rfl rfl ?_
             refine zQ ?_
             refine zL (r := agg [i64 0, i64 0, nilsl]) rfl rfl rfl (LOp.build (qs := []) zer26 zok26 und26 plc26 rfl trivial rfl) ?_
             refine zL (r := agg [i64 0, i64 0, nilsl]) rfl rfl rfl (LOp.build (qs := []) zer26 zok26 und26 plc26 rfl trivial rfl) ?_
             refine ROps.store_le (r := agg [i64 0, i64 0, nilsl]) (l' := [i64 0, i64 0, nilsl]) (Γ' := [⟨1, some [i64 0, i64 0, nilsl]⟩, ⟨1, some [i64 0, i64 0, nilsl]⟩, ⟨1, some (r34.map f32)⟩, ⟨1, some [i64 r1, i64 r2, oref 2 1 0 r3.length]⟩, ⟨1, some (r35.map f32)⟩, ⟨1, some [i64 r4, i64 r5, oref 4 1 0 r6.length]⟩, ⟨0, none⟩, ⟨0, none⟩]) rfl siz26 rfl rfl rfl aR rfl rfl rfl rfl (Nat.le_of_ble_eq_true rfl) rfl rfl ?_
             refine ROps.store_le (r := agg [i64 0, i64 0, nilsl]) (l' := [i64 0, i64 0, nilsl]) (Γ' := [⟨1, some [i64 0, i64 0, nilsl]⟩, ⟨1, some [i64 0, i64 0, nilsl]⟩, ⟨1, some (r34.map f32)⟩, ⟨1, some [i64 r1, i64 r2, oref 2 1 0 r3.length]⟩, ⟨1, some (r35.map f32)⟩, ⟨1, some [i64 r4, i64 r5, oref 4 1 0 r6.length]⟩, ⟨0, none⟩, ⟨0, none⟩]) rfl siz26 rfl rfl rfl aR rfl rfl rfl rfl (Nat.le_of_ble_eq_true rfl) rfl rfl ?_
             refine zA (r := b false) rfl rfl rfl rfl rfl ?_
             refine zN ?_
             refine RunC.nil_cell (l' := [i64 0, i64 0, oref 6 1 0 0]) (Γ' := [⟨1, some [i64 0, i64 0, oref 6 1 0 0]⟩, ⟨1, some [i64 0, i64 0, nilsl]⟩, ⟨1, some (r34.map f32)⟩, ⟨1, some [i64 r1, i64 r2, oref 2 1 0 r3.length]⟩, ⟨1, some (r35.map f32)⟩, ⟨1, some [i64 r4, i64 r5, oref 4 1 0 r6.length]⟩, ⟨1, some (([] : List F).map f32)⟩, ⟨0, none⟩]) 0 2 6 rfl rfl rfl rfl rfl ?_
             refine RunC.nil_cell (l' := [i64 0, i64 0, oref 7 1 0 0]) (Γ' := [⟨1, some [i64 0, i64 0, oref 6 1 0 0]⟩, ⟨1, some [i64 0, i64 0, oref 7 1 0 0]⟩, ⟨1, some (r34.map f32)⟩, ⟨1, some [i64 r1, i64 r2, oref 2 1 0 r3.length]⟩, ⟨1, some (r35.map f32)⟩, ⟨1, some [i64 r4, i64 r5, oref 4 1 0 r6.length]⟩, ⟨1, some (([] : List F).map f32)⟩, ⟨1, some (([] : List F).map f32)⟩]) 1 2 7 rfl rfl rfl rfl rfl ?_
             refine RunC.ret ?_
             cases Option.some.inj h18_
             have hx22_ := hr18 _ rfl
             subst hx22_
             cases Option.some.inj h17_
             have hx23_ := hr17 _ rfl
             subst hx23_
             cases Option.some.inj h16_
             have hx24_ := hr16 _ rfl
             subst hx24_
             have hq := Option.some.inj h
             obtain ⟨hq0, hq⟩ := Prod.mk.inj hq
             obtain ⟨hq1, hq⟩ := Prod.mk.inj hq
             obtain ⟨hq2, hq⟩ := Prod.mk.inj hq
             obtain ⟨hq3, hq⟩ := Prod.mk.inj hq
             obtain ⟨hq4, hq⟩ := Prod.mk.inj hq
             obtain ⟨hq5, hq⟩ := Prod.mk.inj hq
             subst q0
             subst q1
             subst q2
             subst q3
             subst q4
             subst q5
             subst q6
             exact bodyQ.mk (r' := tup [agg [i64 0, i64 0, oref 6 1 0 (([] : List F).length)], agg [i64 0, i64 0, oref 7 1 0 (([] : List F).length)], b false]) [(6, 1), (7, 1)] (.inr rfl) rfl (show List.Nodup [6, 7] from by decide) rfl rfl (Res.eq (Res.three rfl (RV.cell agg26 siz26 rfl rfl rfl rfl) (RV.cell agg26 siz26 rfl rfl rfl rfl) (RV.tmp rfl)) (by rw [(show ([] : List F).length = 0 from rfl)] <;> rfl)) (SelL.arr0 (f := f32) (fun _ => rfl) rfl (SelL.arr0 (f := f32) (fun _ => rfl) rfl trivial))
          ·refine RunC.regionW ?_
           refine zM (r := f32 r23) rfl rfl rfl rfl rfl ?_
           refine ROps.d (r := b true) (fs := []) (Γ' := [⟨1, some [i64 0, i64 0, nilsl]⟩, ⟨1, some [i64 0, i64 0, nilsl]⟩, ⟨1, some (L18.map f32)⟩, ⟨1, some [i64 r1, i64 r2, oref 2 1 0 r3.length]⟩, ⟨1, some (L20.map f32)⟩, ⟨1, some [i64 r4, i64 r5, oref 4 1 0 r6.length]⟩, ⟨0, none⟩, ⟨0, none⟩]) rfl rfl rfl (TOp.eqb (TOp.callB (CallAs.func ent53 rfl rfl) (Bors.cons (Bor.pure rfl) Bors.nil) rfl rfl (s_l01Finite_ok r23 r26 hf8)) hc9) rfl ?_
           refine zL (r := b false) rfl rfl rfl (LOp.eqb (LOp.not rfl rfl) rfl) ?_
           refine zM (r := b false) rfl rfl rfl rfl rfl ?_
           refine zM (r := f32 r24) rfl rfl rfl rfl rfl ?_
           refine ROps.d (r := b true) (fs := []) (Γ' := [⟨1, some [i64 0, i64 0, nilsl]⟩, ⟨1, some [i64 0, i64 0, nilsl]⟩, ⟨1, some (L18.map f32)⟩, ⟨1, some [i64 r1, i64 r2, oref 2 1 0 r3.length]⟩, ⟨1, some (L20.map f32)⟩, ⟨1, some [i64 r4, i64 r5, oref 4 1 0 r6.length]⟩, ⟨0, none⟩, ⟨0, none⟩]) rfl rfl rfl (TOp.eqb (TOp.callB (CallAs.func ent53 rfl rfl) (Bors.cons (Bor.pure rfl) Bors.nil) rfl rfl (s_l01Finite_ok r24 r27 hf10)) hc11) rfl ?_
           refine zL (r := b false) rfl rfl rfl (LOp.eqb (LOp.not rfl rfl) rfl) ?_
           refine zL (r := b false) rfl rfl rfl (LOp.pick_false rfl rfl rfl) ?_
           refine zM (r := b false) rfl rfl rfl rfl rfl ?_
           refine zM (r := f32 r25) rfl rfl rfl rfl rfl ?_
           refine ROps.d (r := b false) (fs := []) (Γ' := [⟨1, some [i64 0, i64 0, nilsl]⟩, ⟨1, some [i64 0, i64 0, nilsl]⟩, ⟨1, some (L18.map f32)⟩, ⟨1, some [i64 r1, i64 r2, oref 2 1 0 r3.length]⟩, ⟨1, some (L20.map f32)⟩, ⟨1, some [i64 r4, i64 r5, oref 4 1 0 r6.length]⟩, ⟨0, none⟩, ⟨0, none⟩]) rfl rfl rfl (TOp.eqb (TOp.callB (CallAs.func ent53 rfl rfl) (Bors.cons (Bor.pure rfl) Bors.nil) rfl rfl (s_l01Finite_ok r25 r28 hf12)) hc13) rfl ?_
           refine zL (r := b true) rfl rfl rfl (LOp.eqb (LOp.not rfl rfl) rfl) ?_
           refine zL (r := b true) rfl rfl rfl (LOp.pick_false rfl rfl rfl) ?_
           refine zN ?_
           refine RunC.wl (τ' := [(0, ptr [i64 a0, i64 a1, sl a2.length (a2.map f32)]), (1, i64 a3), (4, optr 0 1 0), (5, optr 1 1 0), (7, optr 3 1 0), (8, optr 5 1 0), (9, i64 v11), (10, i64 v16), (11, i64 v22), (12, f32 r23), (13, f32 r24), (14, f32 r25), (58, f32 r24), (59, b true), (60, b false), (63, f32 r25), (64, b false), (65, b true), (66, b true)]) (Γ' := [⟨1, some [i64 0, i64 0, nilsl]⟩, ⟨1, some [i64 0, i64 0, nilsl]⟩, ⟨1, some (L18.map f32)⟩, ⟨1, some [i64 r1, i64 r2, oref 2 1 0 r3.length]⟩, ⟨1, some (L20.map f32)⟩, ⟨1, some [i64 r4, i64 r5, oref 4 1 0 r6.length]⟩, ⟨0, none⟩, ⟨0, none⟩]) ⟨aR, aR, aR, aR, aR, aR, aR, aR, aR, aR, aR, aR, aR, aR, aR, aR, aR, aR, aR, trivial⟩ ⟨⟨rfl, .inr rfl⟩, ⟨rfl, .inr rfl⟩, ⟨rfl, .inr rfl⟩, ⟨rfl, .inr rfl⟩, ⟨rfl, .inr rfl⟩, ⟨rfl, .inr rfl⟩, ⟨rfl, .inr rfl⟩, ⟨rfl, .inr rfl⟩, trivial⟩ ?_
           refine RunC.cond_true rfl rfl ?_
           refine zQ ?_
           refine zL (r := agg [i64 0, i64 0, nilsl]) rfl rfl rfl (LOp.build (qs := []) zer26 zok26 und26 plc26 rfl trivial rfl) ?_
           refine zL (r := agg [i64 0, i64 0, nilsl]) rfl rfl rfl (LOp.build (qs := []) zer26 zok26 und26 plc26 rfl trivial rfl) ?_
           refine ROps.store_le (r := agg [i64 0, i64 0, nilsl]) (l' := [i64 0, i64 0, nilsl]) (Γ' := [⟨1, some [i64 0, i64 0, nilsl]⟩, ⟨1, some [i64 0, i64 0, nilsl]⟩, ⟨1, some (L18.map f32)⟩, ⟨1, some [i64 r1, i64 r2, oref 2 1 0 r3.length]⟩, ⟨1, some (L20.map f32)⟩, ⟨1, some [i64 r4, i64 r5, oref 4 1 0 r6.length]⟩, ⟨0, none⟩, ⟨0, none⟩]) rfl siz26 rfl rfl rfl aR rfl rfl rfl rfl (Nat.le_of_ble_eq_true rfl) rfl rfl ?_
           refine ROps.store_le (r := agg [i64 0, i64 0, nilsl]) (l' := [i64 0, i64 0, nilsl]) (Γ' := [⟨1, some [i64 0, i64 0, nilsl]⟩, ⟨1, some [i64 0, i64 0, nilsl]⟩, ⟨1, some (L18.map f32)⟩, ⟨1, some [i64 r1, i64 r2, oref 2 1 0 r3.length]⟩, ⟨1, some (L20.map f32)⟩, ⟨1, some [i64 r4, i64 r5, oref 4 1 0 r6.length]⟩, ⟨0, none⟩, ⟨0, none⟩]) rfl siz26 rfl rfl rfl aR rfl rfl rfl rfl (Nat.le_of_ble_eq_true rfl) rfl rfl ?_
           refine zA (r := b false) rfl rfl rfl rfl rfl ?_
           refine zN ?_
           refine RunC.nil_cell (l' := [i64 0, i64 0, oref 6 1 0 0]) (Γ' := [⟨1, some [i64 0, i64 0, oref 6 1 0 0]⟩, ⟨1, some [i64 0, i64 0, nilsl]⟩, ⟨1, some (L18.map f32)⟩, ⟨1, some [i64 r1, i64 r2, oref 2 1 0 r3.length]⟩, ⟨1, some (L20.map f32)⟩, ⟨1, some [i64 r4, i64 r5, oref 4 1 0 r6.length]⟩, ⟨1, some (([] : List F).map f32)⟩, ⟨0, none⟩]) 0 2 6 rfl rfl rfl rfl rfl ?_
           refine RunC.nil_cell (l' := [i64 0, i64 0, oref 7 1 0 0]) (Γ' := [⟨1, some [i64 0, i64 0, oref 6 1 0 0]⟩, ⟨1, some [i64 0, i64 0, oref 7 1 0 0]⟩, ⟨1, some (L18.map f32)⟩, ⟨1, some [i64 r1, i64 r2, oref 2 1 0 r3.length]⟩, ⟨1, some (L20.map f32)⟩, ⟨1, some [i64 r4, i64 r5, oref 4 1 0 r6.length]⟩, ⟨1, some (([] : List F).map f32)⟩, ⟨1, some (([] : List F).map f32)⟩]) 1 2 7 rfl rfl rfl rfl rfl ?_
           refine RunC.ret ?_
           cases Option.some.inj h18_
           have hx25_ := hr18 _ rfl
           subst hx25_
           cases Option.some.inj h17_
           have hx26_ := hr17 _ rfl
           subst hx26_
           cases Option.some.inj h16_
           have hx27_ := hr16 _ rfl
           subst hx27_
           have hq := Option.some.inj h
           obtain ⟨hq0, hq⟩ := Prod.mk.inj hq
           obtain ⟨hq1, hq⟩ := Prod.mk.inj hq
           obtain ⟨hq2, hq⟩ := Prod.mk.inj hq
           obtain ⟨hq3, hq⟩ := Prod.mk.inj hq
           obtain ⟨hq4, hq⟩ := Prod.mk.inj hq
           obtain ⟨hq5, hq⟩ := Prod.mk.inj hq
           subst q0
           subst q1
           subst q2
           subst q3
           subst q4
           subst q5
           subst q6
           exact bodyQ.mk (r' := tup [agg [i64 0, i64 0, oref 6 1 0 (([] : List F).length)], agg [i64 0, i64 0, oref 7 1 0 (([] : List F).length)], b false]) [(6, 1), (7, 1)] (.inr rfl) rfl (show List.Nodup [6, 7] from by decide) rfl rfl (Res.eq (Res.three rfl (RV.cell agg26 siz26 rfl rfl rfl rfl) (RV.cell agg26 siz26 rfl rfl rfl rfl) (RV.tmp rfl)) (by rw [(show ([] : List F).length = 0 from rfl)] <;> rfl)) (SelL.arr0 (f := f32) (fun _ => rfl) rfl (SelL.arr0 (f := f32) (fun _ => rfl) rfl trivial))
         ·refine RunC.regionW ?_
          refine zM (r := f32 r23) rfl rfl rfl rfl rfl ?_
          refine ROps.d (r := b true) (fs := []) (Γ' := [⟨1, some [i64 0, i64 0, nilsl]⟩, ⟨1, some [i64 0, i64 0, nilsl]⟩, ⟨1, some (L18.map f32)⟩, ⟨1, some [i64 r1, i64 r2, oref 2 1 0 r3.length]⟩, ⟨1, some (L20.map f32)⟩, ⟨1, some [i64 r4, i64 r5, oref 4 1 0 r6.length]⟩, ⟨0, none⟩, ⟨0, none⟩]) rfl rfl rfl (TOp.eqb (TOp.callB (CallAs.func ent53 rfl rfl) (Bors.cons (Bor.pure rfl) Bors.nil) rfl rfl (s_l01Finite_ok r23 r26 hf8)) hc9) rfl ?_
          refine zL (r := b false) rfl rfl rfl (LOp.eqb (LOp.not rfl rfl) rfl) ?_
          refine zM (r := b false) rfl rfl rfl rfl rfl ?_
          refine zM (r := f32 r24) rfl rfl rfl rfl rfl ?_
          refine ROps.d (r := b false) (fs := []) (Γ' := [⟨1, some [i64 0, i64 0, nilsl]⟩, ⟨1, some [i64 0, i64 0, nilsl]⟩, ⟨1, some (L18.map f32)⟩, ⟨1, some [i64 r1, i64 r2, oref 2 1 0 r3.length]⟩, ⟨1, some (L20.map f32)⟩, ⟨1, some [i64 r4, i64 r5, oref 4 1 0 r6.length]⟩, ⟨0, none⟩, ⟨0, none⟩]) rfl rfl rfl (TOp.eqb (TOp.callB (CallAs.func ent53 rfl rfl) (Bors.cons (Bor.pure rfl) Bors.nil) rfl rfl (s_l01Finite_ok r24 r27 hf10)) hc11) rfl ?_
          refine zL (r := b true) rfl rfl rfl (LOp.eqb (LOp.not rfl rfl) rfl) ?_
          refine zL (r := b true) rfl rfl rfl (LOp.pick_false rfl rfl rfl) ?_
          refine zM (r := b true) rfl rfl rfl rfl rfl ?_
          refine ROps.s rfl rfl rfl ?_
          refine ROps.s rfl rfl rfl ?_
          refine ROps.s rfl rfl rfl ?_
          refine zL (r := b true) rfl rfl rfl (LOp.pick_true rfl rfl rfl) ?_
          refine zN ?_
          refine RunC.wl (τ' := [(0, ptr [i64 a0, i64 a1, sl a2.length (a2.map f32)]), (1, i64 a3), (4, optr 0 1 0), (5, optr 1 1 0), (7, optr 3 1 0), (8, optr 5 1 0), (9, i64 v11), (10, i64 v16), (11, i64 v22), (12, f32 r23), (13, f32 r24), (14, f32 r25), (58, f32 r24), (59, b false), (60, b true), (66, b true)]) (Γ' := [⟨1, some [i64 0, i64 0, nilsl]⟩, ⟨1, some [i64 0, i64 0, nilsl]⟩, ⟨1, some (L18.map f32)⟩, ⟨1, some [i64 r1, i64 r2, oref 2 1 0 r3.length]⟩, ⟨1, some (L20.map f32)⟩, ⟨1, some [i64 r4, i64 r5, oref 4 1 0 r6.length]⟩, ⟨0, none⟩, ⟨0, none⟩]) ⟨aR, aR, aR, aR, aR, aR, aR, aR, aR, aR, aR, aR, aR, aR, aR, aR, trivial⟩ ⟨⟨rfl, .inr rfl⟩, ⟨rfl, .inr rfl⟩, ⟨rfl, .inr rfl⟩, ⟨rfl, .inr rfl⟩, ⟨rfl, .inr rfl⟩, ⟨rfl, .inr rfl⟩, ⟨rfl, .inr rfl⟩, ⟨rfl, .inr rfl⟩, trivial⟩ ?_
          refine RunC.cond_true rfl rfl ?_
          refine zQ ?_
          refine zL (r := agg [i64 0, i64 0, nilsl]) rfl rfl rfl (LOp.build (qs := []) zer26 zok26 und26 plc26 rfl trivial rfl) ?_
          refine zL (r := agg [i64 0, i64 0, nilsl]) rfl rfl rfl (LOp.build (qs := []) zer26 zok26 und26 plc26 rfl trivial rfl) ?_
          refine ROps.store_le (r := agg [i64 0, i64 0, nilsl]) (l' := [i64 0, i64 0, nilsl]) (Γ' := [⟨1, some [i64 0, i64 0, nilsl]⟩, ⟨1, some [i64 0, i64 0, nilsl]⟩, ⟨1, some (L18.map f32)⟩, ⟨1, some [i64 r1, i64 r2, oref 2 1 0 r3.length]⟩, ⟨1, some (L20.map f32)⟩, ⟨1, some [i64 r4, i64 r5, oref 4 1 0 r6.length]⟩, ⟨0, none⟩, ⟨0, none⟩]) rfl siz26 rfl rfl rfl aR rfl rfl rfl rfl (Nat.le_of_ble_eq_true rfl) rfl rfl ?_
          refine ROps.store_le (r := agg [i64 0, i64 0, nilsl]) (l' := [i64 0, i64 0, nilsl]) (Γ' := [⟨1, some [i64 0, i64 0, nilsl]⟩, ⟨1, some [i64 0, i64 0, nilsl]⟩, ⟨1, some (L18.map f32)⟩, ⟨1, some [i64 r1, i64 r2, oref 2 1 0 r3.length]⟩, ⟨1, some (L20.map f32)⟩, ⟨1, some [i64 r4, i64 r5, oref 4 1 0 r6.length]⟩, ⟨0, none⟩, ⟨0, none⟩]) rfl siz26 rfl rfl rfl aR rfl rfl rfl rfl (Nat.le_of_ble_eq_true rfl) rfl rfl ?_
          refine zA (r := b false) rfl rfl rfl rfl rfl ?_
          refine zN ?_
          refine RunC.nil_cell (l' := [i64 0, i64 0, oref 6 1 0 0]) (Γ' := [⟨1, some [i64 0, i64 0, oref 6 1 0 0]⟩, ⟨1, some [i64 0, i64 0, nilsl]⟩, ⟨1, some (L18.map f32)⟩, ⟨1, some [i64 r1, i64 r2, oref 2 1 0 r3.length]⟩, ⟨1, some (L20.map f32)⟩, ⟨1, some [i64 r4, i64 r5, oref 4 1 0 r6.length]⟩, ⟨1, some (([] : List F).map f32)⟩, ⟨0, none⟩]) 0 2 6 rfl rfl rfl rfl rfl ?_
          refine RunC.nil_cell (l' := [i64 0, i64 0, oref 7 1 0 0]) (Γ' := [⟨1, some [i64 0, i64 0, oref 6 1 0 0]⟩, ⟨1, some [i64 0, i64 0, oref 7 1 0 0]⟩, ⟨1, some (L18.map f32)⟩, ⟨1, some [i64 r1, i64 r2, oref 2 1 0 r3.length]⟩, ⟨1, some (L20.map f32)⟩, ⟨1, some [i64 r4, i64 r5, oref 4 1 0 r6.length]⟩, ⟨1, some (([] : List F).map f32)⟩, ⟨1, some (([] : List F).map f32)⟩]) 1 2 7 rfl rfl rfl rfl rfl ?_
          refine RunC.ret ?_
          cases Option.some.inj h18_
          have hx28_ := hr18 _ rfl
          subst hx28_
          cases Option.some.inj h17_
          have hx29_ := hr17 _ rfl
          subst hx29_
          cases Option.some.inj h16_
          have hx30_ := hr16 _ rfl
          subst hx30_
          have hq := Option.some.inj h
          obtain ⟨hq0, hq⟩ := Prod.mk.inj hq
          obtain ⟨hq1, hq⟩ := Prod.mk.inj hq
          obtain ⟨hq2, hq⟩ := Prod.mk.inj hq
          obtain ⟨hq3, hq⟩ := Prod.mk.inj hq
          obtain ⟨hq4, hq⟩ := Prod.mk.inj hq
          obtain ⟨hq5, hq⟩ := Prod.mk.inj hq
          subst q0
          subst q1
          subst q2
          subst q3
          subst q4
          subst q5
          subst q6
          exact bodyQ.mk (r' := tup [agg [i64 0, i64 0, oref 6 1 0 (([] : List F).length)], agg [i64 0, i64 0, oref 7 1 0 (([] : List F).length)], b false]) [(6, 1), (7, 1)] (.inr rfl) rfl (show List.Nodup [6, 7] from by decide) rfl rfl (Res.eq (Res.three rfl (RV.cell agg26 siz26 rfl rfl rfl rfl) (RV.cell agg26 siz26 rfl rfl rfl rfl) (RV.tmp rfl)) (by rw [(show ([] : List F).length = 0 from rfl)] <;> rfl)) (SelL.arr0 (f := f32) (fun _ => rfl) rfl (SelL.arr0 (f := f32) (fun _ => rfl) rfl trivial))
        ·refine RunC.regionW ?_
         refine zM (r := f32 r23) rfl rfl rfl rfl rfl ?_
         refine ROps.d (r := b false) (fs := []) (Γ' := [⟨1, some [i64 0, i64 0, nilsl]⟩, ⟨1, some [i64 0, i64 0, nilsl]⟩, ⟨1, some (L18.map f32)⟩, ⟨1, some [i64 r1, i64 r2, oref 2 1 0 r3.length]⟩, ⟨1, some (L20.map f32)⟩, ⟨1, some [i64 r4, i64 r5, oref 4 1 0 r6.length]⟩, ⟨0, none⟩, ⟨0, none⟩]) rfl rfl rfl (TOp.eqb (TOp.callB (CallAs.func ent53 rfl rfl) (Bors.cons (Bor.pure rfl) Bors.nil) rfl rfl (s_l01Finite_ok r23 r26 hf8)) hc9) rfl ?_
         refine zL (r := b true) rfl rfl rfl (LOp.eqb (LOp.not rfl rfl) rfl) ?_
         refine zM (r := b true) rfl rfl rfl rfl rfl ?_
         refine ROps.s rfl rfl rfl ?_
         refine ROps.s rfl rfl rfl ?_
         refine ROps.s rfl rfl rfl ?_
         refine zL (r := b true) rfl rfl rfl (LOp.pick_true rfl rfl rfl) ?_
         refine zM (r := b true) rfl rfl rfl rfl rfl ?_
         refine ROps.s rfl rfl rfl ?_
         refine ROps.s rfl rfl rfl ?_
         refine ROps.s rfl rfl rfl ?_
         refine zL (r := b true) rfl rfl rfl (LOp.pick_true rfl rfl rfl) ?_
         refine zN ?_
         refine RunC.wl (τ' := [(0, ptr [i64 a0, i64 a1, sl a2.length (a2.map f32)]), (1, i64 a3), (4, optr 0 1 0), (5, optr 1 1 0), (7, optr 3 1 0), (8, optr 5 1 0), (9, i64 v11), (10, i64 v16), (11, i64 v22), (12, f32 r23), (13, f32 r24), (14, f32 r25), (66, b true)]) (Γ' := [⟨1, some [i64 0, i64 0, nilsl]⟩, ⟨1, some [i64 0, i64 0, nilsl]⟩, ⟨1, some (L18.map f32)⟩, ⟨1, some [i64 r1, i64 r2, oref 2 1 0 r3.length]⟩, ⟨1, some (L20.map f32)⟩, ⟨1, some [i64 r4, i64 r5, oref 4 1 0 r6.length]⟩, ⟨0, none⟩, ⟨0, none⟩]) ⟨aR, aR, aR, aR, aR, aR, aR, aR, aR, aR, aR, aR, aR, trivial⟩ ⟨⟨rfl, .inr rfl⟩, ⟨rfl, .inr rfl⟩, ⟨rfl, .inr rfl⟩, ⟨rfl, .inr rfl⟩, ⟨rfl, .inr rfl⟩, ⟨rfl, .inr rfl⟩, ⟨rfl, .inr rfl⟩, ⟨rfl, .inr rfl⟩, trivial⟩ ?_
         refine RunC.cond_true rfl rfl ?_
         refine zQ ?_
         refine zL (r := agg [i64 0, i64 0, nilsl]) rfl rfl rfl (LOp.build (qs := []) zer26 zok26 und26 plc26 rfl trivial rfl) ?_
         refine zL (r := agg [i64 0, i64 0, nilsl]) rfl rfl rfl (LOp.build (qs := []) zer26 zok26 und26 plc26 rfl trivial rfl) ?_
         refine ROps.store_le (r := agg [i64 0, i64 0, nilsl]) (l' := [i64 0, i64 0, nilsl]) (Γ' := [⟨1, some [i64 0, i64 0, nilsl]⟩, ⟨1, some [i64 0, i64 0, nilsl]⟩, ⟨1, some (L18.map f32)⟩, ⟨1, some [i64 r1, i64 r2, oref 2 1 0 r3.length]⟩, ⟨1, some (L20.map f32)⟩, ⟨1, some [i64 r4, i64 r5, oref 4 1 0 r6.length]⟩, ⟨0, none⟩, ⟨0, none⟩]) rfl siz26 rfl rfl rfl aR rfl rfl rfl rfl (Nat.le_of_ble_eq_true rfl) rfl rfl ?_
         refine ROps.store_le (r := agg [i64 0, i64 0, nilsl]) (l' := [i64 0, i64 0, nilsl]) (Γ' := [⟨1, some [i64 0, i64 0, nilsl]⟩, ⟨1, some [i64 0, i64 0, nilsl]⟩, ⟨1, some (L18.map f32)⟩, ⟨1, some [i64 r1, i64 r2, oref 2 1 0 r3.length]⟩, ⟨1, some (L20.map f32)⟩, ⟨1, some [i64 r4, i64 r5, oref 4 1 0 r6.length]⟩, ⟨0, none⟩, ⟨0, none⟩]) rfl siz26 rfl rfl rfl aR rfl rfl rfl rfl (Nat.le_of_ble_eq_true rfl) rfl rfl ?_
         refine zA (r := b false) rfl rfl rfl rfl rfl ?_
         refine zN ?_
         refine RunC.nil_cell (l' := [i64 0, i64 0, oref 6 1 0 0]) (Γ' := [⟨1, some [i64 0, i64 0, oref 6 1 0 0]⟩, ⟨1, some [i64 0, i64 0, nilsl]⟩, ⟨1, some (L18.map f32)⟩, ⟨1, some [i64 r1, i64 r2, oref 2 1 0 r3.length]⟩, ⟨1, some (L20.map f32)⟩, ⟨1, some [i64 r4, i64 r5, oref 4 1 0 r6.length]⟩, ⟨1, some (([] : List F).map f32)⟩, ⟨0, none⟩]) 0 2 6 rfl rfl rfl rfl rfl ?_
         refine RunC.nil_cell (l' := [i64 0, i64 0, oref 7 1 0 0]) (Γ' := [⟨1, some [i64 0, i64 0, oref 6 1 0 0]⟩, ⟨1, some [i64 0, i64 0, oref 7 1 0 0]⟩, ⟨1, some (L18.map f32)⟩, ⟨1, some [i64 r1, i64 r2, oref 2 1 0 r3.length]⟩, ⟨1, some (L20.map f32)⟩, ⟨1, some [i64 r4, i64 r5, oref 4 1 0 r6.length]⟩, ⟨1, some (([] : List F).map f32)⟩, ⟨1, some (([] : List F).map f32)⟩]) 1 2 7 rfl rfl rfl rfl rfl ?_
         refine RunC.ret ?_
         cases Option.some.inj h18_
         have hx31_ := hr18 _ rfl
         subst hx31_
         cases Option.some.inj h17_
         have hx32_ := hr17 _ rfl
         subst hx32_
         cases Option.some.inj h16_
         have hx33_ := hr16 _ rfl
         subst hx33_
         have hq := Option.some.inj h
         obtain ⟨hq0, hq⟩ := Prod.mk.inj hq
         obtain ⟨hq1, hq⟩ := Prod.mk.inj hq
         obtain ⟨hq2, hq⟩ := Prod.mk.inj hq
         obtain ⟨hq3, hq⟩ := Prod.mk.inj hq
         obtain ⟨hq4, hq⟩ := Prod.mk.inj hq
         obtain ⟨hq5, hq⟩ := Prod.mk.inj hq
         subst q0
         subst q1
         subst q2
         subst q3
         subst q4
         subst q5
         subst q6
         exact bodyQ.mk (r' := tup [agg [i64 0, i64 0, oref 6 1 0 (([] : List F).length)], agg [i64 0, i64 0, oref 7 1 0 (([] : List F).length)], b false]) [(6, 1), (7, 1)] (.inr rfl) rfl (show List.Nodup [6, 7] from by decide) rfl rfl (Res.eq (Res.three rfl (RV.cell agg26 siz26 rfl rfl rfl rfl) (RV.cell agg26 siz26 rfl rfl rfl rfl) (RV.tmp rfl)) (by rw [(show ([] : List F).length = 0 from rfl)] <;> rfl)) (SelL.arr0 (f := f32) (fun _ => rfl) rfl (SelL.arr0 (f := f32) (fun _ => rfl) rfl trivial))
       ·rintro τ34 Γ34 ⟨L38, L40, y42, y43, hl39, hl41, hw34, hd34, h18_⟩
        refine RunC.wl hw34 hd34 ?_
        unfold s_l04Side_k12 at h18_
        obtain ⟨x44, hx27, h18_⟩ := olet_some h18_
        refine RunC.regionW ?_
        refine zM (r := i64 v22) rfl rfl rfl rfl rfl ?_
        refine zL (r := i64 x44) rfl rfl rfl (LOp.eqr (LOp.add rfl rfl rfl) (congrArg (ik .i64) hx27)) ?_
        refine zA (r := i64 x44) rfl rfl rfl rfl rfl ?_
        refine zN ?_
        cases Option.some.inj h18_
        exact ⟨_, rfl, hl39, hl41, ⟨aR, aR, aR, aR, aR, aR, aR, aR, aR, trivial⟩, ⟨⟨rfl, .inr rfl⟩, ⟨rfl, .inr rfl⟩, ⟨rfl, .inr rfl⟩, ⟨rfl, .inr rfl⟩, ⟨rfl, .inr rfl⟩, ⟨rfl, .inr rfl⟩, ⟨rfl, .inr rfl⟩, ⟨rfl, .inr rfl⟩, trivial⟩⟩
      ·refine RunC.regionW ?_
       refine zM (r := i64 v22) rfl rfl rfl rfl rfl ?_
       refine zM (r := ptr [i64 a0, i64 a1, sl a2.length (a2.map f32)]) rfl rfl rfl rfl rfl ?_
       refine zL (r := ptr [i64 a0, i64 a1, sl a2.length (a2.map f32)]) rfl rfl rfl (LOp.nilCheck_ptr rfl rfl) ?_
       refine zL (r := ptr [i64 a1, sl a2.length (a2.map f32)]) rfl rfl rfl (LOp.fap und26 rfl siz2 rfl rfl rfl) ?_
       refine zL (r := i64 a1) rfl rfl rfl (LOp.load1 agg2 rfl rfl) ?_
       refine zL (r := b false) rfl rfl rfl (LOp.eqb (LOp.lss rfl rfl rfl) hc6) ?_
       refine zN ?_
       refine RunC.cond_false rfl rfl ?_
       refine RunC.exit ?_
       cases Option.some.inj h18_
       have hx := ho18 _ rfl
       exact ⟨L18, L20, hl19, hl21, ⟨aR, aR, aR, aR, aR, aR, aR, aR, trivial⟩, ⟨⟨rfl, .inr rfl⟩, ⟨rfl, .inr rfl⟩, ⟨rfl, .inr rfl⟩, ⟨rfl, .inr rfl⟩, ⟨rfl, .inr rfl⟩, ⟨rfl, .inr rfl⟩, ⟨rfl, .inr rfl⟩, ⟨rfl, .inr rfl⟩, trivial⟩, hx⟩
     ·rintro τ35 Γ35 ⟨L45, L47, hl46, hl48, hw35, hd35, rfl⟩
      refine RunC.wl hw35 hd35 ?_
      replace h17_ : s_l04Side_k13 v16 L45 L47 = some y17_ := h17_
      unfold s_l04Side_k13 at h17_
      obtain ⟨x49, hx28, h17_⟩ := olet_some h17_
      refine RunC.regionW ?_
      refine zM (r := i64 v16) rfl rfl rfl rfl rfl ?_
      refine zL (r := i64 x49) rfl rfl rfl (LOp.eqr (LOp.add rfl rfl rfl) (congrArg (ik .i64) hx28)) ?_
      refine zA (r := i64 x49) rfl rfl rfl rfl rfl ?_
      refine zN ?_
      cases Option.some.inj h17_
      exact ⟨_, rfl, hl46, hl48, ⟨aR, aR, aR, aR, aR, aR, aR, aR, trivial⟩, ⟨⟨rfl, .inr rfl⟩, ⟨rfl, .inr rfl⟩, ⟨rfl, .inr rfl⟩, ⟨rfl, .inr rfl⟩, ⟨rfl, .inr rfl⟩, ⟨rfl, .inr rfl⟩, ⟨rfl, .inr rfl⟩, ⟨rfl, .inr rfl⟩, trivial⟩⟩
    ·refine RunC.regionW ?_
     refine zM (r := i64 v16) rfl rfl rfl rfl rfl ?_
     refine zM (r := ptr [i64 a0, i64 a1, sl a2.length (a2.map f32)]) rfl rfl rfl rfl rfl ?_
     refine zL (r := ptr [i64 a0, i64 a1, sl a2.length (a2.map f32)]) rfl rfl rfl (LOp.nilCheck_ptr rfl rfl) ?_
     refine zL (r := ptr [i64 a1, sl a2.length (a2.map f32)]) rfl rfl rfl (LOp.fap und26 rfl siz2 rfl rfl rfl) ?_
     refine zL (r := i64 a1) rfl rfl rfl (LOp.load1 agg2 rfl rfl) ?_
     refine zL (r := b false) rfl rfl rfl (LOp.eqb (LOp.lss rfl rfl rfl) hc4) ?_
     refine zN ?_
     refine RunC.cond_false rfl rfl ?_
     refine RunC.exit ?_
     cases Option.some.inj h17_
     have hx := ho17 _ rfl
     exact ⟨L12, L14, hl13, hl15, ⟨aR, aR, aR, aR, aR, aR, aR, trivial⟩, ⟨⟨rfl, .inr rfl⟩, ⟨rfl, .inr rfl⟩, ⟨rfl, .inr rfl⟩, ⟨rfl, .inr rfl⟩, ⟨rfl, .inr rfl⟩, ⟨rfl, .inr rfl⟩, ⟨rfl, .inr rfl⟩, ⟨rfl, .inr rfl⟩, trivial⟩, hx⟩
   ·rintro τ36 Γ36 ⟨L50, L52, hl51, hl53, hw36, hd36, rfl⟩
    refine RunC.wl hw36 hd36 ?_
    replace h16_ : s_l04Side_k14 v11 L50 L52 = some y16_ := h16_
    unfold s_l04Side_k14 at h16_
    obtain ⟨x54, hx29, h16_⟩ := olet_some h16_
    refine RunC.regionW ?_
    refine zM (r := i64 v11) rfl rfl rfl rfl rfl ?_
    refine zL (r := i64 x54) rfl rfl rfl (LOp.eqr (LOp.add rfl rfl rfl) (congrArg (ik .i64) hx29)) ?_
    refine zA (r := i64 x54) rfl rfl rfl rfl rfl ?_
    refine zN ?_
    cases Option.some.inj h16_
    exact ⟨_, rfl, hl51, hl53, ⟨aR, aR, aR, aR, aR, aR, aR, trivial⟩, ⟨⟨rfl, .inr rfl⟩, ⟨rfl, .inr rfl⟩, ⟨rfl, .inr rfl⟩, ⟨rfl, .inr rfl⟩, ⟨rfl, .inr rfl⟩, ⟨rfl, .inr rfl⟩, ⟨rfl, .inr rfl⟩, ⟨rfl, .inr rfl⟩, trivial⟩⟩
  ·refine RunC.regionW ?_
   refine zM (r := i64 v11) rfl rfl rfl rfl rfl ?_
   refine zM (r := i64 a3) rfl rfl rfl rfl rfl ?_
   refine zL (r := b false) rfl rfl rfl (LOp.eqb (LOp.lss rfl rfl rfl) hc3) ?_
   refine zN ?_
   refine RunC.cond_false rfl rfl ?_
   refine RunC.exit ?_
   cases Option.some.inj h16_
   have hx := ho16 _ rfl
   exact ⟨L7, L9, hl8, hl10, ⟨aR, aR, aR, aR, trivial⟩, ⟨⟨rfl, .inr rfl⟩, ⟨rfl, .inr rfl⟩, ⟨rfl, .inr rfl⟩, ⟨rfl, .inr rfl⟩, ⟨rfl, .inr rfl⟩, ⟨rfl, .inr rfl⟩, ⟨rfl, .inr rfl⟩, ⟨rfl, .inr rfl⟩, trivial⟩, hx⟩
 ·rintro τ37 Γ37 ⟨L55, L57, hl56, hl58, hw37, hd37, rfl⟩
  refine RunC.wl hw37 hd37 ?_
  replace h : s_l04Side_k15 r1 r2 r4 r5 L55 L57 = some (q0, q1, q2, q3, q4, q5, q6) := h
  unfold s_l04Side_k15 at h
  refine RunC.seq ?_
  refine RunC.cutN (fun τ Γ => WeakLe τ [(4, optr 0 1 0), (5, optr 1 1 0), (6, b true), (7, optr 3 1 0), (8, optr 5 1 0), (99, agg [i64 r1, i64 r2, oref 2 1 0 r3.length]), (100, agg [i64 r4, i64 r5, oref 4 1 0 r6.length])] ∧ DeadLe Γ [⟨1, some [i64 r1, i64 r2, oref 2 1 0 r3.length]⟩, ⟨1, some [i64 r4, i64 r5, oref 4 1 0 r6.length]⟩, ⟨1, some (L55.map f32)⟩, ⟨1, some [i64 r1, i64 r2, oref 2 1 0 r3.length]⟩, ⟨1, some (L57.map f32)⟩, ⟨1, some [i64 r4, i64 r5, oref 4 1 0 r6.length]⟩, ⟨0, none⟩, ⟨0, none⟩]) ?_ ?_
  ·refine RunC.any (n := 5) rfl mixed ?_
   refine RAny.more (i0 := 0) (l := [1]) (by kernel_rfl) (RAnys.cons rfl ?_ (RAnys.cons rfl ?_ RAnys.nil))
   ·refine ROps.d (r := agg [i64 r1, i64 r2, oref 2 1 0 r3.length]) (fs := []) (Γ' := [⟨1, some [i64 0, i64 0, nilsl]⟩, ⟨1, some [i64 0, i64 0, nilsl]⟩, ⟨1, some (L55.map f32)⟩, ⟨1, some [i64 r1, i64 r2, oref 2 1 0 r3.length]⟩, ⟨1, some (L57.map f32)⟩, ⟨1, some [i64 r4, i64 r5, oref 4 1 0 r6.length]⟩, ⟨0, none⟩, ⟨0, none⟩]) rfl rfl rfl (TOp.loadAgg_o rfl agg26 siz26 rfl rfl rfl rfl) rfl ?_
    refine zN ?_
    refine RAny.more (i0 := 1) (l := [2]) (by kernel_rfl) (RAnys.cons rfl ?_ (RAnys.cons rfl ?_ RAnys.nil))
    ·refine ROps.d (r := agg [i64 r4, i64 r5, oref 4 1 0 r6.length]) (fs := []) (Γ' := [⟨1, some [i64 0, i64 0, nilsl]⟩, ⟨1, some [i64 0, i64 0, nilsl]⟩, ⟨1, some (L55.map f32)⟩, ⟨1, some [i64 r1, i64 r2, oref 2 1 0 r3.length]⟩, ⟨1, some (L57.map f32)⟩, ⟨1, some [i64 r4, i64 r5, oref 4 1 0 r6.length]⟩, ⟨0, none⟩, ⟨0, none⟩]) rfl rfl rfl (TOp.loadAgg_o rfl agg26 siz26 rfl rfl rfl rfl) rfl ?_
     refine zN ?_
     refine RAny.more (i0 := 2) (l := []) (by kernel_rfl) (RAnys.cons rfl ?_ RAnys.nil)
     refine ROps.store_le (r := agg [i64 r1, i64 r2, oref 2 1 0 r3.length]) (l' := [i64 r1, i64 r2, oref 2 1 0 r3.length]) (Γ' := [⟨1, some [i64 r1, i64 r2, oref 2 1 0 r3.length]⟩, ⟨1, some [i64 0, i64 0, nilsl]⟩, ⟨1, some (L55.map f32)⟩, ⟨1, some [i64 r1, i64 r2, oref 2 1 0 r3.length]⟩, ⟨1, some (L57.map f32)⟩, ⟨1, some [i64 r4, i64 r5, oref 4 1 0 r6.length]⟩, ⟨0, none⟩, ⟨0, none⟩]) rfl siz26 rfl rfl rfl aR rfl rfl rfl rfl (Nat.le_of_ble_eq_true rfl) rfl rfl ?_
     refine zN ?_
     refine RAny.more (i0 := 3) (l := []) (by kernel_rfl) (RAnys.cons rfl ?_ RAnys.nil)
     refine ROps.store_le (r := agg [i64 r4, i64 r5, oref 4 1 0 r6.length]) (l' := [i64 r4, i64 r5, oref 4 1 0 r6.length]) (Γ' := [⟨1, some [i64 r1, i64 r2, oref 2 1 0 r3.length]⟩, ⟨1, some [i64 r4, i64 r5, oref 4 1 0 r6.length]⟩, ⟨1, some (L55.map f32)⟩, ⟨1, some [i64 r1, i64 r2, oref 2 1 0 r3.length]⟩, ⟨1, some (L57.map f32)⟩, ⟨1, some [i64 r4, i64 r5, oref 4 1 0 r6.length]⟩, ⟨0, none⟩, ⟨0, none⟩]) rfl siz26 rfl rfl rfl aR rfl rfl rfl rfl (Nat.le_of_ble_eq_true rfl) rfl rfl ?_
     refine zN ?_
     refine RAny.more (i0 := 4) (l := []) (by kernel_rfl) (RAnys.cons rfl ?_ RAnys.nil)
     refine zA (r := b true) rfl rfl rfl rfl rfl ?_
     refine zN ?_
     refine RAny.done (by kernel_rfl) ?_
     exact ⟨⟨aR, aR, aR, aR, aR, aR, aR, trivial⟩, ⟨⟨rfl, .inr rfl⟩, ⟨rfl, .inr rfl⟩, ⟨rfl, .inr rfl⟩, ⟨rfl, .inr rfl⟩, ⟨rfl, .inr rfl⟩, ⟨rfl, .inr rfl⟩, ⟨rfl, .inr rfl⟩, ⟨rfl, .inr rfl⟩, trivial⟩⟩
    ·refine ROps.store_le (r := agg [i64 r1, i64 r2, oref 2 1 0 r3.length]) (l' := [i64 r1, i64 r2, oref 2 1 0 r3.length]) (Γ' := [⟨1, some [i64 r1, i64 r2, oref 2 1 0 r3.length]⟩, ⟨1, some [i64 0, i64 0, nilsl]⟩, ⟨1, some (L55.map f32)⟩, ⟨1, some [i64 r1, i64 r2, oref 2 1 0 r3.length]⟩, ⟨1, some (L57.map f32)⟩, ⟨1, some [i64 r4, i64 r5, oref 4 1 0 r6.length]⟩, ⟨0, none⟩, ⟨0, none⟩]) rfl siz26 rfl rfl rfl aR rfl rfl rfl rfl (Nat.le_of_ble_eq_true rfl) rfl rfl ?_
     refine zN ?_
     refine RAny.more (i0 := 1) (l := []) (by kernel_rfl) (RAnys.cons rfl ?_ RAnys.nil)
     refine ROps.d (r := agg [i64 r4, i64 r5, oref 4 1 0 r6.length]) (fs := []) (Γ' := [⟨1, some [i64 r1, i64 r2, oref 2 1 0 r3.length]⟩, ⟨1, some [i64 0, i64 0, nilsl]⟩, ⟨1, some (L55.map f32)⟩, ⟨1, some [i64 r1, i64 r2, oref 2 1 0 r3.length]⟩, ⟨1, some (L57.map f32)⟩, ⟨1, some [i64 r4, i64 r5, oref 4 1 0 r6.length]⟩, ⟨0, none⟩, ⟨0, none⟩]) rfl rfl rfl (TOp.loadAgg_o rfl agg26 siz26 rfl rfl rfl rfl) rfl ?_
     refine zN ?_
     refine RAny.more (i0 := 3) (l := []) (by kernel_rfl) (RAnys.cons rfl ?_ RAnys.nil)
     refine ROps.store_le (r := agg [i64 r4, i64 r5, oref 4 1 0 r6.length]) (l' := [i64 r4, i64 r5, oref 4 1 0 r6.length]) (Γ' := [⟨1, some [i64 r1, i64 r2, oref 2 1 0 r3.length]⟩, ⟨1, some [i64 r4, i64 r5, oref 4 1 0 r6.length]⟩, ⟨1, some (L55.map f32)⟩, ⟨1, some [i64 r1, i64 r2, oref 2 1 0 r3.length]⟩, ⟨1, some (L57.map f32)⟩, ⟨1, some [i64 r4, i64 r5, oref 4 1 0 r6.length]⟩, ⟨0, none⟩, ⟨0, none⟩]) rfl siz26 rfl rfl rfl aR rfl rfl rfl rfl (Nat.le_of_ble_eq_true rfl) rfl rfl ?_
     refine zN ?_
     refine RAny.more (i0 := 4) (l := []) (by kernel_rfl) (RAnys.cons rfl ?_ RAnys.nil)
     refine zA (r := b true) rfl rfl rfl rfl rfl ?_
     refine zN ?_
     refine RAny.done (by kernel_rfl) ?_
     exact ⟨⟨aR, aR, aR, aR, aR, aR, aR, trivial⟩, ⟨⟨rfl, .inr rfl⟩, ⟨rfl, .inr rfl⟩, ⟨rfl, .inr rfl⟩, ⟨rfl, .inr rfl⟩, ⟨rfl, .inr rfl⟩, ⟨rfl, .inr rfl⟩, ⟨rfl, .inr rfl⟩, ⟨rfl, .inr rfl⟩, trivial⟩⟩
   ·refine ROps.d (r := agg [i64 r4, i64 r5, oref 4 1 0 r6.length]) (fs := []) (Γ' := [⟨1, some [i64 0, i64 0, nilsl]⟩, ⟨1, some [i64 0, i64 0, nilsl]⟩, ⟨1, some (L55.map f32)⟩, ⟨1, some [i64 r1, i64 r2, oref 2 1 0 r3.length]⟩, ⟨1, some (L57.map f32)⟩, ⟨1, some [i64 r4, i64 r5, oref 4 1 0 r6.length]⟩, ⟨0, none⟩, ⟨0, none⟩]) rfl rfl rfl (TOp.loadAgg_o rfl agg26 siz26 rfl rfl rfl rfl) rfl ?_
    refine zN ?_
    refine RAny.more (i0 := 0) (l := []) (by kernel_rfl) (RAnys.cons rfl ?_ RAnys.nil)
    refine ROps.d (r := agg [i64 r1, i64 r2, oref 2 1 0 r3.length]) (fs := []) (Γ' := [⟨1, some [i64 0, i64 0, nilsl]⟩, ⟨1, some [i64 0, i64 0, nilsl]⟩, ⟨1, some (L55.map f32)⟩, ⟨1, some [i64 r1, i64 r2, oref 2 1 0 r3.length]⟩, ⟨1, some (L57.map f32)⟩, ⟨1, some [i64 r4, i64 r5, oref 4 1 0 r6.length]⟩, ⟨0, none⟩, ⟨0, none⟩]) rfl rfl rfl (TOp.loadAgg_o rfl agg26 siz26 rfl rfl rfl rfl) rfl ?_
    refine zN ?_
    refine RAny.more (i0 := 2) (l := []) (by kernel_rfl) (RAnys.cons rfl ?_ RAnys.nil)
    refine ROps.store_le (r := agg [i64 r1, i64 r2, oref 2 1 0 r3.length]) (l' := [i64 r1, i64 r2, oref 2 1 0 r3.length]) (Γ' := [⟨1, some [i64 r1, i64 r2, oref 2 1 0 r3.length]⟩, ⟨1, some [i64 0, i64 0, nilsl]⟩, ⟨1, some (L55.map f32)⟩, ⟨1, some [i64 r1, i64 r2, oref 2 1 0 r3.length]⟩, ⟨1, some (L57.map f32)⟩, ⟨1, some [i64 r4, i64 r5, oref 4 1 0 r6.length]⟩, ⟨0, none⟩, ⟨0, none⟩]) rfl siz26 rfl rfl rfl aR rfl rfl rfl rfl (Nat.le_of_ble_eq_true rfl) rfl rfl ?_
    refine zN ?_
    refine RAny.more (i0 := 3) (l := []) (by kernel_rfl) (RAnys.cons rfl ?_ RAnys.nil)
    refine ROps.store_le (r := agg [i64 r4, i64 r5, oref 4 1 0 r6.length]) (l' := [i64 r4, i64 r5, oref 4 1 0 r6.length]) (Γ' := [⟨1, some [i64 r1, i64 r2, oref 2 1 0 r3.length]⟩, ⟨1, some [i64 r4, i64 r5, oref 4 1 0 r6.length]⟩, ⟨1, some (L55.map f32)⟩, ⟨1, some [i64 r1, i64 r2, oref 2 1 0 r3.length]⟩, ⟨1, some (L57.map f32)⟩, ⟨1, some [i64 r4, i64 r5, oref 4 1 0 r6.length]⟩, ⟨0, none⟩, ⟨0, none⟩]) rfl siz26 rfl rfl rfl aR rfl rfl rfl rfl (Nat.le_of_ble_eq_true rfl) rfl rfl ?_
    refine zN ?_
    refine RAny.more (i0 := 4) (l := []) (by kernel_rfl) (RAnys.cons rfl ?_ RAnys.nil)
    refine zA (r := b true) rfl rfl rfl rfl rfl ?_
    refine zN ?_
    refine RAny.done (by kernel_rfl) ?_
    exact ⟨⟨aR, aR, aR, aR, aR, aR, aR, trivial⟩, ⟨⟨rfl, .inr rfl⟩, ⟨rfl, .inr rfl⟩, ⟨rfl, .inr rfl⟩, ⟨rfl, .inr rfl⟩, ⟨rfl, .inr rfl⟩, ⟨rfl, .inr rfl⟩, ⟨rfl, .inr rfl⟩, ⟨rfl, .inr rfl⟩, trivial⟩⟩
  ·rintro τ38 Γ38 ⟨hw38, hd38⟩
   refine RunC.wl hw38 hd38 ?_
   refine RunC.ret ?_
   have hq := Option.some.inj h
   obtain ⟨hq0, hq⟩ := Prod.mk.inj hq
   obtain ⟨hq1, hq⟩ := Prod.mk.inj hq
   obtain ⟨hq2, hq⟩ := Prod.mk.inj hq
   obtain ⟨hq3, hq⟩ := Prod.mk.inj hq
   obtain ⟨hq4, hq⟩ := Prod.mk.inj hq
   obtain ⟨hq5, hq⟩ := Prod.mk.inj hq
   subst q0
   subst q1
   subst q2
   subst q3
   subst q4
   subst q5
   subst q6
   exact bodyQ.mk (r' := tup [agg [i64 r1, i64 r2, oref 2 1 0 L55.length], agg [i64 r4, i64 r5, oref 4 1 0 L57.length], b true]) [(2, 1), (4, 1)] (.inr rfl) rfl (show List.Nodup [2, 4] from by decide) rfl rfl (Res.eq (Res.three rfl (RV.cell agg26 siz26 rfl rfl rfl rfl) (RV.cell agg26 siz26 rfl rfl rfl rfl) (RV.tmp rfl)) (by rw [(show L55.length = r3.length from hl56), (show L57.length = r6.length from hl58)] <;> rfl)) (SelL.arr0 (f := f32) (fun _ => rfl) rfl (SelL.arr0 (f := f32) (fun _ => rfl) rfl trivial))
noncomputable def s_l04Squares_b1 (a0 : Int) (a1 : Int) (a2 : List F) (L3 : List F) (v4 : Int) : Option (LR ((List F) × Int) ((List F)) ((List F))) :=
 bsel (decide (v4 < a1)) (
  obind3 (s_l04Sums a0 a1 a2 v4 v4) fun (r5 : F) (r6 : F) (r7 : F) =>
  need (apok 4 L3.length 1) <|
  olet (IntKind.i64.wrap (v4 + 1)) fun (x8 : Int) =>
  some (LR.next ((L3 ++ ([r5] : List F)), x8))) (
  some (LR.out L3))
noncomputable def s_l04Squares_s1 (a0 : Int) (a1 : Int) (a2 : List F) : ((List F) × Int) → Option (LR ((List F) × Int) ((List F)) ((List F))) := fun s => s_l04Squares_b1 a0 a1 a2 s.1 s.2
noncomputable def s_l04Squares_k1 (L11 : List F) : Option ((List F)) :=
 some L11
noncomputable def s_l04Squares (a0 : Int) (a1 : Int) (a2 : List F) : Option ((List F)) :=
 obind (loopM (s_l04Squares_s1 a0 a1 a2) (([] : List F), 0)) fun z => osum z (fun e => s_l04Squares_k1 e) (fun r => some r)
theorem s_l04Squares_ok (a0 : Int) (a1 : Int) (a2 : List F) (q0 : List F) (h : s_l04Squares a0 a1 a2 = some q0) : Ev Tryz.prog 19 [ptr [i64 a0, i64 a1, sl a2.length (a2.map f32)]] [] (oref 0 0 0 q0.length) [⟨0, some (q0.map f32)⟩] := by
 refine Ev.start Tryz.func19 rfl rfl 2 (τ := [(0, ptr [i64 a0, i64 a1, sl a2.length (a2.map f32)])]) rfl (Γ' := [⟨0, none⟩, ⟨0, none⟩]) rfl (n := 61) rfl (g := 0) rfl (fun _ => rfl) ?_
 unfold s_l04Squares at h
 refine zQ ?_
 refine zA (r := nilsl) rfl rfl rfl rfl rfl ?_
 refine zN ?_
 refine zQ ?_
 refine ROps.d (r := oref 0 1 0 0) (fs := [(0, (([] : List F).map f32))]) (Γ' := [⟨1, some (([] : List F).map f32)⟩, ⟨0, none⟩]) rfl rfl rfl (TOp.buildSlice_o (g := ⟨0, none⟩) (za := f32 (some 0)) (qs := []) 0 rfl und22 siz33 zer33 rfl zel33 rfl rfl trivial rfl) rfl ?_
 refine zA (r := oref 0 1 0 0) rfl rfl rfl rfl rfl ?_
 refine zN ?_
 refine RunC.seq ?_
 refine zQ ?_
 refine zA (r := i64 0) rfl rfl rfl rfl rfl ?_
 refine zN ?_
 obtain ⟨z2, hz_2, h⟩ := obind_some h
 refine RunC.cutN (fun τ Γ => ∃ (L11 : List F) (u9 : Nat) (u10 : Nat), WeakLe τ [(3, oref 0 u9 0 L11.length)] ∧ DeadLe Γ [⟨u9, some (L11.map f32)⟩, ⟨u10, none⟩] ∧ z2 = .inl L11) ?_ ?_
 ·refine RunC.block (RunC.loop (RunL.loopM (x := z2) (s_l04Squares_s1 a0 a1 a2) (fun (s : (List F) × Int) τ Γ => ∃ (u1 : Nat) (u2 : Nat), WeakLe τ [(0, ptr [i64 a0, i64 a1, sl a2.length (a2.map f32)]), (3, oref 0 u1 0 s.1.length), (4, i64 s.2)] ∧ DeadLe Γ [⟨u1, some (s.1.map f32)⟩, ⟨u2, none⟩]) ?_ _ _ _ hz_2 ⟨1, 0, ⟨aR, aR, aR, trivial⟩, ⟨⟨rfl, .inr rfl⟩, ⟨rfl, .inl rfl⟩, trivial⟩⟩))
  rintro ⟨L3, v4⟩ τ2 Γ2 y2_ ⟨u1, u2, hw2, hd2⟩ h2_ ho2 hr2
  refine RunC.wl (τ' := [(0, ptr [i64 a0, i64 a1, sl a2.length (a2.map f32)]), (3, oref 0 u1 0 L3.length), (4, i64 v4)]) (Γ' := [⟨u1, some (L3.map f32)⟩, ⟨u2, none⟩]) hw2 hd2 ?_
  replace h2_ : s_l04Squares_b1 a0 a1 a2 L3 v4 = some y2_ := h2_
  unfold s_l04Squares_b1 at h2_
  refine RunC.seq ?_
  refine RunC.seq ?_
  rcases bsel_some h2_ with ⟨hc1, h2_⟩ | ⟨hc1, h2_⟩
  ·refine RunC.regionW ?_
   refine zM (r := i64 v4) rfl rfl rfl rfl rfl ?_
   refine zM (r := ptr [i64 a0, i64 a1, sl a2.length (a2.map f32)]) rfl rfl rfl rfl rfl ?_
   refine zL (r := ptr [i64 a0, i64 a1, sl a2.length (a2.map f32)]) rfl rfl rfl (LOp.nilCheck_ptr rfl rfl) ?_
   refine zL (r := ptr [i64 a1, sl a2.length (a2.map f32)]) rfl rfl rfl (LOp.fap und26 rfl siz2 rfl rfl rfl) ?_
   refine zL (r := i64 a1) rfl rfl rfl (LOp.load1 agg2 rfl rfl) ?_
   refine zL (r := b true) rfl rfl rfl (LOp.eqb (LOp.lss rfl rfl rfl) hc1) ?_
   refine zN ?_
   refine RunC.cond_true rfl rfl ?_
   refine RunC.skip ?_
   refine RunC.seq ?_
   refine RunC.block ?_
   refine RunC.seq ?_
   obtain ⟨r5, r6, r7, hf2, h2_⟩ := obind3_some h2_
   refine RunC.regionW ?_
   refine zM (r := ptr [i64 a0, i64 a1, sl a2.length (a2.map f32)]) rfl rfl rfl rfl rfl ?_
   refine zM (r := i64 v4) rfl rfl rfl rfl rfl ?_
   refine zM (r := i64 v4) rfl rfl rfl rfl rfl ?_
   refine ROps.d (r := tup [f32 r5, f32 r6, f32 r7]) (fs := []) (Γ' := [⟨u1, some (L3.map f32)⟩, ⟨u2, none⟩]) rfl rfl rfl (TOp.callB (CallAs.func ent52 rfl rfl) (Bors.cons (Bor.ptr (Bors.cons (Bor.pure rfl) (Bors.cons (Bor.pure rfl) (Bors.cons (Bor.sl (fun _ => rfl)) Bors.nil)))) (Bors.cons (Bor.pure rfl) (Bors.cons (Bor.pure rfl) Bors.nil))) rfl rfl (s_l04Sums_ok a0 a1 a2 v4 v4 r5 r6 r7 hf2)) rfl ?_
   refine zM (r := tup [f32 r5, f32 r6, f32 r7]) rfl rfl rfl rfl rfl ?_
   refine zL (r := f32 r5) rfl rfl rfl (LOp.extract rfl rfl rfl) ?_
   refine zL (r := f32 r6) rfl rfl rfl (LOp.extract rfl rfl rfl) ?_
   refine zL (r := f32 r7) rfl rfl rfl (LOp.extract rfl rfl rfl) ?_
   refine zA (r := f32 r5) rfl rfl rfl rfl rfl ?_
   refine zA (r := f32 r6) rfl rfl rfl rfl rfl ?_
   refine zA (r := f32 r7) rfl rfl rfl rfl rfl ?_
   refine zN ?_
   refine RunC.wl (τ' := [(0, ptr [i64 a0, i64 a1, sl a2.length (a2.map f32)]), (3, oref 0 u1 0 L3.length), (4, i64 v4), (5, f32 r5)]) (Γ' := [⟨u1, some (L3.map f32)⟩, ⟨u2, none⟩]) ⟨aR, aR, aR, aR, trivial⟩ ⟨⟨rfl, .inr rfl⟩, ⟨rfl, .inl rfl⟩, trivial⟩ ?_
   obtain ⟨hm3, h2_⟩ := need_some h2_
   refine RunC.regionW ?_
   refine zM (r := oref 0 u1 0 L3.length) rfl rfl rfl rfl rfl ?_
   refine zM (r := f32 r5) rfl rfl rfl rfl rfl ?_
   refine ROps.d (r := oref 1 (u2 + 1) 0 1) (fs := [(1, (([r5] : List F).map f32))]) (Γ' := [⟨u1, some (L3.map f32)⟩, ⟨(u2 + 1), some (([r5] : List F).map f32)⟩]) rfl rfl rfl (TOp.buildSlice_o (g := ⟨u2, none⟩) (za := f32 (some 0)) (qs := [(0, [f32 r5])]) 1 rfl und22 siz33 zer33 rfl zel33 rfl rfl ⟨rfl, ⟨_, ALe.refl _, rfl⟩, trivial⟩ rfl) rfl ?_
   refine ROps.app (f := f32) (xs := L3) (ys := ([r5] : List F)) (Γ' := [⟨(u1 + 1), some ((L3 ++ ([r5] : List F)).map f32)⟩, ⟨(u2 + 1), some (([r5] : List F).map f32)⟩]) rfl pun22 inf33 rfl rfl rfl rfl rfl rfl rfl rfl rfl (by simp) (ReadAs.own rfl (by simp)) (ones_map (fun _ => rfl)) (ap_by hm3) (ap_mx hm3) rfl ?_
   refine zA (r := oref 0 (u1 + 1) 0 (L3.length + 1)) rfl rfl rfl rfl rfl ?_
   refine zN ?_
   refine RunC.wl (τ' := [(0, ptr [i64 a0, i64 a1, sl a2.length (a2.map f32)]), (3, oref 0 (u1 + 1) 0 (L3.length + 1)), (4, i64 v4)]) (Γ' := [⟨(u1 + 1), some ((L3 ++ ([r5] : List F)).map f32)⟩, ⟨(u2 + 1), none⟩]) ⟨aR, aR, aR, trivial⟩ ⟨⟨rfl, .inr rfl⟩, ⟨rfl, .inl rfl⟩, trivial⟩ ?_
   obtain ⟨x8, hx4, h2_⟩ := olet_some h2_
   refine RunC.regionW ?_
   refine zM (r := i64 v4) rfl rfl rfl rfl rfl ?_
   refine zL (r := i64 x8) rfl rfl rfl (LOp.eqr (LOp.add rfl rfl rfl) (congrArg (ik .i64) hx4)) ?_
   refine zA (r := i64 x8) rfl rfl rfl rfl rfl ?_
   refine zN ?_
   cases Option.some.inj h2_
   exact ⟨_, rfl, (u1 + 1), (u2 + 1), ⟨aR, (ALe.eq (by rw [(app_len rfl rfl)] <;> rfl)), aR, trivial⟩, ⟨⟨rfl, .inr rfl⟩, ⟨rfl, .inl rfl⟩, trivial⟩⟩
  ·refine RunC.regionW ?_
   refine zM (r := i64 v4) rfl rfl rfl rfl rfl ?_
   refine zM (r := ptr [i64 a0, i64 a1, sl a2.length (a2.map f32)]) rfl rfl rfl rfl rfl ?_
   refine zL (r := ptr [i64 a0, i64 a1, sl a2.length (a2.map f32)]) rfl rfl rfl (LOp.nilCheck_ptr rfl rfl) ?_
   refine zL (r := ptr [i64 a1, sl a2.length (a2.map f32)]) rfl rfl rfl (LOp.fap und26 rfl siz2 rfl rfl rfl) ?_
   refine zL (r := i64 a1) rfl rfl rfl (LOp.load1 agg2 rfl rfl) ?_
   refine zL (r := b false) rfl rfl rfl (LOp.eqb (LOp.lss rfl rfl rfl) hc1) ?_
   refine zN ?_
   refine RunC.cond_false rfl rfl ?_
   refine RunC.exit ?_
   cases Option.some.inj h2_
   have hx := ho2 _ rfl
   exact ⟨L3, u1, u2, ⟨aR, trivial⟩, ⟨⟨rfl, .inr rfl⟩, ⟨rfl, .inl rfl⟩, trivial⟩, hx⟩
 ·rintro τ3 Γ3 ⟨L11, u9, u10, hw3, hd3, rfl⟩
  refine RunC.wl hw3 hd3 ?_
  replace h : s_l04Squares_k1 L11 = some q0 := h
  unfold s_l04Squares_k1 at h
  refine zQ ?_
  refine zM (r := oref 0 u9 0 L11.length) rfl rfl rfl rfl rfl ?_
  refine zA (r := oref 0 u9 0 L11.length) rfl rfl rfl rfl rfl ?_
  refine zN ?_
  refine RunC.ret ?_
  have hq := Option.some.inj h
  subst q0
  exact bodyQ.mk (r' := oref 0 u9 0 L11.length) [(0, u9)] (.inr rfl) rfl (show List.Nodup [0] from by decide) (by simp [ren, rens, sigma]) rfl (Res.one rfl (RV.tmp rfl)) (SelL.arr0 (f := f32) (fun _ => rfl) rfl trivial)
noncomputable def s_l02Give_02o (a0 : Int) (a1 : Int) (a2 : List F) : Option ((Int × Int × Bool × (List F)) ⊕ (Int × Int × Bool × (List F) × (List F))) :=
 obind (s_l02Is a0 a1 a2) fun (r1 : Bool) =>
 bsel r1 (
  some (Sum.inl (a0, a1, true, a2))) (
  some (Sum.inr (0, 0, false, a2, ([] : List F))))
theorem s_l02Give_02o_ok0 (a0 : Int) (a1 : Int) (a2 : List F) (q0 : Int) (q1 : Int) (q2 : Bool) (q3 : List F) (h : s_l02Give_02o a0 a1 a2 = some (Sum.inl (q0, q1, q2, q3))) : Ev Tryz.prog 22 [agg [i64 a0, i64 a1, oref 0 0 0 a2.length]] [⟨0, some (a2.map f32)⟩] (tup [agg [i64 q0, i64 q1, oref 0 0 0 q3.length], b q2]) [⟨0, some (q3.map f32)⟩] := by
 refine Ev.start Tryz.func22 rfl rfl 2 (τ := [(0, agg [i64 a0, i64 a1, oref 0 0 0 a2.length])]) rfl (Γ' := [⟨0, some (a2.map f32)⟩, ⟨0, none⟩, ⟨0, none⟩]) rfl (n := 16) rfl (g := 1) rfl (by decide) ?_
 unfold s_l02Give_02o at h
 refine zQ ?_
 refine ROps.d (r := ptr [i64 a0, i64 a1, oref 0 0 0 a2.length]) (fs := []) (Γ' := [⟨0, some (a2.map f32)⟩, ⟨0, none⟩, ⟨0, none⟩]) rfl rfl rfl (TOp.box_s rfl rfl rfl) rfl ?_
 refine ROps.d (r := optr 1 1 0) (fs := [(1, [i64 0, i64 0, nilsl])]) (Γ' := [⟨0, some (a2.map f32)⟩, ⟨1, some [i64 0, i64 0, nilsl]⟩, ⟨0, none⟩]) rfl rfl rfl (TOp.alloc_o (g := ⟨0, none⟩) 1 rfl zer26 zok26 rfl) rfl ?_
 refine zA (r := b false) rfl rfl rfl rfl rfl ?_
 refine zN ?_
 refine RunC.seq ?_
 refine RunC.seq ?_
 obtain ⟨r1, hf1, h⟩ := obind_some h
 rcases bsel_some h with ⟨hc2, h⟩ | ⟨hc2, h⟩
 ·refine RunC.regionW ?_
  refine ROps.d (r := b true) (fs := []) (Γ' := [⟨0, some (a2.map f32)⟩, ⟨1, some [i64 0, i64 0, nilsl]⟩, ⟨0, none⟩]) rfl rfl rfl (TOp.eqb (TOp.callB (CallAs.func ent48 rfl rfl) (Bors.cons (Bor.ptr (Bors.cons (Bor.pure rfl) (Bors.cons (Bor.pure rfl) (Bors.cons (Bor.own (f := f32) (fun _ => rfl) rfl rfl) Bors.nil)))) Bors.nil) rfl rfl (s_l02Is_ok a0 a1 a2 r1 hf1)) hc2) rfl ?_
  refine zL (r := b false) rfl rfl rfl (LOp.eqb (LOp.not rfl rfl) rfl) ?_
  refine zN ?_
  refine RunC.cond_false rfl rfl ?_
  refine RunC.skip ?_
  refine zQ ?_
  refine zL (r := agg [i64 a0, i64 a1, oref 0 0 0 a2.length]) rfl rfl rfl (LOp.loadAgg agg26 siz26 rfl rfl rfl rfl) ?_
  refine ROps.store_le (r := agg [i64 a0, i64 a1, oref 0 0 0 a2.length]) (l' := [i64 a0, i64 a1, oref 0 0 0 a2.length]) (Γ' := [⟨0, some (a2.map f32)⟩, ⟨1, some [i64 a0, i64 a1, oref 0 0 0 a2.length]⟩, ⟨0, none⟩]) rfl siz26 rfl rfl rfl aR rfl rfl rfl rfl (Nat.le_of_ble_eq_true rfl) rfl rfl ?_
  refine zA (r := b true) rfl rfl rfl rfl rfl ?_
  refine zN ?_
  refine RunC.ret ?_
  have hq := Option.some.inj h
  have hq := Sum.inl.inj hq
  obtain ⟨hq0, hq⟩ := Prod.mk.inj hq
  obtain ⟨hq1, hq⟩ := Prod.mk.inj hq
  obtain ⟨hq2, hq⟩ := Prod.mk.inj hq
  subst q0
  subst q1
  subst q2
  subst q3
  exact bodyQ.mk (r' := tup [agg [i64 a0, i64 a1, oref 0 0 0 a2.length], b true]) [(0, 0)] (.inr rfl) rfl (show List.Nodup [0] from by decide) rfl rfl (Res.two rfl (RV.cell agg26 siz26 rfl rfl rfl rfl) (RV.tmp rfl)) (SelL.arr (f := f32) (fun _ => rfl) rfl trivial)
 ·refine RunC.regionW ?_
  refine ROps.d (r := b false) (fs := []) (Γ' := [⟨0, some (a2.map f32)⟩, ⟨1, some [i64 0, i64 0, nilsl]⟩, ⟨0, none⟩]) rfl rfl rfl (TOp.eqb (TOp.callB (CallAs.func ent48 rfl rfl) (Bors.cons (Bor.ptr (Bors.cons (Bor.pure rfl) (Bors.cons (Bor.pure rfl) (Bors.cons (Bor.own (f := f32) (fun _ => rfl) rfl rfl) Bors.nil)))) Bors.nil) rfl rfl (s_l02Is_ok a0 a1 a2 r1 hf1)) hc2) rfl ?_
  refine zL (r := b true) rfl rfl rfl (LOp.eqb (LOp.not rfl rfl) rfl) ?_
  refine zN ?_
  refine RunC.cond_true rfl rfl ?_
  refine zQ ?_
  refine zL (r := agg [i64 0, i64 0, nilsl]) rfl rfl rfl (LOp.build (qs := []) zer26 zok26 und26 plc26 rfl trivial rfl) ?_
  refine ROps.store_le (r := agg [i64 0, i64 0, nilsl]) (l' := [i64 0, i64 0, nilsl]) (Γ' := [⟨0, some (a2.map f32)⟩, ⟨1, some [i64 0, i64 0, nilsl]⟩, ⟨0, none⟩]) rfl siz26 rfl rfl rfl aR rfl rfl rfl rfl (Nat.le_of_ble_eq_true rfl) rfl rfl ?_
  refine zA (r := b false) rfl rfl rfl rfl rfl ?_
  refine zN ?_
  cases Option.some.inj h
theorem s_l02Give_02o_ok1 (a0 : Int) (a1 : Int) (a2 : List F) (q0 : Int) (q1 : Int) (q2 : Bool) (q3 : List F) (q4 : List F) (h : s_l02Give_02o a0 a1 a2 = some (Sum.inr (q0, q1, q2, q3, q4))) : Ev Tryz.prog 22 [agg [i64 a0, i64 a1, oref 0 0 0 a2.length]] [⟨0, some (a2.map f32)⟩] (tup [agg [i64 q0, i64 q1, oref 1 0 0 q4.length], b q2]) [⟨0, some (q3.map f32)⟩, ⟨0, some (q4.map f32)⟩] := by
 refine Ev.start Tryz.func22 rfl rfl 2 (τ := [(0, agg [i64 a0, i64 a1, oref 0 0 0 a2.length])]) rfl (Γ' := [⟨0, some (a2.map f32)⟩, ⟨0, none⟩, ⟨0, none⟩]) rfl (n := 16) rfl (g := 1) rfl (by decide) ?_
 unfold s_l02Give_02o at h
 refine zQ ?_
 refine ROps.d (r := ptr [i64 a0, i64 a1, oref 0 0 0 a2.length]) (fs := []) (Γ' := [⟨0, some (a2.map f32)⟩, ⟨0, none⟩, ⟨0, none⟩]) rfl rfl rfl (TOp.box_s rfl rfl rfl) rfl ?_
 refine ROps.d (r := optr 1 1 0) (fs := [(1, [i64 0, i64 0, nilsl])]) (Γ' := [⟨0, some (a2.map f32)⟩, ⟨1, some [i64 0, i64 0, nilsl]⟩, ⟨0, none⟩]) rfl rfl rfl (TOp.alloc_o (g := ⟨0, none⟩) 1 rfl zer26 zok26 rfl) rfl ?_
 refine zA (r := b false) rfl rfl rfl rfl rfl ?_
 refine zN ?_
 refine RunC.seq ?_
 refine RunC.seq ?_
 obtain ⟨r1, hf1, h⟩ := obind_some h
 rcases bsel_some h with ⟨hc2, h⟩ | ⟨hc2, h⟩
 ·refine RunC.regionW ?_
  refine ROps.d (r := b true) (fs := []) (Γ' := [⟨0, some (a2.map f32)⟩, ⟨1, some [i64 0, i64 0, nilsl]⟩, ⟨0, none⟩]) rfl rfl rfl (TOp.eqb (TOp.callB (CallAs.func ent48 rfl rfl) (Bors.cons (Bor.ptr (Bors.cons (Bor.pure rfl) (Bors.cons (Bor.pure rfl) (Bors.cons (Bor.own (f := f32) (fun _ => rfl) rfl rfl) Bors.nil)))) Bors.nil) rfl rfl (s_l02Is_ok a0 a1 a2 r1 hf1)) hc2) rfl ?_
  refine zL (r := b false) rfl rfl rfl (LOp.eqb (LOp.not rfl rfl) rfl) ?_
  refine zN ?_
  refine RunC.cond_false rfl rfl ?_
  refine RunC.skip ?_
  refine zQ ?_
  refine zL (r := agg [i64 a0, i64 a1, oref 0 0 0 a2.length]) rfl rfl rfl (LOp.loadAgg agg26 siz26 rfl rfl rfl rfl) ?_
  refine ROps.store_le (r := agg [i64 a0, i64 a1, oref 0 0 0 a2.length]) (l' := [i64 a0, i64 a1, oref 0 0 0 a2.length]) (Γ' := [⟨0, some (a2.map f32)⟩, ⟨1, some [i64 a0, i64 a1, oref 0 0 0 a2.length]⟩, ⟨0, none⟩]) rfl siz26 rfl rfl rfl aR rfl rfl rfl rfl (Nat.le_of_ble_eq_true rfl) rfl rfl ?_
  refine zA (r := b true) rfl rfl rfl rfl rfl ?_
  refine zN ?_
  cases Option.some.inj h
 ·refine RunC.regionW ?_
  refine ROps.d (r := b false) (fs := []) (Γ' := [⟨0, some (a2.map f32)⟩, ⟨1, some [i64 0, i64 0, nilsl]⟩, ⟨0, none⟩]) rfl rfl rfl (TOp.eqb (TOp.callB (CallAs.func ent48 rfl rfl) (Bors.cons (Bor.ptr (Bors.cons (Bor.pure rfl) (Bors.cons (Bor.pure rfl) (Bors.cons (Bor.own (f := f32) (fun _ => rfl) rfl rfl) Bors.nil)))) Bors.nil) rfl rfl (s_l02Is_ok a0 a1 a2 r1 hf1)) hc2) rfl ?_
  refine zL (r := b true) rfl rfl rfl (LOp.eqb (LOp.not rfl rfl) rfl) ?_
  refine zN ?_
  refine RunC.cond_true rfl rfl ?_
  refine zQ ?_
  refine zL (r := agg [i64 0, i64 0, nilsl]) rfl rfl rfl (LOp.build (qs := []) zer26 zok26 und26 plc26 rfl trivial rfl) ?_
  refine ROps.store_le (r := agg [i64 0, i64 0, nilsl]) (l' := [i64 0, i64 0, nilsl]) (Γ' := [⟨0, some (a2.map f32)⟩, ⟨1, some [i64 0, i64 0, nilsl]⟩, ⟨0, none⟩]) rfl siz26 rfl rfl rfl aR rfl rfl rfl rfl (Nat.le_of_ble_eq_true rfl) rfl rfl ?_
  refine zA (r := b false) rfl rfl rfl rfl rfl ?_
  refine zN ?_
  refine RunC.nil_cell (l' := [i64 0, i64 0, oref 2 1 0 0]) (Γ' := [⟨0, some (a2.map f32)⟩, ⟨1, some [i64 0, i64 0, oref 2 1 0 0]⟩, ⟨1, some (([] : List F).map f32)⟩]) 1 2 2 rfl rfl rfl rfl rfl ?_
  refine RunC.ret ?_
  have hq := Option.some.inj h
  have hq := Sum.inr.inj hq
  obtain ⟨hq0, hq⟩ := Prod.mk.inj hq
  obtain ⟨hq1, hq⟩ := Prod.mk.inj hq
  obtain ⟨hq2, hq⟩ := Prod.mk.inj hq
  obtain ⟨hq3, hq⟩ := Prod.mk.inj hq
  subst q0
  subst q1
  subst q2
  subst q3
  subst q4
  exact bodyQ.mk (r' := tup [agg [i64 0, i64 0, oref 2 1 0 (([] : List F).length)], b false]) [(0, 0), (2, 1)] (.inr rfl) rfl (show List.Nodup [0, 2] from by decide) rfl rfl (Res.eq (Res.two rfl (RV.cell agg26 siz26 rfl rfl rfl rfl) (RV.tmp rfl)) (by rw [(show ([] : List F).length = 0 from rfl)] <;> rfl)) (SelL.arr (f := f32) (fun _ => rfl) rfl (SelL.arr0 (f := f32) (fun _ => rfl) rfl trivial))
end Go.Proofs.YtcoookgeialmnaaGreat
