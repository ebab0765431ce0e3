/- Generated. -/
import Derived.Test.YtcoookgeialmnaaTys
namespace Go.Proofs.Ytcoookgeialmnaa
open Go Go.AM Go.AM.AV
set_option maxRecDepth 20000
set_option maxHeartbeats 4000000
set_option linter.unusedVariables false
set_option linter.unusedSimpArgs false
noncomputable def w_szFloat32S (a0 : List F) (a1 : Int) : Option (Int) :=
 olet (IntKind.i64.wrap (a1 - (a0.length : Int))) fun (x1 : Int) =>
 bsel (decide (x1 < 0)) (
  some (-1)) (
  some x1)
theorem w_szFloat32S_ok (a0 : List F) (a1 : Int) (q0 : Int) (h : w_szFloat32S a0 a1 = some q0) : Ev Try.prog 29 [sl a0.length (a0.map f32), i64 a1] [] (i64 q0) [] := by
 refine Ev.start Try.func29 rfl rfl 0 (τ := [(0, sl a0.length (a0.map f32)), (1, i64 a1)]) rfl (Γ' := []) rfl (n := 25) rfl (g := 0) rfl (fun _ => rfl) ?_
 unfold w_szFloat32S at h
 refine zQ ?_
 refine zA (r := i64 0) rfl rfl rfl rfl rfl ?_
 refine zN ?_
 refine RunC.seq ?_
 obtain ⟨x1, hx1, h⟩ := olet_some h
 refine RunC.regionW ?_
 refine zM (r := i64 a1) rfl rfl rfl rfl rfl ?_
 refine zM (r := sl a0.length (a0.map f32)) rfl rfl rfl rfl rfl ?_
 refine zL (r := i64 (a0.length : Int)) rfl rfl rfl (LOp.len_sl und23 rfl rfl) ?_
 refine zL (r := i64 x1) rfl rfl rfl (LOp.eqr (LOp.sub rfl rfl rfl) (congrArg (ik .i64) hx1)) ?_
 refine zA (r := i64 x1) rfl rfl rfl rfl rfl ?_
 refine zN ?_
 refine RunC.seq ?_
 refine RunC.seq ?_
 rcases bsel_some h with ⟨hc2, h⟩ | ⟨hc2, h⟩
 ·refine RunC.regionW ?_
  refine zM (r := i64 x1) rfl rfl rfl rfl rfl ?_
  refine zL (r := b true) rfl rfl rfl (LOp.eqb (LOp.lss rfl rfl rfl) hc2) ?_
  refine zN ?_
  refine RunC.cond_true rfl rfl ?_
  refine zQ ?_
  refine zA (r := i64 (-1)) rfl rfl rfl rfl rfl ?_
  refine zN ?_
  refine RunC.ret ?_
  have hq := Option.some.inj h
  subst q0
  exact bodyQ.pure (.inr rfl) rfl (Res.one rfl (RV.tmp rfl))
 ·refine RunC.regionW ?_
  refine zM (r := i64 x1) rfl rfl rfl rfl rfl ?_
  refine zL (r := b false) rfl rfl rfl (LOp.eqb (LOp.lss rfl rfl rfl) hc2) ?_
  refine zN ?_
  refine RunC.cond_false rfl rfl ?_
  refine RunC.skip ?_
  refine zQ ?_
  refine zM (r := i64 x1) rfl rfl rfl rfl rfl ?_
  refine zA (r := i64 x1) rfl rfl rfl rfl rfl ?_
  refine zN ?_
  refine RunC.ret ?_
  have hq := Option.some.inj h
  subst q0
  exact bodyQ.pure (.inr rfl) rfl (Res.one rfl (RV.tmp rfl))
noncomputable def w_szMatrix (a0 : Int) (a1 : Int) (a2 : List F) (a3 : Int) : Option (Int) :=
 obind (w_szFloat32S a2 a3) fun (r1 : Int) =>
 bsel (decide (r1 < 0)) (
  some (-1)) (
  some r1)
theorem w_szMatrix_ok (a0 : Int) (a1 : Int) (a2 : List F) (a3 : Int) (q0 : Int) (h : w_szMatrix a0 a1 a2 a3 = some q0) : Ev Try.prog 19 [agg [i64 a0, i64 a1, sl a2.length (a2.map f32)], i64 a3] [] (i64 q0) [] := by
 refine Ev.start Try.func19 rfl rfl 0 (τ := [(0, agg [i64 a0, i64 a1, sl a2.length (a2.map f32)]), (1, i64 a3)]) rfl (Γ' := []) rfl (n := 25) rfl (g := 0) rfl (fun _ => rfl) ?_
 unfold w_szMatrix at h
 refine zQ ?_
 refine ROps.d (r := ptr [i64 a0, i64 a1, sl a2.length (a2.map f32)]) (fs := []) (Γ' := []) rfl rfl rfl (TOp.box_s rfl rfl rfl) rfl ?_
 refine zA (r := i64 0) rfl rfl rfl rfl rfl ?_
 refine zN ?_
 refine RunC.seq ?_
 obtain ⟨r1, hf1, h⟩ := obind_some h
 refine RunC.regionW ?_
 refine zL (r := ptr [sl a2.length (a2.map f32)]) rfl rfl rfl (LOp.fap und41 rfl siz23 rfl rfl rfl) ?_
 refine zL (r := sl a2.length (a2.map f32)) rfl rfl rfl (LOp.load1 agg23 rfl rfl) ?_
 refine zM (r := i64 a3) rfl rfl rfl rfl rfl ?_
 refine ROps.d (r := i64 r1) (fs := []) (Γ' := []) rfl rfl rfl (TOp.callB (CallAs.func ent29 rfl rfl) (Bors.cons (Bor.sl (fun _ => rfl)) (Bors.cons (Bor.pure rfl) Bors.nil)) rfl rfl (w_szFloat32S_ok a2 a3 r1 hf1)) rfl ?_
 refine zA (r := i64 r1) rfl rfl rfl rfl rfl ?_
 refine zN ?_
 refine RunC.seq ?_
 refine RunC.seq ?_
 rcases bsel_some h with ⟨hc2, h⟩ | ⟨hc2, h⟩
 ·refine RunC.regionW ?_
  refine zM (r := i64 r1) rfl rfl rfl rfl rfl ?_
  refine zL (r := b true) rfl rfl rfl (LOp.eqb (LOp.lss rfl rfl rfl) hc2) ?_
  refine zN ?_
  refine RunC.cond_true rfl rfl ?_
  refine zQ ?_
  refine zA (r := i64 (-1)) rfl rfl rfl rfl rfl ?_
  refine zN ?_
  refine RunC.ret ?_
  have hq := Option.some.inj h
  subst q0
  exact bodyQ.pure (.inr rfl) rfl (Res.one rfl (RV.tmp rfl))
 ·refine RunC.regionW ?_
  refine zM (r := i64 r1) rfl rfl rfl rfl rfl ?_
  refine zL (r := b false) rfl rfl rfl (LOp.eqb (LOp.lss rfl rfl rfl) hc2) ?_
  refine zN ?_
  refine RunC.cond_false rfl rfl ?_
  refine RunC.skip ?_
  refine zQ ?_
  refine zM (r := i64 r1) rfl rfl rfl rfl rfl ?_
  refine zA (r := i64 r1) rfl rfl rfl rfl rfl ?_
  refine zN ?_
  refine RunC.ret ?_
  have hq := Option.some.inj h
  subst q0
  exact bodyQ.pure (.inr rfl) rfl (Res.one rfl (RV.tmp rfl))
noncomputable def w_toFloat32S_b1 (a0 : List F) (L1 : List F) (v3 : Int) : Option (LR ((List F) × Int) ((List F)) ((List F))) :=
 bsel (decide (v3 < (a0.length : Int))) (
  obind (at? a0 v3) fun (e4 : F) =>
  obind (setAt? L1 v3 e4) fun (L5 : List F) =>
  olet (IntKind.i64.wrap (v3 + 1)) fun (x6 : Int) =>
  some (LR.next (L5, x6))) (
  some (LR.out L1))
noncomputable def w_toFloat32S_s1 (a0 : List F) : ((List F) × Int) → Option (LR ((List F) × Int) ((List F)) ((List F))) := fun s => w_toFloat32S_b1 a0 s.1 s.2
noncomputable def w_toFloat32S_k1 (L7 : List F) : Option ((List F)) :=
 some L7
noncomputable def w_toFloat32S (a0 : List F) : Option ((List F)) :=
 need (mkok 4 (a0.length : Int)) <|
 obind (loopM (w_toFloat32S_s1 a0) ((List.replicate (a0.length : Int).toNat (some 0)), 0)) fun z => osum z (fun e => w_toFloat32S_k1 e) (fun r => some r)
theorem w_toFloat32S_ok (a0 : List F) (q0 : List F) (h : w_toFloat32S a0 = some q0) : Ev Try.prog 10 [sl a0.length (a0.map f32)] [] (oref 0 0 0 q0.length) [⟨0, some (q0.map f32)⟩] := by
 refine Ev.start Try.func10 rfl rfl 1 (τ := [(0, sl a0.length (a0.map f32))]) rfl (Γ' := [⟨0, none⟩]) rfl (n := 45) rfl (g := 0) rfl (fun _ => rfl) ?_
 unfold w_toFloat32S at h
 refine zQ ?_
 refine zA (r := nilsl) rfl rfl rfl rfl rfl ?_
 refine zN ?_
 refine RunC.seq ?_
 obtain ⟨hm1, h⟩ := need_some h
 refine RunC.regionW ?_
 refine zM (r := sl a0.length (a0.map f32)) rfl rfl rfl rfl rfl ?_
 refine zL (r := i64 (a0.length : Int)) rfl rfl rfl (LOp.len_sl und23 rfl rfl) ?_
 refine ROps.d (r := oref 0 1 0 ((a0.length : Int).toNat)) (fs := [(0, ((List.replicate (a0.length : Int).toNat (some 0)).map f32))]) (Γ' := [⟨1, some ((List.replicate (a0.length : Int).toNat (some 0)).map f32)⟩]) rfl rfl rfl (TOp.mkS (g := ⟨0, none⟩) (t := 23) (e := 26) (by_ := 4) (f := f32) (zv := some 0) 0 rfl und23 tin26 rfl siz26 zer26 rfl zel26 rfl rfl rfl hm1) rfl ?_
 refine zA (r := oref 0 1 0 ((a0.length : Int).toNat)) rfl rfl rfl rfl rfl ?_
 refine zN ?_
 refine RunC.seq ?_
 refine zQ ?_
 refine zA (r := i64 0) rfl rfl rfl rfl rfl ?_
 refine zN ?_
 obtain ⟨z2, hz_2, h⟩ := obind_some h
 refine RunC.cutN (fun τ Γ => ∃ (L7 : List F), L7.length = (a0.length : Int).toNat ∧ WeakLe τ [(3, oref 0 1 0 ((a0.length : Int).toNat))] ∧ DeadLe Γ [⟨1, some (L7.map f32)⟩] ∧ z2 = .inl L7) ?_ ?_
 ·refine RunC.block (RunC.loop (RunL.loopM (x := z2) (w_toFloat32S_s1 a0) (fun (s : (List F) × Int) τ Γ => s.1.length = (a0.length : Int).toNat ∧ WeakLe τ [(0, sl a0.length (a0.map f32)), (3, oref 0 1 0 ((a0.length : Int).toNat)), (4, i64 s.2)] ∧ DeadLe Γ [⟨1, some (s.1.map f32)⟩]) ?_ _ _ _ hz_2 ⟨List.length_replicate, ⟨aR, aR, aR, trivial⟩, ⟨⟨rfl, .inr rfl⟩, trivial⟩⟩))
  rintro ⟨L1, v3⟩ τ2 Γ2 y2_ ⟨hl2, hw2, hd2⟩ h2_ ho2 hr2
  refine RunC.wl (τ' := [(0, sl a0.length (a0.map f32)), (3, oref 0 1 0 ((a0.length : Int).toNat)), (4, i64 v3)]) (Γ' := [⟨1, some (L1.map f32)⟩]) hw2 hd2 ?_
  replace hl2 : L1.length = (a0.length : Int).toNat := hl2
  replace h2_ : w_toFloat32S_b1 a0 L1 v3 = some y2_ := h2_
  unfold w_toFloat32S_b1 at h2_
  refine RunC.seq ?_
  refine RunC.seq ?_
  rcases bsel_some h2_ with ⟨hc2, h2_⟩ | ⟨hc2, h2_⟩
  ·refine RunC.regionW ?_
   refine zM (r := i64 v3) rfl rfl rfl rfl rfl ?_
   refine zM (r := sl a0.length (a0.map f32)) rfl rfl rfl rfl rfl ?_
   refine zL (r := i64 (a0.length : Int)) rfl rfl rfl (LOp.len_sl und23 rfl rfl) ?_
   refine zL (r := b true) rfl rfl rfl (LOp.eqb (LOp.lss rfl rfl rfl) hc2) ?_
   refine zN ?_
   refine RunC.cond_true rfl rfl ?_
   refine RunC.skip ?_
   refine RunC.seq ?_
   refine RunC.block ?_
   obtain ⟨e4, he3, h2_⟩ := obind_some h2_
   obtain ⟨L5, he4, h2_⟩ := obind_some h2_
   refine RunC.regionW ?_
   refine zM (r := oref 0 1 0 ((a0.length : Int).toNat)) rfl rfl rfl rfl rfl ?_
   refine zM (r := i64 v3) rfl rfl rfl rfl rfl ?_
   refine zM (r := sl a0.length (a0.map f32)) rfl rfl rfl rfl rfl ?_
   refine zM (r := i64 v3) rfl rfl rfl rfl rfl ?_
   refine zL (r := ptr [f32 e4]) rfl rfl rfl (LOp.le (LOp.ix (f := f32) und23 siz26 rfl rfl rfl rfl he3) ALe.ptr) ?_
   refine zL (r := f32 e4) rfl rfl rfl (LOp.load1 agg26 rfl rfl) ?_
   refine ROps.d (r := optr 0 1 v3.toNat) (fs := []) (Γ' := [⟨1, some (L1.map f32)⟩]) rfl rfl rfl (TOp.ixo und23 siz26 rfl rfl rfl (set_in he4 hl2) rfl) rfl ?_
   refine ROps.st (f := f32) (i := v3) (Γ' := [⟨1, some (L5.map f32)⟩]) rfl siz26 rfl rfl rfl aR rfl rfl rfl he4 rfl ?_
   refine zN ?_
   obtain ⟨x6, hx5, h2_⟩ := olet_some h2_
   refine RunC.regionW ?_
   refine zM (r := i64 v3) rfl rfl rfl rfl rfl ?_
   refine zL (r := i64 x6) rfl rfl rfl (LOp.eqr (LOp.add rfl rfl rfl) (congrArg (ik .i64) hx5)) ?_
   refine zA (r := i64 x6) rfl rfl rfl rfl rfl ?_
   refine zN ?_
   cases Option.some.inj h2_
   exact ⟨_, rfl, ((setAt?_len he4).trans hl2), ⟨aR, aR, aR, trivial⟩, ⟨⟨rfl, .inr rfl⟩, trivial⟩⟩
  ·refine RunC.regionW ?_
   refine zM (r := i64 v3) rfl rfl rfl rfl rfl ?_
   refine zM (r := sl a0.length (a0.map f32)) rfl rfl rfl rfl rfl ?_
   refine zL (r := i64 (a0.length : Int)) rfl rfl rfl (LOp.len_sl und23 rfl rfl) ?_
   refine zL (r := b false) rfl rfl rfl (LOp.eqb (LOp.lss rfl rfl rfl) hc2) ?_
   refine zN ?_
   refine RunC.cond_false rfl rfl ?_
   refine RunC.exit ?_
   cases Option.some.inj h2_
   have hx := ho2 _ rfl
   exact ⟨L1, hl2, ⟨aR, trivial⟩, ⟨⟨rfl, .inr rfl⟩, trivial⟩, hx⟩
 ·rintro τ3 Γ3 ⟨L7, hl8, hw3, hd3, rfl⟩
  refine RunC.wl hw3 hd3 ?_
  replace h : w_toFloat32S_k1 L7 = some q0 := h
  unfold w_toFloat32S_k1 at h
  refine zQ ?_
  refine zM (r := oref 0 1 0 ((a0.length : Int).toNat)) rfl rfl rfl rfl rfl ?_
  refine zA (r := oref 0 1 0 ((a0.length : Int).toNat)) rfl rfl rfl rfl rfl ?_
  refine zN ?_
  refine RunC.ret ?_
  have hq := Option.some.inj h
  subst q0
  exact bodyQ.mk (r' := oref 0 1 0 L7.length) [(0, 1)] (.inr rfl) rfl (show List.Nodup [0] from by decide) rfl rfl (Res.eq (Res.one rfl (RV.tmp rfl)) (by rw [(show L7.length = (a0.length : Int).toNat from hl8)] <;> rfl)) (SelL.arr0 (f := f32) (fun _ => rfl) rfl trivial)
noncomputable def w_toMatrix (a0 : Int) (a1 : Int) (a2 : List F) : Option (Int × Int × (List F)) :=
 obind (w_toFloat32S a2) fun (r1 : List F) =>
 some (a0, a1, r1)
theorem w_toMatrix_ok (a0 : Int) (a1 : Int) (a2 : List F) (q0 : Int) (q1 : Int) (q2 : List F) (h : w_toMatrix a0 a1 a2 = some (q0, q1, q2)) : Ev Try.prog 21 [agg [i64 a0, i64 a1, sl a2.length (a2.map f32)]] [] (agg [i64 q0, i64 q1, oref 0 0 0 q2.length]) [⟨0, some (q2.map f32)⟩] := by
 refine Ev.start Try.func21 rfl rfl 3 (τ := [(0, agg [i64 a0, i64 a1, sl a2.length (a2.map f32)])]) rfl (Γ' := [⟨0, none⟩, ⟨0, none⟩, ⟨0, none⟩]) rfl (n := 31) rfl (g := 0) rfl (fun _ => rfl) ?_
 unfold w_toMatrix at h
 refine zQ ?_
 refine ROps.d (r := ptr [i64 a0, i64 a1, sl a2.length (a2.map f32)]) (fs := []) (Γ' := [⟨0, none⟩, ⟨0, none⟩, ⟨0, none⟩]) rfl rfl rfl (TOp.box_s rfl rfl rfl) rfl ?_
 refine ROps.d (r := optr 0 1 0) (fs := [(0, [i64 0, i64 0, nilsl])]) (Γ' := [⟨1, some [i64 0, i64 0, nilsl]⟩, ⟨0, none⟩, ⟨0, none⟩]) rfl rfl rfl (TOp.alloc_o (g := ⟨0, none⟩) 0 rfl zer45 zok45 rfl) rfl ?_
 refine zN ?_
 refine zQ ?_
 refine ROps.d (r := optr 1 1 0) (fs := [(1, [i64 0, i64 0, nilsl])]) (Γ' := [⟨1, some [i64 0, i64 0, nilsl]⟩, ⟨1, some [i64 0, i64 0, nilsl]⟩, ⟨0, none⟩]) rfl rfl rfl (TOp.alloc_o (g := ⟨0, none⟩) 1 rfl zer45 zok45 rfl) rfl ?_
 refine zN ?_
 refine zQ ?_
 refine zL (r := ptr [i64 a0, i64 a1, sl a2.length (a2.map f32)]) rfl rfl rfl (LOp.fap und41 rfl siz2 rfl rfl rfl) ?_
 refine zL (r := i64 a0) rfl rfl rfl (LOp.load1 agg2 rfl rfl) ?_
 refine zL (r := optr 1 1 0) rfl rfl rfl (LOp.fao und45 rfl siz2 rfl rfl rfl) ?_
 refine ROps.store_le (r := i64 a0) (l' := [i64 a0, i64 0, nilsl]) (Γ' := [⟨1, some [i64 0, i64 0, nilsl]⟩, ⟨1, some [i64 a0, i64 0, nilsl]⟩, ⟨0, none⟩]) rfl siz2 rfl rfl rfl aR rfl rfl rfl rfl (Nat.le_of_ble_eq_true rfl) rfl rfl ?_
 refine zN ?_
 refine zQ ?_
 refine zL (r := ptr [i64 a1, sl a2.length (a2.map f32)]) rfl rfl rfl (LOp.fap und41 rfl siz2 rfl rfl rfl) ?_
 refine zL (r := i64 a1) rfl rfl rfl (LOp.load1 agg2 rfl rfl) ?_
 refine zL (r := optr 1 1 1) rfl rfl rfl (LOp.fao und45 rfl siz2 rfl rfl rfl) ?_
 refine ROps.store_le (r := i64 a1) (l' := [i64 a0, i64 a1, nilsl]) (Γ' := [⟨1, some [i64 0, i64 0, nilsl]⟩, ⟨1, some [i64 a0, i64 a1, nilsl]⟩, ⟨0, none⟩]) rfl siz2 rfl rfl rfl aR rfl rfl rfl rfl (Nat.le_of_ble_eq_true rfl) rfl rfl ?_
 refine zN ?_
 refine RunC.seq ?_
 obtain ⟨r1, hf1, h⟩ := obind_some h
 refine RunC.regionW ?_
 refine zL (r := ptr [sl a2.length (a2.map f32)]) rfl rfl rfl (LOp.fap und41 rfl siz23 rfl rfl rfl) ?_
 refine zL (r := sl a2.length (a2.map f32)) rfl rfl rfl (LOp.load1 agg23 rfl rfl) ?_
 refine ROps.d (r := oref 2 1 0 r1.length) (fs := [(2, (r1.map f32))]) (Γ' := [⟨1, some [i64 0, i64 0, nilsl]⟩, ⟨1, some [i64 a0, i64 a1, nilsl]⟩, ⟨1, some (r1.map f32)⟩]) rfl rfl rfl (TOp.callBN (ls := [(r1.map f32)]) [2] (CallAs.func ent10 rfl rfl) (Bors.cons (Bor.sl (fun _ => rfl)) Bors.nil) rfl (w_toFloat32S_ok a2 r1 hf1) (and_all (lts0_map (f := f32) (fun _ => rfl) _) rfl) (and_all (noss_map (f := f32) (fun _ => rfl) _) rfl) rfl (by decide) (ns_of ⟨⟨_, rfl⟩, trivial⟩)) rfl ?_
 refine zL (r := optr 1 1 2) rfl rfl rfl (LOp.fao und45 rfl siz23 rfl rfl rfl) ?_
 refine ROps.store_le (r := oref 2 1 0 r1.length) (l' := [i64 a0, i64 a1, oref 2 1 0 r1.length]) (Γ' := [⟨1, some [i64 0, i64 0, nilsl]⟩, ⟨1, some [i64 a0, i64 a1, oref 2 1 0 r1.length]⟩, ⟨1, some (r1.map f32)⟩]) rfl siz23 rfl rfl rfl aR rfl rfl rfl rfl (Nat.le_of_ble_eq_true rfl) rfl rfl ?_
 refine zN ?_
 refine zQ ?_
 refine ROps.d (r := agg [i64 a0, i64 a1, oref 2 1 0 r1.length]) (fs := []) (Γ' := [⟨1, some [i64 0, i64 0, nilsl]⟩, ⟨1, some [i64 a0, i64 a1, oref 2 1 0 r1.length]⟩, ⟨1, some (r1.map f32)⟩]) rfl rfl rfl (TOp.loadAgg_o rfl agg45 siz45 rfl rfl rfl rfl) rfl ?_
 refine ROps.store_le (r := agg [i64 a0, i64 a1, oref 2 1 0 r1.length]) (l' := [i64 a0, i64 a1, oref 2 1 0 r1.length]) (Γ' := [⟨1, some [i64 a0, i64 a1, oref 2 1 0 r1.length]⟩, ⟨1, some [i64 a0, i64 a1, oref 2 1 0 r1.length]⟩, ⟨1, some (r1.map f32)⟩]) rfl siz45 rfl rfl rfl aR rfl rfl rfl rfl (Nat.le_of_ble_eq_true rfl) rfl rfl ?_
 refine zN ?_
 refine RunC.ret ?_
 have hq := Option.some.inj h
 obtain ⟨hq0, hq⟩ := Prod.mk.inj hq
 obtain ⟨hq1, hq⟩ := Prod.mk.inj hq
 subst q0
 subst q1
 subst q2
 exact bodyQ.mk (r' := agg [i64 a0, i64 a1, oref 2 1 0 r1.length]) [(2, 1)] (.inr rfl) rfl (show List.Nodup [2] from by decide) rfl rfl (Res.one rfl (RV.cell agg45 siz45 rfl rfl rfl rfl)) (SelL.arr0 (f := f32) (fun _ => rfl) rfl trivial)
noncomputable def s_l00In (a0 : Int) (a1 : Int) (a2 : Int) : Option (Bool) :=
 bsel (decide (a1 ≤ a0)) (
  some (decide (a0 ≤ a2))) (
  some false)
theorem s_l00In_ok (a0 : Int) (a1 : Int) (a2 : Int) (q0 : Bool) (h : s_l00In a0 a1 a2 = some q0) : Ev Try.prog 32 [i64 a0, i64 a1, i64 a2] [] (b q0) [] := by
 refine Ev.start Try.func32 rfl rfl 0 (τ := [(0, i64 a0), (1, i64 a1), (2, i64 a2)]) rfl (Γ' := []) rfl (n := 31) rfl (g := 0) rfl (fun _ => rfl) ?_
 unfold s_l00In at h
 refine zQ ?_
 refine zA (r := b false) rfl rfl rfl rfl rfl ?_
 refine zN ?_
 refine RunC.seq ?_
 rcases bsel_some h with ⟨hc1, h⟩ | ⟨hc1, h⟩
 ·refine RunC.regionW ?_
  refine zM (r := i64 a0) rfl rfl rfl rfl rfl ?_
  refine zM (r := i64 a1) rfl rfl rfl rfl rfl ?_
  refine zL (r := b true) rfl rfl rfl (LOp.eqb (LOp.geq rfl rfl rfl) hc1) ?_
  refine zM (r := b true) rfl rfl rfl rfl rfl ?_
  refine zM (r := i64 a0) rfl rfl rfl rfl rfl ?_
  refine zM (r := i64 a2) rfl rfl rfl rfl rfl ?_
  refine zL (r := b (decide (a0 ≤ a2))) rfl rfl rfl (LOp.leq rfl rfl rfl) ?_
  refine zL (r := b (decide (a0 ≤ a2))) rfl rfl rfl (LOp.pick_true rfl rfl rfl) ?_
  refine zA (r := b (decide (a0 ≤ a2))) rfl rfl rfl rfl rfl ?_
  refine zN ?_
  refine RunC.ret ?_
  have hq := Option.some.inj h
  subst q0
  exact bodyQ.pure (.inr rfl) rfl (Res.one rfl (RV.tmp rfl))
 ·refine RunC.regionW ?_
  refine zM (r := i64 a0) rfl rfl rfl rfl rfl ?_
  refine zM (r := i64 a1) rfl rfl rfl rfl rfl ?_
  refine zL (r := b false) rfl rfl rfl (LOp.eqb (LOp.geq rfl rfl rfl) hc1) ?_
  refine zM (r := b false) rfl rfl rfl rfl rfl ?_
  refine ROps.s rfl rfl rfl ?_
  refine ROps.s rfl rfl rfl ?_
  refine ROps.s rfl rfl rfl ?_
  refine zL (r := b false) rfl rfl rfl (LOp.pick_false rfl rfl rfl) ?_
  refine zA (r := b false) rfl rfl rfl rfl rfl ?_
  refine zN ?_
  refine RunC.ret ?_
  have hq := Option.some.inj h
  subst q0
  exact bodyQ.pure (.inr rfl) rfl (Res.one rfl (RV.tmp rfl))
noncomputable def s_l02Sides (a0 : Int) (a1 : Int) : Option (Bool) :=
 obind (s_l00In a0 1 12) fun (r1 : Bool) =>
 bsel r1 (
  obind (s_l00In a1 1 12) fun (r2 : Bool) =>
  some r2) (
  some false)
theorem s_l02Sides_ok (a0 : Int) (a1 : Int) (q0 : Bool) (h : s_l02Sides a0 a1 = some q0) : Ev Try.prog 112 [i64 a0, i64 a1] [] (b q0) [] := by
 refine Ev.start Try.func112 rfl rfl 0 (τ := [(0, i64 a0), (1, i64 a1)]) rfl (Γ' := []) rfl (n := 23) rfl (g := 0) rfl (fun _ => rfl) ?_
 unfold s_l02Sides at h
 refine zQ ?_
 refine zA (r := b false) rfl rfl rfl rfl rfl ?_
 refine zN ?_
 refine RunC.seq ?_
 obtain ⟨r1, hf1, h⟩ := obind_some h
 rcases bsel_some h with ⟨hc2, h⟩ | ⟨hc2, h⟩
 ·obtain ⟨r2, hf3, h⟩ := obind_some h
  refine RunC.regionW ?_
  refine zM (r := i64 a0) rfl rfl rfl rfl rfl ?_
  refine ROps.d (r := b true) (fs := []) (Γ' := []) rfl rfl rfl (TOp.eqb (TOp.callB (CallAs.func ent32 rfl rfl) (Bors.cons (Bor.pure rfl) (Bors.cons (Bor.pure rfl) (Bors.cons (Bor.pure rfl) Bors.nil))) rfl rfl (s_l00In_ok a0 1 12 r1 hf1)) hc2) rfl ?_
  refine zM (r := b true) rfl rfl rfl rfl rfl ?_
  refine zM (r := i64 a1) rfl rfl rfl rfl rfl ?_
  refine ROps.d (r := b r2) (fs := []) (Γ' := []) rfl rfl rfl (TOp.callB (CallAs.func ent32 rfl rfl) (Bors.cons (Bor.pure rfl) (Bors.cons (Bor.pure rfl) (Bors.cons (Bor.pure rfl) Bors.nil))) rfl rfl (s_l00In_ok a1 1 12 r2 hf3)) rfl ?_
  refine zL (r := b r2) rfl rfl rfl (LOp.pick_true rfl rfl rfl) ?_
  refine zA (r := b r2) rfl rfl rfl rfl rfl ?_
  refine zN ?_
  refine RunC.ret ?_
  have hq := Option.some.inj h
  subst q0
  exact bodyQ.pure (.inr rfl) rfl (Res.one rfl (RV.tmp rfl))
 ·refine RunC.regionW ?_
  refine zM (r := i64 a0) rfl rfl rfl rfl rfl ?_
  refine ROps.d (r := b false) (fs := []) (Γ' := []) rfl rfl rfl (TOp.eqb (TOp.callB (CallAs.func ent32 rfl rfl) (Bors.cons (Bor.pure rfl) (Bors.cons (Bor.pure rfl) (Bors.cons (Bor.pure rfl) Bors.nil))) rfl rfl (s_l00In_ok a0 1 12 r1 hf1)) hc2) rfl ?_
  refine zM (r := b false) rfl rfl rfl rfl rfl ?_
  refine ROps.s rfl rfl rfl ?_
  refine ROps.s rfl rfl rfl ?_
  refine zL (r := b false) rfl rfl rfl (LOp.pick_false rfl rfl rfl) ?_
  refine zA (r := b false) rfl rfl rfl rfl rfl ?_
  refine zN ?_
  refine RunC.ret ?_
  have hq := Option.some.inj h
  subst q0
  exact bodyQ.pure (.inr rfl) rfl (Res.one rfl (RV.tmp rfl))
noncomputable def s_l01Finite (a0 : F) : Option (Bool) :=
 olet (fop .sub .f32 a0 a0) fun (x1 : F) =>
 some (feq .f32 x1 (some 0))
theorem s_l01Finite_ok (a0 : F) (q0 : Bool) (h : s_l01Finite a0 = some q0) : Ev Try.prog 79 [f32 a0] [] (b q0) [] := by
 refine Ev.start Try.func79 rfl rfl 0 (τ := [(0, f32 a0)]) rfl (Γ' := []) rfl (n := 15) rfl (g := 0) rfl (fun _ => rfl) ?_
 unfold s_l01Finite at h
 refine zQ ?_
 refine zA (r := b false) rfl rfl rfl rfl rfl ?_
 refine zN ?_
 refine RunC.seq ?_
 obtain ⟨x1, hx1, h⟩ := olet_some h
 refine RunC.regionW ?_
 refine zM (r := f32 a0) rfl rfl rfl rfl rfl ?_
 refine zM (r := f32 a0) rfl rfl rfl rfl rfl ?_
 refine ROps.d (r := f32 x1) (fs := []) (Γ' := []) rfl rfl rfl (TOp.eqr (TOp.fop (.inr (.inl rfl)) rfl (OpF.tmp rfl) (OpF.tmp rfl)) (congrArg (f .f32) hx1)) rfl ?_
 refine zL (r := b (feq .f32 x1 (some 0))) rfl rfl rfl (LOp.feq rfl (OpF.tmp rfl) (OpF.const rfl (by kernel_rfl) (by kernel_rfl))) ?_
 refine zA (r := b (feq .f32 x1 (some 0))) rfl rfl rfl rfl rfl ?_
 refine zN ?_
 refine RunC.ret ?_
 have hq := Option.some.inj h
 subst q0
 exact bodyQ.pure (.inr rfl) rfl (Res.one rfl (RV.tmp rfl))
noncomputable def s_l02Finite_b1 (a0 : List F) (v1 : Int) : Option (LR (Int) (Unit) (Bool)) :=
 bsel (decide (v1 < (a0.length : Int))) (
  obind (at? a0 v1) fun (e2 : F) =>
  obind (s_l01Finite e2) fun (r3 : Bool) =>
  bsel r3 (
   olet (IntKind.i64.wrap (v1 + 1)) fun (x4 : Int) =>
   some (LR.next x4)) (
   some (LR.ret false))) (
  some (LR.out ()))
noncomputable def s_l02Finite_s1 (a0 : List F) : (Int) → Option (LR (Int) (Unit) (Bool)) := fun s => s_l02Finite_b1 a0 s
noncomputable def s_l02Finite_k1  : Option (Bool) :=
 some true
noncomputable def s_l02Finite (a0 : List F) : Option (Bool) :=
 obind (loopM (s_l02Finite_s1 a0) 0) fun z => osum z (fun _ => s_l02Finite_k1) (fun r => some r)
theorem s_l02Finite_ok (a0 : List F) (q0 : Bool) (h : s_l02Finite a0 = some q0) : Ev Try.prog 78 [sl a0.length (a0.map f32)] [] (b q0) [] := by
 refine Ev.start Try.func78 rfl rfl 0 (τ := [(0, sl a0.length (a0.map f32))]) rfl (Γ' := []) rfl (n := 33) rfl (g := 0) rfl (fun _ => rfl) ?_
 unfold s_l02Finite at h
 refine zQ ?_
 refine zA (r := b false) rfl rfl rfl rfl rfl ?_
 refine zN ?_
 refine RunC.seq ?_
 refine zQ ?_
 refine zA (r := i64 0) rfl rfl rfl rfl rfl ?_
 refine zN ?_
 obtain ⟨z2, hz_2, h⟩ := obind_some h
 refine RunC.cutN (fun τ Γ => WeakLe τ [] ∧ DeadLe Γ [] ∧ z2 = .inl ()) ?_ ?_
 ·refine RunC.block (RunC.loop (RunL.loopM (x := z2) (s_l02Finite_s1 a0) (fun (s : Int) τ Γ => WeakLe τ [(0, sl a0.length (a0.map f32)), (3, i64 s)] ∧ DeadLe Γ []) ?_ _ _ _ hz_2 ⟨⟨aR, aR, trivial⟩, trivial⟩))
  rintro v1 τ2 Γ2 y2_ ⟨hw2, hd2⟩ h2_ ho2 hr2
  refine RunC.wl (τ' := [(0, sl a0.length (a0.map f32)), (3, i64 v1)]) (Γ' := []) hw2 hd2 ?_
  replace h2_ : s_l02Finite_b1 a0 v1 = some y2_ := h2_
  unfold s_l02Finite_b1 at h2_
  refine RunC.seq ?_
  refine RunC.seq ?_
  rcases bsel_some h2_ with ⟨hc1, h2_⟩ | ⟨hc1, h2_⟩
  ·refine RunC.regionW ?_
   refine zM (r := i64 v1) rfl rfl rfl rfl rfl ?_
   refine zM (r := sl a0.length (a0.map f32)) rfl rfl rfl rfl rfl ?_
   refine zL (r := i64 (a0.length : Int)) rfl rfl rfl (LOp.len_sl und23 rfl rfl) ?_
   refine zL (r := b true) rfl rfl rfl (LOp.eqb (LOp.lss rfl rfl rfl) hc1) ?_
   refine zN ?_
   refine RunC.cond_true rfl rfl ?_
   refine RunC.skip ?_
   refine RunC.seq ?_
   refine RunC.block ?_
   refine RunC.seq ?_
   obtain ⟨e2, he2, h2_⟩ := obind_some h2_
   obtain ⟨r3, hf3, h2_⟩ := obind_some h2_
   rcases bsel_some h2_ with ⟨hc4, h2_⟩ | ⟨hc4, h2_⟩
   ·refine RunC.regionW ?_
    refine zM (r := sl a0.length (a0.map f32)) rfl rfl rfl rfl rfl ?_
    refine zM (r := i64 v1) rfl rfl rfl rfl rfl ?_
    refine zL (r := ptr [f32 e2]) rfl rfl rfl (LOp.le (LOp.ix (f := f32) und23 siz26 rfl rfl rfl rfl he2) ALe.ptr) ?_
    refine zL (r := f32 e2) rfl rfl rfl (LOp.load1 agg26 rfl rfl) ?_
    refine ROps.d (r := b true) (fs := []) (Γ' := []) rfl rfl rfl (TOp.eqb (TOp.callB (CallAs.func ent79 rfl rfl) (Bors.cons (Bor.pure rfl) Bors.nil) rfl rfl (s_l01Finite_ok e2 r3 hf3)) hc4) rfl ?_
    refine zL (r := b false) rfl rfl rfl (LOp.eqb (LOp.not rfl rfl) rfl) ?_
    refine zN ?_
    refine RunC.cond_false rfl rfl ?_
    refine RunC.skip ?_
    obtain ⟨x4, hx5, h2_⟩ := olet_some h2_
    refine RunC.regionW ?_
    refine zM (r := i64 v1) rfl rfl rfl rfl rfl ?_
    refine zL (r := i64 x4) rfl rfl rfl (LOp.eqr (LOp.add rfl rfl rfl) (congrArg (ik .i64) hx5)) ?_
    refine zA (r := i64 x4) rfl rfl rfl rfl rfl ?_
    refine zN ?_
    cases Option.some.inj h2_
    exact ⟨_, rfl, ⟨aR, aR, trivial⟩, trivial⟩
   ·refine RunC.regionW ?_
    refine zM (r := sl a0.length (a0.map f32)) rfl rfl rfl rfl rfl ?_
    refine zM (r := i64 v1) rfl rfl rfl rfl rfl ?_
    refine zL (r := ptr [f32 e2]) rfl rfl rfl (LOp.le (LOp.ix (f := f32) und23 siz26 rfl rfl rfl rfl he2) ALe.ptr) ?_
    refine zL (r := f32 e2) rfl rfl rfl (LOp.load1 agg26 rfl rfl) ?_
    refine ROps.d (r := b false) (fs := []) (Γ' := []) rfl rfl rfl (TOp.eqb (TOp.callB (CallAs.func ent79 rfl rfl) (Bors.cons (Bor.pure rfl) Bors.nil) rfl rfl (s_l01Finite_ok e2 r3 hf3)) hc4) rfl ?_
    refine zL (r := b true) rfl rfl rfl (LOp.eqb (LOp.not rfl rfl) rfl) ?_
    refine zN ?_
    refine RunC.cond_true rfl rfl ?_
    refine zQ ?_
    refine zA (r := b false) rfl rfl rfl rfl rfl ?_
    refine zN ?_
    refine RunC.ret ?_
    cases Option.some.inj h2_
    have hx3_ := hr2 _ rfl
    subst hx3_
    have hq := Option.some.inj h
    subst q0
    exact bodyQ.pure (.inr rfl) rfl (Res.one rfl (RV.tmp rfl))
  ·refine RunC.regionW ?_
   refine zM (r := i64 v1) rfl rfl rfl rfl rfl ?_
   refine zM (r := sl a0.length (a0.map f32)) rfl rfl rfl rfl rfl ?_
   refine zL (r := i64 (a0.length : Int)) rfl rfl rfl (LOp.len_sl und23 rfl rfl) ?_
   refine zL (r := b false) rfl rfl rfl (LOp.eqb (LOp.lss rfl rfl rfl) hc1) ?_
   refine zN ?_
   refine RunC.cond_false rfl rfl ?_
   refine RunC.exit ?_
   cases Option.some.inj h2_
   have hx := ho2 _ rfl
   exact ⟨trivial, trivial, hx⟩
 ·rintro τ4 Γ4 ⟨hw4, hd4, rfl⟩
  refine RunC.wl hw4 hd4 ?_
  replace h : s_l02Finite_k1 = some q0 := h
  unfold s_l02Finite_k1 at h
  refine zQ ?_
  refine zA (r := b true) rfl rfl rfl rfl rfl ?_
  refine zN ?_
  refine RunC.ret ?_
  have hq := Option.some.inj h
  subst q0
  exact bodyQ.pure (.inr rfl) rfl (Res.one rfl (RV.tmp rfl))
noncomputable def s_l02Is (a0 : Int) (a1 : Int) (a2 : List F) : Option (Bool) :=
 obind (s_l02Sides a0 a1) fun (r1 : Bool) =>
 bsel r1 (
  olet (IntKind.i64.wrap (a0 * a1)) fun (x2 : Int) =>
  bsel (decide ((a2.length : Int) = x2)) (
   obind (s_l02Finite a2) fun (r3 : Bool) =>
   some r3) (
   some false)) (
  some false)
theorem s_l02Is_ok (a0 : Int) (a1 : Int) (a2 : List F) (q0 : Bool) (h : s_l02Is a0 a1 a2 = some q0) : Ev Try.prog 64 [ptr [i64 a0, i64 a1, sl a2.length (a2.map f32)]] [] (b q0) [] := by
 refine Ev.start Try.func64 rfl rfl 0 (τ := [(0, ptr [i64 a0, i64 a1, sl a2.length (a2.map f32)])]) rfl (Γ' := []) rfl (n := 73) rfl (g := 0) rfl (fun _ => rfl) ?_
 unfold s_l02Is at h
 refine zQ ?_
 refine zA (r := b false) rfl rfl rfl rfl rfl ?_
 refine zN ?_
 refine RunC.seq ?_
 obtain ⟨r1, hf1, h⟩ := obind_some h
 rcases bsel_some h with ⟨hc2, h⟩ | ⟨hc2, h⟩
 ·obtain ⟨x2, hx3, h⟩ := olet_some h
  rcases bsel_some h with ⟨hc4, h⟩ | ⟨hc4, h⟩
  ·obtain ⟨r3, hf5, h⟩ := obind_some h
   refine RunC.region_draw (Γ' := []) 34 mixed 
    (TR.l (r := ptr [i64 a0, i64 a1, sl a2.length (a2.map f32)]) rfl rfl (LOp.move rfl rfl) <|
    (TR.l (r := ptr [i64 a0, i64 a1, sl a2.length (a2.map f32)]) rfl rfl (LOp.nilCheck_ptr rfl rfl) <|
    (TR.l (r := ptr [i64 a0, i64 a1, sl a2.length (a2.map f32)]) rfl rfl (LOp.fap und45 rfl siz2 rfl rfl rfl) <|
    (TR.l (r := i64 a0) rfl rfl (LOp.load1 agg2 rfl rfl) <|
    (TR.l (r := ptr [i64 a0, i64 a1, sl a2.length (a2.map f32)]) rfl rfl (LOp.move rfl rfl) <|
    (TR.l (r := ptr [i64 a0, i64 a1, sl a2.length (a2.map f32)]) rfl rfl (LOp.nilCheck_ptr rfl rfl) <|
    (TR.l (r := ptr [i64 a1, sl a2.length (a2.map f32)]) rfl rfl (LOp.fap und45 rfl siz2 rfl rfl rfl) <|
    (TR.l (r := i64 a1) rfl rfl (LOp.load1 agg2 rfl rfl) <|
    (TR.d (r := b true) (fs := []) rfl rfl (TOp.eqb (TOp.callB (CallAs.func ent112 rfl rfl) (Bors.cons (Bor.pure rfl) (Bors.cons (Bor.pure rfl) Bors.nil)) rfl rfl (s_l02Sides_ok a0 a1 r1 hf1)) hc2) <|
    (TR.l (r := b true) rfl rfl (LOp.move rfl rfl) <|
    (TR.l (r := ptr [i64 a0, i64 a1, sl a2.length (a2.map f32)]) rfl rfl (LOp.move rfl rfl) <|
    (TR.l (r := ptr [i64 a0, i64 a1, sl a2.length (a2.map f32)]) rfl rfl (LOp.nilCheck_ptr rfl rfl) <|
    (TR.l (r := ptr [sl a2.length (a2.map f32)]) rfl rfl (LOp.fap und45 rfl siz23 rfl rfl rfl) <|
    (TR.l (r := sl a2.length (a2.map f32)) rfl rfl (LOp.load1 agg23 rfl rfl) <|
    (TR.l (r := i64 (a2.length : Int)) rfl rfl (LOp.len_sl und23 rfl rfl) <|
    (TR.l (r := ptr [i64 a0, i64 a1, sl a2.length (a2.map f32)]) rfl rfl (LOp.move rfl rfl) <|
    (TR.l (r := ptr [i64 a0, i64 a1, sl a2.length (a2.map f32)]) rfl rfl (LOp.nilCheck_ptr rfl rfl) <|
    (TR.l (r := ptr [i64 a0, i64 a1, sl a2.length (a2.map f32)]) rfl rfl (LOp.fap und45 rfl siz2 rfl rfl rfl) <|
    (TR.l (r := i64 a0) rfl rfl (LOp.load1 agg2 rfl rfl) <|
    (TR.l (r := ptr [i64 a0, i64 a1, sl a2.length (a2.map f32)]) rfl rfl (LOp.move rfl rfl) <|
    (TR.l (r := ptr [i64 a0, i64 a1, sl a2.length (a2.map f32)]) rfl rfl (LOp.nilCheck_ptr rfl rfl) <|
    (TR.l (r := ptr [i64 a1, sl a2.length (a2.map f32)]) rfl rfl (LOp.fap und45 rfl siz2 rfl rfl rfl) <|
    (TR.l (r := i64 a1) rfl rfl (LOp.load1 agg2 rfl rfl) <|
    (TR.l (r := i64 x2) rfl rfl (LOp.eqr (LOp.mul rfl rfl rfl) (congrArg (ik .i64) hx3)) <|
    (TR.l (r := b true) rfl rfl (LOp.eqb (LOp.eql rfl rfl rfl) hc4) <|
    (TR.l (r := b true) rfl rfl (LOp.pick_true rfl rfl rfl) <|
    (TR.l (r := b true) rfl rfl (LOp.move rfl rfl) <|
    (TR.l (r := ptr [i64 a0, i64 a1, sl a2.length (a2.map f32)]) rfl rfl (LOp.move rfl rfl) <|
    (TR.l (r := ptr [i64 a0, i64 a1, sl a2.length (a2.map f32)]) rfl rfl (LOp.nilCheck_ptr rfl rfl) <|
    (TR.l (r := ptr [sl a2.length (a2.map f32)]) rfl rfl (LOp.fap und45 rfl siz23 rfl rfl rfl) <|
    (TR.l (r := sl a2.length (a2.map f32)) rfl rfl (LOp.load1 agg23 rfl rfl) <|
    (TR.d (r := b r3) (fs := []) rfl rfl (TOp.callB (CallAs.func ent78 rfl rfl) (Bors.cons (Bor.sl (fun _ => rfl)) Bors.nil) rfl rfl (s_l02Finite_ok a2 r3 hf5)) <|
    (TR.l (r := b r3) rfl rfl (LOp.pick_true rfl rfl rfl) <|
    (TR.l (r := b r3) rfl rfl (LOp.assign rfl rfl) <|
    TR.nil)))))))))))))))))))))))))))))))))) rfl (by kernel_rfl) rfl fills_nil rfl ?_
   iterate 34 refine ROps.dropS ?_
   refine ROps.drop0 ?_
   refine zN ?_
   refine RunC.ret ?_
   have hq := Option.some.inj h
   subst q0
   exact bodyQ.pure (.inr rfl) rfl (Res.one rfl (RV.tmp rfl))
  ·refine RunC.region_draw (Γ' := []) 34 mixed 
    (TR.l (r := ptr [i64 a0, i64 a1, sl a2.length (a2.map f32)]) rfl rfl (LOp.move rfl rfl) <|
    (TR.l (r := ptr [i64 a0, i64 a1, sl a2.length (a2.map f32)]) rfl rfl (LOp.nilCheck_ptr rfl rfl) <|
    (TR.l (r := ptr [i64 a0, i64 a1, sl a2.length (a2.map f32)]) rfl rfl (LOp.fap und45 rfl siz2 rfl rfl rfl) <|
    (TR.l (r := i64 a0) rfl rfl (LOp.load1 agg2 rfl rfl) <|
    (TR.l (r := ptr [i64 a0, i64 a1, sl a2.length (a2.map f32)]) rfl rfl (LOp.move rfl rfl) <|
    (TR.l (r := ptr [i64 a0, i64 a1, sl a2.length (a2.map f32)]) rfl rfl (LOp.nilCheck_ptr rfl rfl) <|
    (TR.l (r := ptr [i64 a1, sl a2.length (a2.map f32)]) rfl rfl (LOp.fap und45 rfl siz2 rfl rfl rfl) <|
    (TR.l (r := i64 a1) rfl rfl (LOp.load1 agg2 rfl rfl) <|
    (TR.d (r := b true) (fs := []) rfl rfl (TOp.eqb (TOp.callB (CallAs.func ent112 rfl rfl) (Bors.cons (Bor.pure rfl) (Bors.cons (Bor.pure rfl) Bors.nil)) rfl rfl (s_l02Sides_ok a0 a1 r1 hf1)) hc2) <|
    (TR.l (r := b true) rfl rfl (LOp.move rfl rfl) <|
    (TR.l (r := ptr [i64 a0, i64 a1, sl a2.length (a2.map f32)]) rfl rfl (LOp.move rfl rfl) <|
    (TR.l (r := ptr [i64 a0, i64 a1, sl a2.length (a2.map f32)]) rfl rfl (LOp.nilCheck_ptr rfl rfl) <|
    (TR.l (r := ptr [sl a2.length (a2.map f32)]) rfl rfl (LOp.fap und45 rfl siz23 rfl rfl rfl) <|
    (TR.l (r := sl a2.length (a2.map f32)) rfl rfl (LOp.load1 agg23 rfl rfl) <|
    (TR.l (r := i64 (a2.length : Int)) rfl rfl (LOp.len_sl und23 rfl rfl) <|
    (TR.l (r := ptr [i64 a0, i64 a1, sl a2.length (a2.map f32)]) rfl rfl (LOp.move rfl rfl) <|
    (TR.l (r := ptr [i64 a0, i64 a1, sl a2.length (a2.map f32)]) rfl rfl (LOp.nilCheck_ptr rfl rfl) <|
    (TR.l (r := ptr [i64 a0, i64 a1, sl a2.length (a2.map f32)]) rfl rfl (LOp.fap und45 rfl siz2 rfl rfl rfl) <|
    (TR.l (r := i64 a0) rfl rfl (LOp.load1 agg2 rfl rfl) <|
    (TR.l (r := ptr [i64 a0, i64 a1, sl a2.length (a2.map f32)]) rfl rfl (LOp.move rfl rfl) <|
    (TR.l (r := ptr [i64 a0, i64 a1, sl a2.length (a2.map f32)]) rfl rfl (LOp.nilCheck_ptr rfl rfl) <|
    (TR.l (r := ptr [i64 a1, sl a2.length (a2.map f32)]) rfl rfl (LOp.fap und45 rfl siz2 rfl rfl rfl) <|
    (TR.l (r := i64 a1) rfl rfl (LOp.load1 agg2 rfl rfl) <|
    (TR.l (r := i64 x2) rfl rfl (LOp.eqr (LOp.mul rfl rfl rfl) (congrArg (ik .i64) hx3)) <|
    (TR.l (r := b false) rfl rfl (LOp.eqb (LOp.eql rfl rfl rfl) hc4) <|
    (TR.l (r := b false) rfl rfl (LOp.pick_true rfl rfl rfl) <|
    (TR.l (r := b false) rfl rfl (LOp.move rfl rfl) <|
    (TR.s rfl rfl <|
    (TR.s rfl rfl <|
    (TR.s rfl rfl <|
    (TR.s rfl rfl <|
    (TR.s rfl rfl <|
    (TR.l (r := b false) rfl rfl (LOp.pick_false rfl rfl rfl) <|
    (TR.l (r := b false) rfl rfl (LOp.assign rfl rfl) <|
    TR.nil)))))))))))))))))))))))))))))))))) rfl (by kernel_rfl) rfl fills_nil rfl ?_
   iterate 34 refine ROps.dropS ?_
   refine ROps.drop0 ?_
   refine zN ?_
   refine RunC.ret ?_
   have hq := Option.some.inj h
   subst q0
   exact bodyQ.pure (.inr rfl) rfl (Res.one rfl (RV.tmp rfl))
 ·refine RunC.region_draw (Γ' := []) 34 mixed 
   (TR.l (r := ptr [i64 a0, i64 a1, sl a2.length (a2.map f32)]) rfl rfl (LOp.move rfl rfl) <|
   (TR.l (r := ptr [i64 a0, i64 a1, sl a2.length (a2.map f32)]) rfl rfl (LOp.nilCheck_ptr rfl rfl) <|
   (TR.l (r := ptr [i64 a0, i64 a1, sl a2.length (a2.map f32)]) rfl rfl (LOp.fap und45 rfl siz2 rfl rfl rfl) <|
   (TR.l (r := i64 a0) rfl rfl (LOp.load1 agg2 rfl rfl) <|
   (TR.l (r := ptr [i64 a0, i64 a1, sl a2.length (a2.map f32)]) rfl rfl (LOp.move rfl rfl) <|
   (TR.l (r := ptr [i64 a0, i64 a1, sl a2.length (a2.map f32)]) rfl rfl (LOp.nilCheck_ptr rfl rfl) <|
   (TR.l (r := ptr [i64 a1, sl a2.length (a2.map f32)]) rfl rfl (LOp.fap und45 rfl siz2 rfl rfl rfl) <|
   (TR.l (r := i64 a1) rfl rfl (LOp.load1 agg2 rfl rfl) <|
   (TR.d (r := b false) (fs := []) rfl rfl (TOp.eqb (TOp.callB (CallAs.func ent112 rfl rfl) (Bors.cons (Bor.pure rfl) (Bors.cons (Bor.pure rfl) Bors.nil)) rfl rfl (s_l02Sides_ok a0 a1 r1 hf1)) hc2) <|
   (TR.l (r := b false) rfl rfl (LOp.move rfl rfl) <|
   (TR.s rfl rfl <|
   (TR.s rfl rfl <|
   (TR.s rfl rfl <|
   (TR.s rfl rfl <|
   (TR.s rfl rfl <|
   (TR.s rfl rfl <|
   (TR.s rfl rfl <|
   (TR.s rfl rfl <|
   (TR.s rfl rfl <|
   (TR.s rfl rfl <|
   (TR.s rfl rfl <|
   (TR.s rfl rfl <|
   (TR.s rfl rfl <|
   (TR.s rfl rfl <|
   (TR.s rfl rfl <|
   (TR.l (r := b false) rfl rfl (LOp.pick_false rfl rfl rfl) <|
   (TR.l (r := b false) rfl rfl (LOp.move rfl rfl) <|
   (TR.s rfl rfl <|
   (TR.s rfl rfl <|
   (TR.s rfl rfl <|
   (TR.s rfl rfl <|
   (TR.s rfl rfl <|
   (TR.l (r := b false) rfl rfl (LOp.pick_false rfl rfl rfl) <|
   (TR.l (r := b false) rfl rfl (LOp.assign rfl rfl) <|
   TR.nil)))))))))))))))))))))))))))))))))) rfl (by kernel_rfl) rfl fills_nil rfl ?_
  iterate 34 refine ROps.dropS ?_
  refine ROps.drop0 ?_
  refine zN ?_
  refine RunC.ret ?_
  have hq := Option.some.inj h
  subst q0
  exact bodyQ.pure (.inr rfl) rfl (Res.one rfl (RV.tmp rfl))
noncomputable def s_l02Square (a0 : Int) (a1 : Int) (a2 : List F) : Option (Bool) :=
 obind (s_l02Is a0 a1 a2) fun (r1 : Bool) =>
 bsel r1 (
  some (decide (a0 = a1))) (
  some false)
theorem s_l02Square_ok (a0 : Int) (a1 : Int) (a2 : List F) (q0 : Bool) (h : s_l02Square a0 a1 a2 = some q0) : Ev Try.prog 110 [ptr [i64 a0, i64 a1, sl a2.length (a2.map f32)]] [] (b q0) [] := by
 refine Ev.start Try.func110 rfl rfl 0 (τ := [(0, ptr [i64 a0, i64 a1, sl a2.length (a2.map f32)])]) rfl (Γ' := []) rfl (n := 33) rfl (g := 0) rfl (fun _ => rfl) ?_
 unfold s_l02Square at h
 refine zQ ?_
 refine zA (r := b false) rfl rfl rfl rfl rfl ?_
 refine zN ?_
 refine RunC.seq ?_
 obtain ⟨r1, hf1, h⟩ := obind_some h
 rcases bsel_some h with ⟨hc2, h⟩ | ⟨hc2, h⟩
 ·refine RunC.region_draw (Γ' := []) 14 mixed 
   (TR.l (r := ptr [i64 a0, i64 a1, sl a2.length (a2.map f32)]) rfl rfl (LOp.move rfl rfl) <|
   (TR.d (r := b true) (fs := []) rfl rfl (TOp.eqb (TOp.callB (CallAs.func ent64 rfl rfl) (Bors.cons (Bor.ptr (Bors.cons (Bor.pure rfl) (Bors.cons (Bor.pure rfl) (Bors.cons (Bor.sl (fun _ => rfl)) Bors.nil)))) Bors.nil) rfl rfl (s_l02Is_ok a0 a1 a2 r1 hf1)) hc2) <|
   (TR.l (r := b true) rfl rfl (LOp.move rfl rfl) <|
   (TR.l (r := ptr [i64 a0, i64 a1, sl a2.length (a2.map f32)]) rfl rfl (LOp.move rfl rfl) <|
   (TR.l (r := ptr [i64 a0, i64 a1, sl a2.length (a2.map f32)]) rfl rfl (LOp.nilCheck_ptr rfl rfl) <|
   (TR.l (r := ptr [i64 a0, i64 a1, sl a2.length (a2.map f32)]) rfl rfl (LOp.fap und45 rfl siz2 rfl rfl rfl) <|
   (TR.l (r := i64 a0) rfl rfl (LOp.load1 agg2 rfl rfl) <|
   (TR.l (r := ptr [i64 a0, i64 a1, sl a2.length (a2.map f32)]) rfl rfl (LOp.move rfl rfl) <|
   (TR.l (r := ptr [i64 a0, i64 a1, sl a2.length (a2.map f32)]) rfl rfl (LOp.nilCheck_ptr rfl rfl) <|
   (TR.l (r := ptr [i64 a1, sl a2.length (a2.map f32)]) rfl rfl (LOp.fap und45 rfl siz2 rfl rfl rfl) <|
   (TR.l (r := i64 a1) rfl rfl (LOp.load1 agg2 rfl rfl) <|
   (TR.l (r := b (decide (a0 = a1))) rfl rfl (LOp.eql rfl rfl rfl) <|
   (TR.l (r := b (decide (a0 = a1))) rfl rfl (LOp.pick_true rfl rfl rfl) <|
   (TR.l (r := b (decide (a0 = a1))) rfl rfl (LOp.assign rfl rfl) <|
   TR.nil)))))))))))))) rfl (by kernel_rfl) rfl fills_nil rfl ?_
  iterate 14 refine ROps.dropS ?_
  refine ROps.drop0 ?_
  refine zN ?_
  refine RunC.ret ?_
  have hq := Option.some.inj h
  subst q0
  exact bodyQ.pure (.inr rfl) rfl (Res.one rfl (RV.tmp rfl))
 ·refine RunC.region_draw (Γ' := []) 14 mixed 
   (TR.l (r := ptr [i64 a0, i64 a1, sl a2.length (a2.map f32)]) rfl rfl (LOp.move rfl rfl) <|
   (TR.d (r := b false) (fs := []) rfl rfl (TOp.eqb (TOp.callB (CallAs.func ent64 rfl rfl) (Bors.cons (Bor.ptr (Bors.cons (Bor.pure rfl) (Bors.cons (Bor.pure rfl) (Bors.cons (Bor.sl (fun _ => rfl)) Bors.nil)))) Bors.nil) rfl rfl (s_l02Is_ok a0 a1 a2 r1 hf1)) hc2) <|
   (TR.l (r := b false) rfl rfl (LOp.move rfl rfl) <|
   (TR.s rfl rfl <|
   (TR.s rfl rfl <|
   (TR.s rfl rfl <|
   (TR.s rfl rfl <|
   (TR.s rfl rfl <|
   (TR.s rfl rfl <|
   (TR.s rfl rfl <|
   (TR.s rfl rfl <|
   (TR.s rfl rfl <|
   (TR.l (r := b false) rfl rfl (LOp.pick_false rfl rfl rfl) <|
   (TR.l (r := b false) rfl rfl (LOp.assign rfl rfl) <|
   TR.nil)))))))))))))) rfl (by kernel_rfl) rfl fills_nil rfl ?_
  iterate 14 refine ROps.dropS ?_
  refine ROps.drop0 ?_
  refine zN ?_
  refine RunC.ret ?_
  have hq := Option.some.inj h
  subst q0
  exact bodyQ.pure (.inr rfl) rfl (Res.one rfl (RV.tmp rfl))
noncomputable def s_l02At (a0 : Int) (a1 : Int) (a2 : List F) (a3 : Int) (a4 : Int) : Option (F) :=
 olet (IntKind.i64.wrap (a3 * a1)) fun (x1 : Int) =>
 olet (IntKind.i64.wrap (x1 + a4)) fun (x2 : Int) =>
 obind (at? a2 x2) fun (e3 : F) =>
 some e3
theorem s_l02At_ok (a0 : Int) (a1 : Int) (a2 : List F) (a3 : Int) (a4 : Int) (q0 : F) (h : s_l02At a0 a1 a2 a3 a4 = some q0) : Ev Try.prog 65 [ptr [i64 a0, i64 a1, sl a2.length (a2.map f32)], i64 a3, i64 a4] [] (f32 q0) [] := by
 refine Ev.start Try.func65 rfl rfl 0 (τ := [(0, ptr [i64 a0, i64 a1, sl a2.length (a2.map f32)]), (1, i64 a3), (2, i64 a4)]) rfl (Γ' := []) rfl (n := 43) rfl (g := 0) rfl (fun _ => rfl) ?_
 unfold s_l02At at h
 refine zQ ?_
 refine zL (r := f32 (some 0)) rfl rfl rfl (LOp.le (LOp.assign rfl rfl) (ALe.fl (by kernel_rfl) (by kernel_rfl))) ?_
 refine zN ?_
 refine RunC.seq ?_
 obtain ⟨x1, hx1, h⟩ := olet_some h
 obtain ⟨x2, hx2, h⟩ := olet_some h
 obtain ⟨e3, he3, h⟩ := obind_some h
 refine RunC.region_draw (Γ' := []) 15 mixed 
  (TR.l (r := ptr [i64 a0, i64 a1, sl a2.length (a2.map f32)]) rfl rfl (LOp.move rfl rfl) <|
  (TR.l (r := ptr [i64 a0, i64 a1, sl a2.length (a2.map f32)]) rfl rfl (LOp.nilCheck_ptr rfl rfl) <|
  (TR.l (r := ptr [sl a2.length (a2.map f32)]) rfl rfl (LOp.fap und45 rfl siz23 rfl rfl rfl) <|
  (TR.l (r := sl a2.length (a2.map f32)) rfl rfl (LOp.load1 agg23 rfl rfl) <|
  (TR.l (r := i64 a3) rfl rfl (LOp.move rfl rfl) <|
  (TR.l (r := ptr [i64 a0, i64 a1, sl a2.length (a2.map f32)]) rfl rfl (LOp.move rfl rfl) <|
  (TR.l (r := ptr [i64 a0, i64 a1, sl a2.length (a2.map f32)]) rfl rfl (LOp.nilCheck_ptr rfl rfl) <|
  (TR.l (r := ptr [i64 a1, sl a2.length (a2.map f32)]) rfl rfl (LOp.fap und45 rfl siz2 rfl rfl rfl) <|
  (TR.l (r := i64 a1) rfl rfl (LOp.load1 agg2 rfl rfl) <|
  (TR.l (r := i64 x1) rfl rfl (LOp.eqr (LOp.mul rfl rfl rfl) (congrArg (ik .i64) hx1)) <|
  (TR.l (r := i64 a4) rfl rfl (LOp.move rfl rfl) <|
  (TR.l (r := i64 x2) rfl rfl (LOp.eqr (LOp.add rfl rfl rfl) (congrArg (ik .i64) hx2)) <|
  (TR.l (r := ptr [f32 e3]) rfl rfl (LOp.le (LOp.ix (f := f32) und23 siz26 rfl rfl rfl rfl he3) ALe.ptr) <|
  (TR.l (r := f32 e3) rfl rfl (LOp.load1 agg26 rfl rfl) <|
  (TR.l (r := f32 e3) rfl rfl (LOp.assign rfl rfl) <|
  TR.nil))))))))))))))) rfl (by kernel_rfl) rfl fills_nil rfl ?_
 iterate 15 refine ROps.dropS ?_
 refine ROps.drop0 ?_
 refine zN ?_
 refine RunC.ret ?_
 have hq := Option.some.inj h
 subst q0
 exact bodyQ.pure (.inr rfl) rfl (Res.one rfl (RV.tmp rfl))
noncomputable def s_l04Symmetric_b2 (a0 : Int) (a1 : Int) (a2 : List F) (v2 : Int) (v3 : Int) : Option (LR (Int) (Unit) (Bool)) :=
 bsel (decide (v3 < v2)) (
  obind (s_l02At a0 a1 a2 v2 v3) fun (r4 : F) =>
  obind (s_l02At a0 a1 a2 v3 v2) fun (r5 : F) =>
  bsel (!feq .f32 r4 r5) (
   some (LR.ret false)) (
   olet (IntKind.i64.wrap (v3 + 1)) fun (x6 : Int) =>
   some (LR.next x6))) (
  some (LR.out ()))
noncomputable def s_l04Symmetric_s2 (a0 : Int) (a1 : Int) (a2 : List F) (v2 : Int) : (Int) → Option (LR (Int) (Unit) (Bool)) := fun s => s_l04Symmetric_b2 a0 a1 a2 v2 s
noncomputable def s_l04Symmetric_k2 (v2 : Int) : Option (LR (Int) (Unit) (Bool)) :=
 olet (IntKind.i64.wrap (v2 + 1)) fun (x7 : Int) =>
 some (LR.next x7)
noncomputable def s_l04Symmetric_b3 (a0 : Int) (a1 : Int) (a2 : List F) (v2 : Int) : Option (LR (Int) (Unit) (Bool)) :=
 bsel (decide (v2 < a0)) (
  obind (loopM (s_l04Symmetric_s2 a0 a1 a2 v2) 0) fun z => osum z (fun e => s_l04Symmetric_k2 v2) (fun r => some (LR.ret r))) (
  some (LR.out ()))
noncomputable def s_l04Symmetric_s3 (a0 : Int) (a1 : Int) (a2 : List F) : (Int) → Option (LR (Int) (Unit) (Bool)) := fun s => s_l04Symmetric_b3 a0 a1 a2 s
noncomputable def s_l04Symmetric_k3  : Option (Bool) :=
 some true
noncomputable def s_l04Symmetric (a0 : Int) (a1 : Int) (a2 : List F) : Option (Bool) :=
 obind (s_l02Square a0 a1 a2) fun (r1 : Bool) =>
 bsel r1 (
  obind (loopM (s_l04Symmetric_s3 a0 a1 a2) 0) fun z => osum z (fun _ => s_l04Symmetric_k3) (fun r => some r)) (
  some false)
theorem s_l04Symmetric_ok (a0 : Int) (a1 : Int) (a2 : List F) (q0 : Bool) (h : s_l04Symmetric a0 a1 a2 = some q0) : Ev Try.prog 57 [ptr [i64 a0, i64 a1, sl a2.length (a2.map f32)]] [] (b q0) [] := by
 refine Ev.start Try.func57 rfl rfl 0 (τ := [(0, ptr [i64 a0, i64 a1, sl a2.length (a2.map f32)])]) rfl (Γ' := []) rfl (n := 61) rfl (g := 0) rfl (fun _ => rfl) ?_
 unfold s_l04Symmetric at h
 refine zQ ?_
 refine zA (r := b false) rfl rfl rfl rfl rfl ?_
 refine zN ?_
 refine RunC.seq ?_
 refine RunC.seq ?_
 obtain ⟨r1, hf1, h⟩ := obind_some h
 rcases bsel_some h with ⟨hc2, h⟩ | ⟨hc2, h⟩
 ·refine RunC.regionW ?_
  refine zM (r := ptr [i64 a0, i64 a1, sl a2.length (a2.map f32)]) rfl rfl rfl rfl rfl ?_
  refine ROps.d (r := b true) (fs := []) (Γ' := []) rfl rfl rfl (TOp.eqb (TOp.callB (CallAs.func ent110 rfl rfl) (Bors.cons (Bor.ptr (Bors.cons (Bor.pure rfl) (Bors.cons (Bor.pure rfl) (Bors.cons (Bor.sl (fun _ => rfl)) Bors.nil)))) Bors.nil) rfl rfl (s_l02Square_ok a0 a1 a2 r1 hf1)) hc2) rfl ?_
  refine zL (r := b false) rfl rfl rfl (LOp.eqb (LOp.not rfl rfl) rfl) ?_
  refine zN ?_
  refine RunC.cond_false rfl rfl ?_
  refine RunC.skip ?_
  refine RunC.seq ?_
  refine zQ ?_
  refine zA (r := i64 0) rfl rfl rfl rfl rfl ?_
  refine zN ?_
  obtain ⟨z4, hz_4, h⟩ := obind_some h
  refine RunC.cutN (fun τ Γ => WeakLe τ [] ∧ DeadLe Γ [] ∧ z4 = .inl ()) ?_ ?_
  ·refine RunC.block (RunC.loop (RunL.loopM (x := z4) (s_l04Symmetric_s3 a0 a1 a2) (fun (s : Int) τ Γ => WeakLe τ [(0, ptr [i64 a0, i64 a1, sl a2.length (a2.map f32)]), (3, i64 s)] ∧ DeadLe Γ []) ?_ _ _ _ hz_4 ⟨⟨aR, aR, trivial⟩, trivial⟩))
   rintro v2 τ4 Γ4 y4_ ⟨hw4, hd4⟩ h4_ ho4 hr4
   refine RunC.wl (τ' := [(0, ptr [i64 a0, i64 a1, sl a2.length (a2.map f32)]), (3, i64 v2)]) (Γ' := []) hw4 hd4 ?_
   replace h4_ : s_l04Symmetric_b3 a0 a1 a2 v2 = some y4_ := h4_
   unfold s_l04Symmetric_b3 at h4_
   refine RunC.seq ?_
   refine RunC.seq ?_
   rcases bsel_some h4_ with ⟨hc3, h4_⟩ | ⟨hc3, h4_⟩
   ·refine RunC.regionW ?_
    refine zM (r := i64 v2) rfl rfl rfl rfl rfl ?_
    refine zM (r := ptr [i64 a0, i64 a1, sl a2.length (a2.map f32)]) rfl rfl rfl rfl rfl ?_
    refine zL (r := ptr [i64 a0, i64 a1, sl a2.length (a2.map f32)]) rfl rfl rfl (LOp.nilCheck_ptr rfl rfl) ?_
    refine zL (r := ptr [i64 a0, i64 a1, sl a2.length (a2.map f32)]) rfl rfl rfl (LOp.fap und45 rfl siz2 rfl rfl rfl) ?_
    refine zL (r := i64 a0) rfl rfl rfl (LOp.load1 agg2 rfl rfl) ?_
    refine zL (r := b true) rfl rfl rfl (LOp.eqb (LOp.lss rfl rfl rfl) hc3) ?_
    refine zN ?_
    refine RunC.cond_true rfl rfl ?_
    refine RunC.skip ?_
    refine RunC.seq ?_
    refine RunC.block ?_
    refine zQ ?_
    refine zA (r := i64 0) rfl rfl rfl rfl rfl ?_
    refine zN ?_
    obtain ⟨z5, hz_5, h4_⟩ := obind_some h4_
    refine RunC.cutN (fun τ Γ => WeakLe τ [(0, ptr [i64 a0, i64 a1, sl a2.length (a2.map f32)]), (3, i64 v2)] ∧ DeadLe Γ [] ∧ z5 = .inl ()) ?_ ?_
    ·refine RunC.block (RunC.loop (RunL.loopM (x := z5) (s_l04Symmetric_s2 a0 a1 a2 v2) (fun (s : Int) τ Γ => WeakLe τ [(0, ptr [i64 a0, i64 a1, sl a2.length (a2.map f32)]), (3, i64 v2), (4, i64 s)] ∧ DeadLe Γ []) ?_ _ _ _ hz_5 ⟨⟨aR, aR, aR, trivial⟩, trivial⟩))
     rintro v3 τ5 Γ5 y5_ ⟨hw5, hd5⟩ h5_ ho5 hr5
     refine RunC.wl (τ' := [(0, ptr [i64 a0, i64 a1, sl a2.length (a2.map f32)]), (3, i64 v2), (4, i64 v3)]) (Γ' := []) hw5 hd5 ?_
     replace h5_ : s_l04Symmetric_b2 a0 a1 a2 v2 v3 = some y5_ := h5_
     unfold s_l04Symmetric_b2 at h5_
     refine RunC.seq ?_
     refine RunC.seq ?_
     rcases bsel_some h5_ with ⟨hc4, h5_⟩ | ⟨hc4, h5_⟩
     ·refine RunC.regionW ?_
      refine zM (r := i64 v3) rfl rfl rfl rfl rfl ?_
      refine zM (r := i64 v2) rfl rfl rfl rfl rfl ?_
      refine zL (r := b true) rfl rfl rfl (LOp.eqb (LOp.lss rfl rfl rfl) hc4) ?_
      refine zN ?_
      refine RunC.cond_true rfl rfl ?_
      refine RunC.skip ?_
      refine RunC.seq ?_
      refine RunC.block ?_
      refine RunC.seq ?_
      obtain ⟨r4, hf5, h5_⟩ := obind_some h5_
      obtain ⟨r5, hf6, h5_⟩ := obind_some h5_
      rcases bsel_some h5_ with ⟨hc7, h5_⟩ | ⟨hc7, h5_⟩
      ·refine RunC.regionW ?_
       refine zM (r := ptr [i64 a0, i64 a1, sl a2.length (a2.map f32)]) rfl rfl rfl rfl rfl ?_
       refine zM (r := i64 v2) rfl rfl rfl rfl rfl ?_
       refine zM (r := i64 v3) rfl rfl rfl rfl rfl ?_
       refine ROps.d (r := f32 r4) (fs := []) (Γ' := []) rfl rfl rfl (TOp.callB (CallAs.func ent65 rfl rfl) (Bors.cons (Bor.ptr (Bors.cons (Bor.pure rfl) (Bors.cons (Bor.pure rfl) (Bors.cons (Bor.sl (fun _ => rfl)) Bors.nil)))) (Bors.cons (Bor.pure rfl) (Bors.cons (Bor.pure rfl) Bors.nil))) rfl rfl (s_l02At_ok a0 a1 a2 v2 v3 r4 hf5)) rfl ?_
       refine zM (r := ptr [i64 a0, i64 a1, sl a2.length (a2.map f32)]) rfl rfl rfl rfl rfl ?_
       refine zM (r := i64 v3) rfl rfl rfl rfl rfl ?_
       refine zM (r := i64 v2) rfl rfl rfl rfl rfl ?_
       refine ROps.d (r := f32 r5) (fs := []) (Γ' := []) rfl rfl rfl (TOp.callB (CallAs.func ent65 rfl rfl) (Bors.cons (Bor.ptr (Bors.cons (Bor.pure rfl) (Bors.cons (Bor.pure rfl) (Bors.cons (Bor.sl (fun _ => rfl)) Bors.nil)))) (Bors.cons (Bor.pure rfl) (Bors.cons (Bor.pure rfl) Bors.nil))) rfl rfl (s_l02At_ok a0 a1 a2 v3 v2 r5 hf6)) rfl ?_
       refine zL (r := b true) rfl rfl rfl (LOp.eqb (LOp.fne rfl (OpF.tmp rfl) (OpF.tmp rfl)) hc7) ?_
       refine zN ?_
       refine RunC.cond_true rfl rfl ?_
       refine zQ ?_
       refine zA (r := b false) rfl rfl rfl rfl rfl ?_
       refine zN ?_
       refine RunC.ret ?_
       cases Option.some.inj h5_
       have hx6_ := hr5 _ rfl
       subst hx6_
       cases Option.some.inj h4_
       have hx7_ := hr4 _ rfl
       subst hx7_
       have hq := Option.some.inj h
       subst q0
       exact bodyQ.pure (.inr rfl) rfl (Res.one rfl (RV.tmp rfl))
      ·refine RunC.regionW ?_
       refine zM (r := ptr [i64 a0, i64 a1, sl a2.length (a2.map f32)]) rfl rfl rfl rfl rfl ?_
       refine zM (r := i64 v2) rfl rfl rfl rfl rfl ?_
       refine zM (r := i64 v3) rfl rfl rfl rfl rfl ?_
       refine ROps.d (r := f32 r4) (fs := []) (Γ' := []) rfl rfl rfl (TOp.callB (CallAs.func ent65 rfl rfl) (Bors.cons (Bor.ptr (Bors.cons (Bor.pure rfl) (Bors.cons (Bor.pure rfl) (Bors.cons (Bor.sl (fun _ => rfl)) Bors.nil)))) (Bors.cons (Bor.pure rfl) (Bors.cons (Bor.pure rfl) Bors.nil))) rfl rfl (s_l02At_ok a0 a1 a2 v2 v3 r4 hf5)) rfl ?_
       refine zM (r := ptr [i64 a0, i64 a1, sl a2.length (a2.map f32)]) rfl rfl rfl rfl rfl ?_
       refine zM (r := i64 v3) rfl rfl rfl rfl rfl ?_
       refine zM (r := i64 v2) rfl rfl rfl rfl rfl ?_
       refine ROps.d (r := f32 r5) (fs := []) (Γ' := []) rfl rfl rfl (TOp.callB (CallAs.func ent65 rfl rfl) (Bors.cons (Bor.ptr (Bors.cons (Bor.pure rfl) (Bors.cons (Bor.pure rfl) (Bors.cons (Bor.sl (fun _ => rfl)) Bors.nil)))) (Bors.cons (Bor.pure rfl) (Bors.cons (Bor.pure rfl) Bors.nil))) rfl rfl (s_l02At_ok a0 a1 a2 v3 v2 r5 hf6)) rfl ?_
       refine zL (r := b false) rfl rfl rfl (LOp.eqb (LOp.fne rfl (OpF.tmp rfl) (OpF.tmp rfl)) hc7) ?_
       refine zN ?_
       refine RunC.cond_false rfl rfl ?_
       refine RunC.skip ?_
       obtain ⟨x6, hx8, h5_⟩ := olet_some h5_
       refine RunC.regionW ?_
       refine zM (r := i64 v3) rfl rfl rfl rfl rfl ?_
       refine zL (r := i64 x6) rfl rfl rfl (LOp.eqr (LOp.add rfl rfl rfl) (congrArg (ik .i64) hx8)) ?_
       refine zA (r := i64 x6) rfl rfl rfl rfl rfl ?_
       refine zN ?_
       cases Option.some.inj h5_
       exact ⟨_, rfl, ⟨aR, aR, aR, trivial⟩, trivial⟩
     ·refine RunC.regionW ?_
      refine zM (r := i64 v3) rfl rfl rfl rfl rfl ?_
      refine zM (r := i64 v2) rfl rfl rfl rfl rfl ?_
      refine zL (r := b false) rfl rfl rfl (LOp.eqb (LOp.lss rfl rfl rfl) hc4) ?_
      refine zN ?_
      refine RunC.cond_false rfl rfl ?_
      refine RunC.exit ?_
      cases Option.some.inj h5_
      have hx := ho5 _ rfl
      exact ⟨⟨aR, aR, trivial⟩, trivial, hx⟩
    ·rintro τ8 Γ8 ⟨hw8, hd8, rfl⟩
     refine RunC.wl hw8 hd8 ?_
     replace h4_ : s_l04Symmetric_k2 v2 = some y4_ := h4_
     unfold s_l04Symmetric_k2 at h4_
     obtain ⟨x7, hx9, h4_⟩ := olet_some h4_
     refine RunC.regionW ?_
     refine zM (r := i64 v2) rfl rfl rfl rfl rfl ?_
     refine zL (r := i64 x7) rfl rfl rfl (LOp.eqr (LOp.add rfl rfl rfl) (congrArg (ik .i64) hx9)) ?_
     refine zA (r := i64 x7) rfl rfl rfl rfl rfl ?_
     refine zN ?_
     cases Option.some.inj h4_
     exact ⟨_, rfl, ⟨aR, aR, trivial⟩, trivial⟩
   ·refine RunC.regionW ?_
    refine zM (r := i64 v2) rfl rfl rfl rfl rfl ?_
    refine zM (r := ptr [i64 a0, i64 a1, sl a2.length (a2.map f32)]) rfl rfl rfl rfl rfl ?_
    refine zL (r := ptr [i64 a0, i64 a1, sl a2.length (a2.map f32)]) rfl rfl rfl (LOp.nilCheck_ptr rfl rfl) ?_
    refine zL (r := ptr [i64 a0, i64 a1, sl a2.length (a2.map f32)]) rfl rfl rfl (LOp.fap und45 rfl siz2 rfl rfl rfl) ?_
    refine zL (r := i64 a0) rfl rfl rfl (LOp.load1 agg2 rfl rfl) ?_
    refine zL (r := b false) rfl rfl rfl (LOp.eqb (LOp.lss rfl rfl rfl) hc3) ?_
    refine zN ?_
    refine RunC.cond_false rfl rfl ?_
    refine RunC.exit ?_
    cases Option.some.inj h4_
    have hx := ho4 _ rfl
    exact ⟨trivial, trivial, hx⟩
  ·rintro τ9 Γ9 ⟨hw9, hd9, rfl⟩
   refine RunC.wl hw9 hd9 ?_
   replace h : s_l04Symmetric_k3 = some q0 := h
   unfold s_l04Symmetric_k3 at h
   refine zQ ?_
   refine zA (r := b true) rfl rfl rfl rfl rfl ?_
   refine zN ?_
   refine RunC.ret ?_
   have hq := Option.some.inj h
   subst q0
   exact bodyQ.pure (.inr rfl) rfl (Res.one rfl (RV.tmp rfl))
 ·refine RunC.regionW ?_
  refine zM (r := ptr [i64 a0, i64 a1, sl a2.length (a2.map f32)]) rfl rfl rfl rfl rfl ?_
  refine ROps.d (r := b false) (fs := []) (Γ' := []) rfl rfl rfl (TOp.eqb (TOp.callB (CallAs.func ent110 rfl rfl) (Bors.cons (Bor.ptr (Bors.cons (Bor.pure rfl) (Bors.cons (Bor.pure rfl) (Bors.cons (Bor.sl (fun _ => rfl)) Bors.nil)))) Bors.nil) rfl rfl (s_l02Square_ok a0 a1 a2 r1 hf1)) hc2) rfl ?_
  refine zL (r := b true) rfl rfl rfl (LOp.eqb (LOp.not rfl rfl) rfl) ?_
  refine zN ?_
  refine RunC.cond_true rfl rfl ?_
  refine zQ ?_
  refine zA (r := b false) rfl rfl rfl rfl rfl ?_
  refine zN ?_
  refine RunC.ret ?_
  have hq := Option.some.inj h
  subst q0
  exact bodyQ.pure (.inr rfl) rfl (Res.one rfl (RV.tmp rfl))
noncomputable def s_l04Rounds (a0 : Int) : Option (Bool) :=
 obind (s_l00In a0 0 64) fun (r1 : Bool) =>
 some r1
theorem s_l04Rounds_ok (a0 : Int) (q0 : Bool) (h : s_l04Rounds a0 = some q0) : Ev Try.prog 58 [i64 a0] [] (b q0) [] := by
 refine Ev.start Try.func58 rfl rfl 0 (τ := [(0, i64 a0)]) rfl (Γ' := []) rfl (n := 11) rfl (g := 0) rfl (fun _ => rfl) ?_
 unfold s_l04Rounds at h
 refine zQ ?_
 refine zA (r := b false) rfl rfl rfl rfl rfl ?_
 refine zN ?_
 refine RunC.seq ?_
 obtain ⟨r1, hf1, h⟩ := obind_some h
 refine RunC.regionW ?_
 refine zM (r := i64 a0) rfl rfl rfl rfl rfl ?_
 refine ROps.d (r := b r1) (fs := []) (Γ' := []) rfl rfl rfl (TOp.callB (CallAs.func ent32 rfl rfl) (Bors.cons (Bor.pure rfl) (Bors.cons (Bor.pure rfl) (Bors.cons (Bor.pure rfl) Bors.nil))) rfl rfl (s_l00In_ok a0 0 64 r1 hf1)) rfl ?_
 refine zA (r := b r1) rfl rfl rfl rfl rfl ?_
 refine zN ?_
 refine RunC.ret ?_
 have hq := Option.some.inj h
 subst q0
 exact bodyQ.pure (.inr rfl) rfl (Res.one rfl (RV.tmp rfl))
noncomputable def s_l02Own (a0 : Int) (a1 : Int) (a2 : List F) : Option (Int × Int × (List F)) :=
 need (apok 4 0 a2.length) <|
 some (a0, a1, (([] : List F) ++ a2))
theorem s_l02Own_ok (a0 : Int) (a1 : Int) (a2 : List F) (q0 : Int) (q1 : Int) (q2 : List F) (h : s_l02Own a0 a1 a2 = some (q0, q1, q2)) : Ev Try.prog 59 [ptr [i64 a0, i64 a1, sl a2.length (a2.map f32)]] [] (agg [i64 q0, i64 q1, oref 0 0 0 q2.length]) [⟨0, some (q2.map f32)⟩] := by
 refine Ev.start Try.func59 rfl rfl 2 (τ := [(0, ptr [i64 a0, i64 a1, sl a2.length (a2.map f32)])]) rfl (Γ' := [⟨0, none⟩, ⟨0, none⟩]) rfl (n := 37) rfl (g := 0) rfl (fun _ => rfl) ?_
 unfold s_l02Own at h
 refine zQ ?_
 refine ROps.d (r := optr 0 1 0) (fs := [(0, [i64 0, i64 0, nilsl])]) (Γ' := [⟨1, some [i64 0, i64 0, nilsl]⟩, ⟨0, none⟩]) rfl rfl rfl (TOp.alloc_o (g := ⟨0, none⟩) 0 rfl zer45 zok45 rfl) rfl ?_
 refine zN ?_
 refine RunC.seq ?_
 obtain ⟨hm1, h⟩ := need_some h
 refine RunC.region_draw (Γ' := [⟨1, some [i64 0, i64 0, nilsl]⟩, ⟨1, some (([] : List F).map f32)⟩]) 13 mixed 
  (TR.loose (r := ptr [i64 a0, i64 a1, sl a2.length (a2.map f32)]) rfl rfl (LOp.move rfl rfl) <|
  (TR.loose (r := ptr [i64 a0, i64 a1, sl a2.length (a2.map f32)]) rfl rfl (LOp.nilCheck_ptr rfl rfl) <|
  (TR.loose (r := ptr [i64 a0, i64 a1, sl a2.length (a2.map f32)]) rfl rfl (LOp.fap und45 rfl siz2 rfl rfl rfl) <|
  (TR.loose (r := i64 a0) rfl rfl (LOp.load1 agg2 rfl rfl) <|
  (TR.loose (r := ptr [i64 a0, i64 a1, sl a2.length (a2.map f32)]) rfl rfl (LOp.move rfl rfl) <|
  (TR.loose (r := ptr [i64 a0, i64 a1, sl a2.length (a2.map f32)]) rfl rfl (LOp.nilCheck_ptr rfl rfl) <|
  (TR.loose (r := ptr [i64 a1, sl a2.length (a2.map f32)]) rfl rfl (LOp.fap und45 rfl siz2 rfl rfl rfl) <|
  (TR.loose (r := i64 a1) rfl rfl (LOp.load1 agg2 rfl rfl) <|
  (TR.d (r := oref 1 1 0 0) (fs := [(1, (([] : List F).map f32))]) rfl rfl (TOp.buildSlice_o (g := ⟨0, none⟩) (za := f32 (some 0)) (qs := []) 1 rfl und23 siz26 zer26 rfl zel26 rfl rfl trivial rfl) <|
  (TR.l (r := ptr [i64 a0, i64 a1, sl a2.length (a2.map f32)]) rfl rfl (LOp.move rfl rfl) <|
  (TR.l (r := ptr [i64 a0, i64 a1, sl a2.length (a2.map f32)]) rfl rfl (LOp.nilCheck_ptr rfl rfl) <|
  (TR.l (r := ptr [sl a2.length (a2.map f32)]) rfl rfl (LOp.fap und45 rfl siz23 rfl rfl rfl) <|
  (TR.l (r := sl a2.length (a2.map f32)) rfl rfl (LOp.load1 agg23 rfl rfl) <|
  TR.nil))))))))))))) rfl (by kernel_rfl) rfl (fills_of (by show List.Nodup [1]; decide) ⟨⟨_, rfl⟩, trivial⟩) rfl ?_
 iterate 13 refine ROps.dropS ?_
 refine ROps.drop0 ?_
 refine ROps.app (f := f32) (xs := ([] : List F)) (ys := a2) (Γ' := [⟨1, some [i64 0, i64 0, nilsl]⟩, ⟨2, some ((([] : List F) ++ a2).map f32)⟩]) rfl pun23 inf26 rfl rfl rfl rfl rfl rfl rfl rfl rfl (by simp) (ReadAs.sl (by simp)) (ones_map (fun _ => rfl)) (ap_by hm1) (ap_mx hm1) rfl ?_
 refine zL (r := agg [i64 a0, i64 a1, oref 1 2 0 (0 + a2.length)]) rfl rfl rfl (LOp.build (qs := [(0, [i64 a0]), (1, [i64 a1]), (2, [oref 1 2 0 (0 + a2.length)])]) zer45 zok45 und45 plc45 rfl ⟨rfl, ⟨_, ALe.refl _, rfl⟩, ⟨rfl, ⟨_, ALe.refl _, rfl⟩, ⟨rfl, ⟨_, ALe.refl _, rfl⟩, trivial⟩⟩⟩ rfl) ?_
 refine ROps.store_le (r := agg [i64 a0, i64 a1, oref 1 2 0 (0 + a2.length)]) (l' := [i64 a0, i64 a1, oref 1 2 0 (0 + a2.length)]) (Γ' := [⟨1, some [i64 a0, i64 a1, oref 1 2 0 (0 + a2.length)]⟩, ⟨2, some ((([] : List F) ++ a2).map f32)⟩]) rfl siz45 rfl rfl rfl aR rfl rfl rfl rfl (Nat.le_of_ble_eq_true rfl) rfl rfl ?_
 refine zN ?_
 refine RunC.ret ?_
 have hq := Option.some.inj h
 obtain ⟨hq0, hq⟩ := Prod.mk.inj hq
 obtain ⟨hq1, hq⟩ := Prod.mk.inj hq
 subst q0
 subst q1
 subst q2
 exact bodyQ.mk (r' := agg [i64 a0, i64 a1, oref 1 2 0 ((([] : List F) ++ a2).length)]) [(1, 2)] (.inr rfl) rfl (show List.Nodup [1] from by decide) rfl rfl (Res.eq (Res.one rfl (RV.cell agg45 siz45 rfl rfl rfl rfl)) (by rw [(show (([] : List F) ++ a2).length = (0 + a2.length) from (app_len rfl rfl))] <;> rfl)) (SelL.arr0 (f := f32) (fun _ => rfl) rfl trivial)
noncomputable def s_l02Zero (a0 : Int) (a1 : Int) : Option (Int × Int × (List F)) :=
 olet (IntKind.i64.wrap (a0 * a1)) fun (x1 : Int) =>
 need (mkok 4 x1) <|
 some (a0, a1, (List.replicate x1.toNat (some 0)))
theorem s_l02Zero_ok (a0 : Int) (a1 : Int) (q0 : Int) (q1 : Int) (q2 : List F) (h : s_l02Zero a0 a1 = some (q0, q1, q2)) : Ev Try.prog 66 [i64 a0, i64 a1] [] (agg [i64 q0, i64 q1, oref 0 0 0 q2.length]) [⟨0, some (q2.map f32)⟩] := by
 refine Ev.start Try.func66 rfl rfl 2 (τ := [(0, i64 a0), (1, i64 a1)]) rfl (Γ' := [⟨0, none⟩, ⟨0, none⟩]) rfl (n := 25) rfl (g := 0) rfl (fun _ => rfl) ?_
 unfold s_l02Zero at h
 refine zQ ?_
 refine ROps.d (r := optr 0 1 0) (fs := [(0, [i64 0, i64 0, nilsl])]) (Γ' := [⟨1, some [i64 0, i64 0, nilsl]⟩, ⟨0, none⟩]) rfl rfl rfl (TOp.alloc_o (g := ⟨0, none⟩) 0 rfl zer45 zok45 rfl) rfl ?_
 refine zN ?_
 refine RunC.seq ?_
 obtain ⟨x1, hx1, h⟩ := olet_some h
 obtain ⟨hm2, h⟩ := need_some h
 refine RunC.regionW ?_
 refine zM (r := i64 a0) rfl rfl rfl rfl rfl ?_
 refine zM (r := i64 a1) rfl rfl rfl rfl rfl ?_
 refine zM (r := i64 a0) rfl rfl rfl rfl rfl ?_
 refine zM (r := i64 a1) rfl rfl rfl rfl rfl ?_
 refine zL (r := i64 x1) rfl rfl rfl (LOp.eqr (LOp.mul rfl rfl rfl) (congrArg (ik .i64) hx1)) ?_
 refine ROps.d (r := oref 1 1 0 x1.toNat) (fs := [(1, ((List.replicate x1.toNat (some 0)).map f32))]) (Γ' := [⟨1, some [i64 0, i64 0, nilsl]⟩, ⟨1, some ((List.replicate x1.toNat (some 0)).map f32)⟩]) rfl rfl rfl (TOp.mkS (g := ⟨0, none⟩) (t := 23) (e := 26) (by_ := 4) (f := f32) (zv := some 0) 1 rfl und23 tin26 rfl siz26 zer26 rfl zel26 rfl rfl rfl hm2) rfl ?_
 refine zL (r := agg [i64 a0, i64 a1, oref 1 1 0 x1.toNat]) rfl rfl rfl (LOp.build (qs := [(0, [i64 a0]), (1, [i64 a1]), (2, [oref 1 1 0 x1.toNat])]) zer45 zok45 und45 plc45 rfl ⟨rfl, ⟨_, ALe.refl _, rfl⟩, ⟨rfl, ⟨_, ALe.refl _, rfl⟩, ⟨rfl, ⟨_, ALe.refl _, rfl⟩, trivial⟩⟩⟩ rfl) ?_
 refine ROps.store_le (r := agg [i64 a0, i64 a1, oref 1 1 0 x1.toNat]) (l' := [i64 a0, i64 a1, oref 1 1 0 x1.toNat]) (Γ' := [⟨1, some [i64 a0, i64 a1, oref 1 1 0 x1.toNat]⟩, ⟨1, some ((List.replicate x1.toNat (some 0)).map f32)⟩]) rfl siz45 rfl rfl rfl aR rfl rfl rfl rfl (Nat.le_of_ble_eq_true rfl) rfl rfl ?_
 refine zN ?_
 refine RunC.ret ?_
 have hq := Option.some.inj h
 obtain ⟨hq0, hq⟩ := Prod.mk.inj hq
 obtain ⟨hq1, hq⟩ := Prod.mk.inj hq
 subst q0
 subst q1
 subst q2
 exact bodyQ.mk (r' := agg [i64 a0, i64 a1, oref 1 1 0 ((List.replicate x1.toNat (some 0)).length)]) [(1, 1)] (.inr rfl) rfl (show List.Nodup [1] from by decide) rfl rfl (Res.eq (Res.one rfl (RV.cell agg45 siz45 rfl rfl rfl rfl)) (by rw [(show (List.replicate x1.toNat (some 0)).length = x1.toNat from by simp)] <;> rfl)) (SelL.arr0 (f := f32) (fun _ => rfl) rfl trivial)
noncomputable def s_l02Unit_b1 (a0 : Int) (L4 : List F) (v6 : Int) : Option (LR ((List F) × Int) ((List F)) (Int × Int × (List F))) :=
 bsel (decide (v6 < a0)) (
  olet (IntKind.i64.wrap (v6 * a0)) fun (x7 : Int) =>
  olet (IntKind.i64.wrap (x7 + v6)) fun (x8 : Int) =>
  obind (setAt? L4 x8 (some 1065353216)) fun (L9 : List F) =>
  olet (IntKind.i64.wrap (v6 + 1)) fun (x10 : Int) =>
  some (LR.next (L9, x10))) (
  some (LR.out L4))
noncomputable def s_l02Unit_s1 (a0 : Int) : ((List F) × Int) → Option (LR ((List F) × Int) ((List F)) (Int × Int × (List F))) := fun s => s_l02Unit_b1 a0 s.1 s.2
noncomputable def s_l02Unit_k1 (r1 : Int) (r2 : Int) (L11 : List F) : Option (Int × Int × (List F)) :=
 some (r1, r2, L11)
noncomputable def s_l02Unit (a0 : Int) : Option (Int × Int × (List F)) :=
 obind3 (s_l02Zero a0 a0) fun (r1 : Int) (r2 : Int) (r3 : List F) =>
 obind (loopM (s_l02Unit_s1 a0) (r3, 0)) fun z => osum z (fun e => s_l02Unit_k1 r1 r2 e) (fun r => some r)
theorem s_l02Unit_ok (a0 : Int) (q0 : Int) (q1 : Int) (q2 : List F) (h : s_l02Unit a0 = some (q0, q1, q2)) : Ev Try.prog 60 [i64 a0] [] (agg [i64 q0, i64 q1, oref 0 0 0 q2.length]) [⟨0, some (q2.map f32)⟩] := by
 refine Ev.start Try.func60 rfl rfl 3 (τ := [(0, i64 a0)]) rfl (Γ' := [⟨0, none⟩, ⟨0, none⟩, ⟨0, none⟩]) rfl (n := 45) rfl (g := 0) rfl (fun _ => rfl) ?_
 unfold s_l02Unit at h
 refine zQ ?_
 refine ROps.d (r := optr 0 1 0) (fs := [(0, [i64 0, i64 0, nilsl])]) (Γ' := [⟨1, some [i64 0, i64 0, nilsl]⟩, ⟨0, none⟩, ⟨0, none⟩]) rfl rfl rfl (TOp.alloc_o (g := ⟨0, none⟩) 0 rfl zer45 zok45 rfl) rfl ?_
 refine zN ?_
 refine RunC.seq ?_
 obtain ⟨r1, r2, r3, hf1, h⟩ := obind3_some h
 refine RunC.regionW ?_
 refine zM (r := i64 a0) rfl rfl rfl rfl rfl ?_
 refine zM (r := i64 a0) rfl rfl rfl rfl rfl ?_
 refine ROps.d (r := agg [i64 r1, i64 r2, oref 1 1 0 r3.length]) (fs := [(1, (r3.map f32))]) (Γ' := [⟨1, some [i64 0, i64 0, nilsl]⟩, ⟨1, some (r3.map f32)⟩, ⟨0, none⟩]) rfl rfl rfl (TOp.callBN (ls := [(r3.map f32)]) [1] (CallAs.func ent66 rfl rfl) (Bors.cons (Bor.pure rfl) (Bors.cons (Bor.pure rfl) Bors.nil)) rfl (s_l02Zero_ok a0 a0 r1 r2 r3 hf1) (and_all (lts0_map (f := f32) (fun _ => rfl) _) rfl) (and_all (noss_map (f := f32) (fun _ => rfl) _) rfl) rfl (by decide) (ns_of ⟨⟨_, rfl⟩, trivial⟩)) rfl ?_
 refine ROps.d (r := optr 2 1 0) (fs := [(2, [i64 0, i64 0, nilsl])]) (Γ' := [⟨1, some [i64 0, i64 0, nilsl]⟩, ⟨1, some (r3.map f32)⟩, ⟨1, some [i64 0, i64 0, nilsl]⟩]) rfl rfl rfl (TOp.alloc_o (g := ⟨0, none⟩) 2 rfl zer45 zok45 rfl) rfl ?_
 refine ROps.store_le (r := agg [i64 r1, i64 r2, oref 1 1 0 r3.length]) (l' := [i64 r1, i64 r2, oref 1 1 0 r3.length]) (Γ' := [⟨1, some [i64 0, i64 0, nilsl]⟩, ⟨1, some (r3.map f32)⟩, ⟨1, some [i64 r1, i64 r2, oref 1 1 0 r3.length]⟩]) rfl siz45 rfl rfl rfl aR rfl rfl rfl rfl (Nat.le_of_ble_eq_true rfl) rfl rfl ?_
 refine zN ?_
 refine RunC.seq ?_
 refine zQ ?_
 refine zA (r := i64 0) rfl rfl rfl rfl rfl ?_
 refine zN ?_
 obtain ⟨z2, hz_2, h⟩ := obind_some h
 refine RunC.cutN (fun τ Γ => ∃ (L11 : List F), L11.length = r3.length ∧ WeakLe τ [(2, optr 0 1 0), (3, optr 2 1 0)] ∧ DeadLe Γ [⟨1, some [i64 0, i64 0, nilsl]⟩, ⟨1, some (L11.map f32)⟩, ⟨1, some [i64 r1, i64 r2, oref 1 1 0 r3.length]⟩] ∧ z2 = .inl L11) ?_ ?_
 ·refine RunC.block (RunC.loop (RunL.loopM (x := z2) (s_l02Unit_s1 a0) (fun (s : (List F) × Int) τ Γ => s.1.length = r3.length ∧ WeakLe τ [(0, i64 a0), (2, optr 0 1 0), (3, optr 2 1 0), (4, i64 s.2)] ∧ DeadLe Γ [⟨1, some [i64 0, i64 0, nilsl]⟩, ⟨1, some (s.1.map f32)⟩, ⟨1, some [i64 r1, i64 r2, oref 1 1 0 r3.length]⟩]) ?_ _ _ _ hz_2 ⟨rfl, ⟨aR, aR, aR, aR, trivial⟩, ⟨⟨rfl, .inr rfl⟩, ⟨rfl, .inr rfl⟩, ⟨rfl, .inr rfl⟩, trivial⟩⟩))
  rintro ⟨L4, v6⟩ τ2 Γ2 y2_ ⟨hl5, hw2, hd2⟩ h2_ ho2 hr2
  refine RunC.wl (τ' := [(0, i64 a0), (2, optr 0 1 0), (3, optr 2 1 0), (4, i64 v6)]) (Γ' := [⟨1, some [i64 0, i64 0, nilsl]⟩, ⟨1, some (L4.map f32)⟩, ⟨1, some [i64 r1, i64 r2, oref 1 1 0 r3.length]⟩]) hw2 hd2 ?_
  replace hl5 : L4.length = r3.length := hl5
  replace h2_ : s_l02Unit_b1 a0 L4 v6 = some y2_ := h2_
  unfold s_l02Unit_b1 at h2_
  refine RunC.seq ?_
  refine RunC.seq ?_
  rcases bsel_some h2_ with ⟨hc2, h2_⟩ | ⟨hc2, h2_⟩
  ·refine RunC.regionW ?_
   refine zM (r := i64 v6) rfl rfl rfl rfl rfl ?_
   refine zM (r := i64 a0) rfl rfl rfl rfl rfl ?_
   refine zL (r := b true) rfl rfl rfl (LOp.eqb (LOp.lss rfl rfl rfl) hc2) ?_
   refine zN ?_
   refine RunC.cond_true rfl rfl ?_
   refine RunC.skip ?_
   refine RunC.seq ?_
   refine RunC.block ?_
   obtain ⟨x7, hx3, h2_⟩ := olet_some h2_
   obtain ⟨x8, hx4, h2_⟩ := olet_some h2_
   obtain ⟨L9, he5, h2_⟩ := obind_some h2_
   refine RunC.regionW ?_
   refine zL (r := optr 2 1 2) rfl rfl rfl (LOp.fao und45 rfl siz23 rfl rfl rfl) ?_
   refine ROps.d (r := oref 1 1 0 r3.length) (fs := []) (Γ' := [⟨1, some [i64 0, i64 0, nilsl]⟩, ⟨1, some (L4.map f32)⟩, ⟨1, some [i64 r1, i64 r2, oref 1 1 0 r3.length]⟩]) rfl rfl rfl (TOp.load1_o rfl rfl agg23 rfl rfl) rfl ?_
   refine zM (r := i64 v6) rfl rfl rfl rfl rfl ?_
   refine zM (r := i64 a0) rfl rfl rfl rfl rfl ?_
   refine zL (r := i64 x7) rfl rfl rfl (LOp.eqr (LOp.mul rfl rfl rfl) (congrArg (ik .i64) hx3)) ?_
   refine zM (r := i64 v6) rfl rfl rfl rfl rfl ?_
   refine zL (r := i64 x8) rfl rfl rfl (LOp.eqr (LOp.add rfl rfl rfl) (congrArg (ik .i64) hx4)) ?_
   refine ROps.d (r := optr 1 1 x8.toNat) (fs := []) (Γ' := [⟨1, some [i64 0, i64 0, nilsl]⟩, ⟨1, some (L4.map f32)⟩, ⟨1, some [i64 r1, i64 r2, oref 1 1 0 r3.length]⟩]) rfl rfl rfl (TOp.ixo und23 siz26 rfl rfl rfl (set_in he5 hl5) rfl) rfl ?_
   refine ROps.st (f := f32) (i := x8) (Γ' := [⟨1, some [i64 0, i64 0, nilsl]⟩, ⟨1, some (L9.map f32)⟩, ⟨1, some [i64 r1, i64 r2, oref 1 1 0 r3.length]⟩]) rfl siz26 rfl rfl rfl (ALe.fl (by kernel_rfl) (by kernel_rfl)) rfl rfl rfl he5 rfl ?_
   refine zN ?_
   obtain ⟨x10, hx6, h2_⟩ := olet_some h2_
   refine RunC.regionW ?_
   refine zM (r := i64 v6) rfl rfl rfl rfl rfl ?_
   refine zL (r := i64 x10) rfl rfl rfl (LOp.eqr (LOp.add rfl rfl rfl) (congrArg (ik .i64) hx6)) ?_
   refine zA (r := i64 x10) rfl rfl rfl rfl rfl ?_
   refine zN ?_
   cases Option.some.inj h2_
   exact ⟨_, rfl, ((setAt?_len he5).trans hl5), ⟨aR, aR, aR, aR, trivial⟩, ⟨⟨rfl, .inr rfl⟩, ⟨rfl, .inr rfl⟩, ⟨rfl, .inr rfl⟩, trivial⟩⟩
  ·refine RunC.regionW ?_
   refine zM (r := i64 v6) rfl rfl rfl rfl rfl ?_
   refine zM (r := i64 a0) rfl rfl rfl rfl rfl ?_
   refine zL (r := b false) rfl rfl rfl (LOp.eqb (LOp.lss rfl rfl rfl) hc2) ?_
   refine zN ?_
   refine RunC.cond_false rfl rfl ?_
   refine RunC.exit ?_
   cases Option.some.inj h2_
   have hx := ho2 _ rfl
   exact ⟨L4, hl5, ⟨aR, aR, trivial⟩, ⟨⟨rfl, .inr rfl⟩, ⟨rfl, .inr rfl⟩, ⟨rfl, .inr rfl⟩, trivial⟩, hx⟩
 ·rintro τ3 Γ3 ⟨L11, hl12, hw3, hd3, rfl⟩
  refine RunC.wl hw3 hd3 ?_
  replace h : s_l02Unit_k1 r1 r2 L11 = some (q0, q1, q2) := h
  unfold s_l02Unit_k1 at h
  refine zQ ?_
  refine ROps.d (r := agg [i64 r1, i64 r2, oref 1 1 0 r3.length]) (fs := []) (Γ' := [⟨1, some [i64 0, i64 0, nilsl]⟩, ⟨1, some (L11.map f32)⟩, ⟨1, some [i64 r1, i64 r2, oref 1 1 0 r3.length]⟩]) rfl rfl rfl (TOp.loadAgg_o rfl agg45 siz45 rfl rfl rfl rfl) rfl ?_
  refine ROps.store_le (r := agg [i64 r1, i64 r2, oref 1 1 0 r3.length]) (l' := [i64 r1, i64 r2, oref 1 1 0 r3.length]) (Γ' := [⟨1, some [i64 r1, i64 r2, oref 1 1 0 r3.length]⟩, ⟨1, some (L11.map f32)⟩, ⟨1, some [i64 r1, i64 r2, oref 1 1 0 r3.length]⟩]) rfl siz45 rfl rfl rfl aR rfl rfl rfl rfl (Nat.le_of_ble_eq_true rfl) rfl rfl ?_
  refine zN ?_
  refine RunC.ret ?_
  have hq := Option.some.inj h
  obtain ⟨hq0, hq⟩ := Prod.mk.inj hq
  obtain ⟨hq1, hq⟩ := Prod.mk.inj hq
  subst q0
  subst q1
  subst q2
  exact bodyQ.mk (r' := agg [i64 r1, i64 r2, oref 1 1 0 L11.length]) [(1, 1)] (.inr rfl) rfl (show List.Nodup [1] from by decide) rfl rfl (Res.eq (Res.one rfl (RV.cell agg45 siz45 rfl rfl rfl rfl)) (by rw [(show L11.length = r3.length from hl12)] <;> rfl)) (SelL.arr0 (f := f32) (fun _ => rfl) rfl trivial)
noncomputable def s_l02Size (a0 : F) : Option (F) :=
 bsel (fle .f32 a0 (some 0)) (
  olet (fop .sub .f32 (some 0) a0) fun (x1 : F) =>
  some x1) (
  some a0)
theorem s_l02Size_ok (a0 : F) (q0 : F) (h : s_l02Size a0 = some q0) : Ev Try.prog 127 [f32 a0] [] (f32 q0) [] := by
 refine Ev.start Try.func127 rfl rfl 0 (τ := [(0, f32 a0)]) rfl (Γ' := []) rfl (n := 17) rfl (g := 0) rfl (fun _ => rfl) ?_
 unfold s_l02Size at h
 refine zQ ?_
 refine zL (r := f32 (some 0)) rfl rfl rfl (LOp.le (LOp.assign rfl rfl) (ALe.fl (by kernel_rfl) (by kernel_rfl))) ?_
 refine zN ?_
 refine RunC.seq ?_
 refine RunC.seq ?_
 rcases bsel_some h with ⟨hc1, h⟩ | ⟨hc1, h⟩
 ·refine RunC.regionW ?_
  refine zM (r := f32 a0) rfl rfl rfl rfl rfl ?_
  refine zL (r := b true) rfl rfl rfl (LOp.eqb (LOp.fle rfl (OpF.tmp rfl) (OpF.const rfl (by kernel_rfl) (by kernel_rfl))) hc1) ?_
  refine zN ?_
  refine RunC.cond_true rfl rfl ?_
  refine RunC.seq ?_
  obtain ⟨x1, hx2, h⟩ := olet_some h
  refine RunC.regionW ?_
  refine zM (r := f32 a0) rfl rfl rfl rfl rfl ?_
  refine ROps.d (r := f32 x1) (fs := []) (Γ' := []) rfl rfl rfl (TOp.eqr (TOp.fop (.inr (.inl rfl)) rfl (OpF.const rfl (by kernel_rfl) (by kernel_rfl)) (OpF.tmp rfl)) (congrArg (f .f32) hx2)) rfl ?_
  refine zA (r := f32 x1) rfl rfl rfl rfl rfl ?_
  refine zN ?_
  refine RunC.ret ?_
  have hq := Option.some.inj h
  subst q0
  exact bodyQ.pure (.inr rfl) rfl (Res.one rfl (RV.tmp rfl))
 ·refine RunC.regionW ?_
  refine zM (r := f32 a0) rfl rfl rfl rfl rfl ?_
  refine zL (r := b false) rfl rfl rfl (LOp.eqb (LOp.fle rfl (OpF.tmp rfl) (OpF.const rfl (by kernel_rfl) (by kernel_rfl))) hc1) ?_
  refine zN ?_
  refine RunC.cond_false rfl rfl ?_
  refine RunC.skip ?_
  refine zQ ?_
  refine zM (r := f32 a0) rfl rfl rfl rfl rfl ?_
  refine zA (r := f32 a0) rfl rfl rfl rfl rfl ?_
  refine zN ?_
  refine RunC.ret ?_
  have hq := Option.some.inj h
  subst q0
  exact bodyQ.pure (.inr rfl) rfl (Res.one rfl (RV.tmp rfl))
noncomputable def x_math_Sqrt (a0 : F) : Option (F) :=
 olet (fsqrt a0) fun (x1 : F) =>
 some x1
theorem x_math_Sqrt_ok (a0 : F) (q0 : F) (h : x_math_Sqrt a0 = some q0) : Ev Try.prog 101 [f64 a0] [] (f64 q0) [] := by
 refine Ev.start Try.func101 rfl rfl 0 (τ := [(0, f64 a0)]) rfl (Γ' := []) rfl (n := 11) rfl (g := 0) rfl (fun _ => rfl) ?_
 unfold x_math_Sqrt at h
 refine zQ ?_
 refine zL (r := f64 (some 0)) rfl rfl rfl (LOp.le (LOp.assign rfl rfl) (ALe.fl (by kernel_rfl) (by kernel_rfl))) ?_
 refine zN ?_
 refine RunC.seq ?_
 obtain ⟨x1, hx1, h⟩ := olet_some h
 refine RunC.regionW ?_
 refine zM (r := f64 a0) rfl rfl rfl rfl rfl ?_
 refine ROps.d (r := f64 x1) (fs := []) (Γ' := []) rfl rfl rfl (TOp.eqr (TOp.fsqrt ext128 rfl (OpF.tmp rfl)) (congrArg (f .f64) hx1)) rfl ?_
 refine zA (r := f64 x1) rfl rfl rfl rfl rfl ?_
 refine zN ?_
 refine RunC.ret ?_
 have hq := Option.some.inj h
 subst q0
 exact bodyQ.pure (.inr rfl) rfl (Res.one rfl (RV.tmp rfl))
noncomputable def s_l01Narrow (a0 : F) : Option (F) :=
 obind (fnarrow a0) fun (y1 : F) =>
 some y1
theorem s_l01Narrow_ok (a0 : F) (q0 : F) (h : s_l01Narrow a0 = some q0) : Ev Try.prog 100 [f64 a0] [] (f32 q0) [] := by
 refine Ev.start Try.func100 rfl rfl 0 (τ := [(0, f64 a0)]) rfl (Γ' := []) rfl (n := 11) rfl (g := 0) rfl (fun _ => rfl) ?_
 unfold s_l01Narrow at h
 refine zQ ?_
 refine zL (r := f32 (some 0)) rfl rfl rfl (LOp.le (LOp.assign rfl rfl) (ALe.fl (by kernel_rfl) (by kernel_rfl))) ?_
 refine zN ?_
 refine RunC.seq ?_
 obtain ⟨y1, hy1, h⟩ := obind_some h
 refine RunC.regionW ?_
 refine zM (r := f64 a0) rfl rfl rfl rfl rfl ?_
 refine ROps.d (r := f32 y1) (fs := []) (Γ' := []) rfl rfl rfl (TOp.narrow (src := 62) (dst := 26) ⟨_, pun62⟩ pun26 rfl (OpF.tmp rfl) hy1) rfl ?_
 refine zA (r := f32 y1) rfl rfl rfl rfl rfl ?_
 refine zN ?_
 refine RunC.ret ?_
 have hq := Option.some.inj h
 subst q0
 exact bodyQ.pure (.inr rfl) rfl (Res.one rfl (RV.tmp rfl))
noncomputable def s_l01Sqrt (a0 : F) : Option (F) :=
 olet (fwiden a0) fun (x1 : F) =>
 obind (x_math_Sqrt x1) fun (r2 : F) =>
 obind (s_l01Narrow r2) fun (r3 : F) =>
 some r3
theorem s_l01Sqrt_ok (a0 : F) (q0 : F) (h : s_l01Sqrt a0 = some q0) : Ev Try.prog 48 [f32 a0] [] (f32 q0) [] := by
 refine Ev.start Try.func48 rfl rfl 0 (τ := [(0, f32 a0)]) rfl (Γ' := []) rfl (n := 15) rfl (g := 0) rfl (fun _ => rfl) ?_
 unfold s_l01Sqrt at h
 refine zQ ?_
 refine zL (r := f32 (some 0)) rfl rfl rfl (LOp.le (LOp.assign rfl rfl) (ALe.fl (by kernel_rfl) (by kernel_rfl))) ?_
 refine zN ?_
 refine RunC.seq ?_
 obtain ⟨x1, hx1, h⟩ := olet_some h
 obtain ⟨r2, hf2, h⟩ := obind_some h
 obtain ⟨r3, hf3, h⟩ := obind_some h
 refine RunC.regionW ?_
 refine zM (r := f32 a0) rfl rfl rfl rfl rfl ?_
 refine ROps.d (r := f64 x1) (fs := []) (Γ' := []) rfl rfl rfl (TOp.eqr (TOp.widen (src := 26) (dst := 62) ⟨_, pun26⟩ pun62 rfl (OpF.tmp rfl)) (congrArg (f .f64) hx1)) rfl ?_
 refine ROps.d (r := f64 r2) (fs := []) (Γ' := []) rfl rfl rfl (TOp.callB (CallAs.func ent101 rfl rfl) (Bors.cons (Bor.pure rfl) Bors.nil) rfl rfl (x_math_Sqrt_ok x1 r2 hf2)) rfl ?_
 refine ROps.d (r := f32 r3) (fs := []) (Γ' := []) rfl rfl rfl (TOp.callB (CallAs.func ent100 rfl rfl) (Bors.cons (Bor.pure rfl) Bors.nil) rfl rfl (s_l01Narrow_ok r2 r3 hf3)) rfl ?_
 refine zA (r := f32 r3) rfl rfl rfl rfl rfl ?_
 refine zN ?_
 refine RunC.ret ?_
 have hq := Option.some.inj h
 subst q0
 exact bodyQ.pure (.inr rfl) rfl (Res.one rfl (RV.tmp rfl))
noncomputable def s_l04Cosine_k1 (y8 : F) : Option (F × F) :=
 olet (fop .mul .f32 y8 y8) fun (x9 : F) =>
 olet (fop .add .f32 x9 (some 1065353216)) fun (x10 : F) =>
 obind (s_l01Sqrt x10) fun (r11 : F) =>
 olet (fop .quo .f32 (some 1065353216) r11) fun (x12 : F) =>
 olet (fop .mul .f32 y8 x12) fun (x13 : F) =>
 some (x12, x13)
noncomputable def s_l04Cosine (a0 : F) : Option (F × F) :=
 obind (s_l02Size a0) fun (r1 : F) =>
 olet (fop .mul .f32 a0 a0) fun (x2 : F) =>
 olet (fop .add .f32 x2 (some 1065353216)) fun (x3 : F) =>
 obind (s_l01Sqrt x3) fun (r4 : F) =>
 olet (fop .add .f32 r1 r4) fun (x5 : F) =>
 olet (fop .quo .f32 (some 1065353216) x5) fun (x6 : F) =>
 bsel (flt .f32 a0 (some 0)) (
  olet (fneg .f32 x6) fun (x7 : F) =>
  s_l04Cosine_k1 x7) (
  s_l04Cosine_k1 x6)
theorem s_l04Cosine_ok (a0 : F) (q0 : F) (q1 : F) (h : s_l04Cosine a0 = some (q0, q1)) : Ev Try.prog 99 [f32 a0] [] (tup [f32 q0, f32 q1]) [] := by
 refine Ev.start Try.func99 rfl rfl 0 (τ := [(0, f32 a0)]) rfl (Γ' := []) rfl (n := 59) rfl (g := 0) rfl (fun _ => rfl) ?_
 unfold s_l04Cosine at h
 refine zQ ?_
 refine zL (r := f32 (some 0)) rfl rfl rfl (LOp.le (LOp.assign rfl rfl) (ALe.fl (by kernel_rfl) (by kernel_rfl))) ?_
 refine zL (r := f32 (some 0)) rfl rfl rfl (LOp.le (LOp.assign rfl rfl) (ALe.fl (by kernel_rfl) (by kernel_rfl))) ?_
 refine zN ?_
 refine RunC.seq ?_
 obtain ⟨r1, hf1, h⟩ := obind_some h
 obtain ⟨x2, hx2, h⟩ := olet_some h
 obtain ⟨x3, hx3, h⟩ := olet_some h
 obtain ⟨r4, hf4, h⟩ := obind_some h
 obtain ⟨x5, hx5, h⟩ := olet_some h
 obtain ⟨x6, hx6, h⟩ := olet_some h
 refine RunC.regionW ?_
 refine zM (r := f32 a0) rfl rfl rfl rfl rfl ?_
 refine ROps.d (r := f32 r1) (fs := []) (Γ' := []) rfl rfl rfl (TOp.callB (CallAs.func ent127 rfl rfl) (Bors.cons (Bor.pure rfl) Bors.nil) rfl rfl (s_l02Size_ok a0 r1 hf1)) rfl ?_
 refine zM (r := f32 a0) rfl rfl rfl rfl rfl ?_
 refine zM (r := f32 a0) rfl rfl rfl rfl rfl ?_
 refine ROps.d (r := f32 x2) (fs := []) (Γ' := []) rfl rfl rfl (TOp.eqr (TOp.fop (.inr (.inr (.inl rfl))) rfl (OpF.tmp rfl) (OpF.tmp rfl)) (congrArg (f .f32) hx2)) rfl ?_
 refine ROps.d (r := f32 x3) (fs := []) (Γ' := []) rfl rfl rfl (TOp.eqr (TOp.fop (.inl rfl) rfl (OpF.tmp rfl) (OpF.const rfl (by kernel_rfl) (by kernel_rfl))) (congrArg (f .f32) hx3)) rfl ?_
 refine ROps.d (r := f32 r4) (fs := []) (Γ' := []) rfl rfl rfl (TOp.callB (CallAs.func ent48 rfl rfl) (Bors.cons (Bor.pure rfl) Bors.nil) rfl rfl (s_l01Sqrt_ok x3 r4 hf4)) rfl ?_
 refine ROps.d (r := f32 x5) (fs := []) (Γ' := []) rfl rfl rfl (TOp.eqr (TOp.fop (.inl rfl) rfl (OpF.tmp rfl) (OpF.tmp rfl)) (congrArg (f .f32) hx5)) rfl ?_
 refine ROps.d (r := f32 x6) (fs := []) (Γ' := []) rfl rfl rfl (TOp.eqr (TOp.fop (.inr (.inr (.inr rfl))) rfl (OpF.const rfl (by kernel_rfl) (by kernel_rfl)) (OpF.tmp rfl)) (congrArg (f .f32) hx6)) rfl ?_
 refine zA (r := f32 x6) rfl rfl rfl rfl rfl ?_
 refine zN ?_
 refine RunC.seq ?_
 refine RunC.cutN (fun τ Γ => ∃ (y8 : F), WeakLe τ [(4, f32 y8)] ∧ DeadLe Γ [] ∧ s_l04Cosine_k1 y8 = some (q0, q1)) ?_ ?_
 ·refine RunC.seq ?_
  rcases bsel_some h with ⟨hc7, h⟩ | ⟨hc7, h⟩
  ·refine RunC.regionW ?_
   refine zM (r := f32 a0) rfl rfl rfl rfl rfl ?_
   refine zL (r := b true) rfl rfl rfl (LOp.eqb (LOp.flt rfl (OpF.tmp rfl) (OpF.const rfl (by kernel_rfl) (by kernel_rfl))) hc7) ?_
   refine zN ?_
   refine RunC.wl (τ' := [(4, f32 x6), (16, b true)]) (Γ' := []) ⟨aR, aR, trivial⟩ trivial ?_
   refine RunC.cond_true rfl rfl ?_
   obtain ⟨x7, hx8, h⟩ := olet_some h
   refine RunC.regionW ?_
   refine zM (r := f32 x6) rfl rfl rfl rfl rfl ?_
   refine zL (r := f32 x7) rfl rfl rfl (LOp.eqr (LOp.fneg rfl (OpF.tmp rfl)) (congrArg (f .f32) hx8)) ?_
   refine zA (r := f32 x7) rfl rfl rfl rfl rfl ?_
   refine zN ?_
   exact ⟨x7, ⟨aR, trivial⟩, trivial, h⟩
  ·refine RunC.regionW ?_
   refine zM (r := f32 a0) rfl rfl rfl rfl rfl ?_
   refine zL (r := b false) rfl rfl rfl (LOp.eqb (LOp.flt rfl (OpF.tmp rfl) (OpF.const rfl (by kernel_rfl) (by kernel_rfl))) hc7) ?_
   refine zN ?_
   refine RunC.wl (τ' := [(4, f32 x6), (16, b false)]) (Γ' := []) ⟨aR, aR, trivial⟩ trivial ?_
   refine RunC.cond_false rfl rfl ?_
   refine RunC.skip ?_
   exact ⟨x6, ⟨aR, trivial⟩, trivial, h⟩
 ·rintro τ2 Γ2 ⟨y8, hw2, hd2, h⟩
  refine RunC.wl hw2 hd2 ?_
  unfold s_l04Cosine_k1 at h
  refine RunC.seq ?_
  obtain ⟨x9, hx9, h⟩ := olet_some h
  obtain ⟨x10, hx10, h⟩ := olet_some h
  obtain ⟨r11, hf11, h⟩ := obind_some h
  obtain ⟨x12, hx12, h⟩ := olet_some h
  refine RunC.regionW ?_
  refine zM (r := f32 y8) rfl rfl rfl rfl rfl ?_
  refine zM (r := f32 y8) rfl rfl rfl rfl rfl ?_
  refine ROps.d (r := f32 x9) (fs := []) (Γ' := []) rfl rfl rfl (TOp.eqr (TOp.fop (.inr (.inr (.inl rfl))) rfl (OpF.tmp rfl) (OpF.tmp rfl)) (congrArg (f .f32) hx9)) rfl ?_
  refine ROps.d (r := f32 x10) (fs := []) (Γ' := []) rfl rfl rfl (TOp.eqr (TOp.fop (.inl rfl) rfl (OpF.tmp rfl) (OpF.const rfl (by kernel_rfl) (by kernel_rfl))) (congrArg (f .f32) hx10)) rfl ?_
  refine ROps.d (r := f32 r11) (fs := []) (Γ' := []) rfl rfl rfl (TOp.callB (CallAs.func ent48 rfl rfl) (Bors.cons (Bor.pure rfl) Bors.nil) rfl rfl (s_l01Sqrt_ok x10 r11 hf11)) rfl ?_
  refine ROps.d (r := f32 x12) (fs := []) (Γ' := []) rfl rfl rfl (TOp.eqr (TOp.fop (.inr (.inr (.inr rfl))) rfl (OpF.const rfl (by kernel_rfl) (by kernel_rfl)) (OpF.tmp rfl)) (congrArg (f .f32) hx12)) rfl ?_
  refine zA (r := f32 x12) rfl rfl rfl rfl rfl ?_
  refine zN ?_
  refine RunC.seq ?_
  obtain ⟨x13, hx13, h⟩ := olet_some h
  refine RunC.regionW ?_
  refine zM (r := f32 x12) rfl rfl rfl rfl rfl ?_
  refine zM (r := f32 y8) rfl rfl rfl rfl rfl ?_
  refine zM (r := f32 x12) rfl rfl rfl rfl rfl ?_
  refine ROps.d (r := f32 x13) (fs := []) (Γ' := []) rfl rfl rfl (TOp.eqr (TOp.fop (.inr (.inr (.inl rfl))) rfl (OpF.tmp rfl) (OpF.tmp rfl)) (congrArg (f .f32) hx13)) rfl ?_
  refine zA (r := f32 x12) rfl rfl rfl rfl rfl ?_
  refine zA (r := f32 x13) rfl rfl rfl rfl rfl ?_
  refine zN ?_
  refine RunC.ret ?_
  have hq := Option.some.inj h
  obtain ⟨hq0, hq⟩ := Prod.mk.inj hq
  subst q0
  subst q1
  exact bodyQ.pure (.inr rfl) rfl (Res.two rfl (RV.tmp rfl) (RV.tmp rfl))
noncomputable def s_l04Turn (a0 : Int) (a1 : Int) (a2 : List F) (a3 : Int) (a4 : Int) : Option (F × F × Bool) :=
 obind (s_l02At a0 a1 a2 a3 a4) fun (r1 : F) =>
 bsel (feq .f32 r1 (some 0)) (
  some (some 1065353216, some 0, true)) (
  obind (s_l02At a0 a1 a2 a4 a4) fun (r2 : F) =>
  obind (s_l02At a0 a1 a2 a3 a3) fun (r3 : F) =>
  olet (fop .sub .f32 r2 r3) fun (x4 : F) =>
  olet (fop .mul .f32 (some 1073741824) r1) fun (x5 : F) =>
  olet (fop .quo .f32 x4 x5) fun (x6 : F) =>
  obind2 (s_l04Cosine x6) fun (r7 : F) (r8 : F) =>
  obind (s_l01Finite r7) fun (r9 : Bool) =>
  bsel r9 (
   obind (s_l01Finite r8) fun (r10 : Bool) =>
   some (r7, r8, r10)) (
   some (r7, r8, false)))
theorem s_l04Turn_ok (a0 : Int) (a1 : Int) (a2 : List F) (a3 : Int) (a4 : Int) (q0 : F) (q1 : F) (q2 : Bool) (h : s_l04Turn a0 a1 a2 a3 a4 = some (q0, q1, q2)) : Ev Try.prog 61 [ptr [i64 a0, i64 a1, sl a2.length (a2.map f32)], i64 a3, i64 a4] [] (tup [f32 q0, f32 q1, b q2]) [] := by
 refine Ev.start Try.func61 rfl rfl 0 (τ := [(0, ptr [i64 a0, i64 a1, sl a2.length (a2.map f32)]), (1, i64 a3), (2, i64 a4)]) rfl (Γ' := []) rfl (n := 85) rfl (g := 0) rfl (fun _ => rfl) ?_
 unfold s_l04Turn at h
 refine zQ ?_
 refine zL (r := f32 (some 0)) rfl rfl rfl (LOp.le (LOp.assign rfl rfl) (ALe.fl (by kernel_rfl) (by kernel_rfl))) ?_
 refine zL (r := f32 (some 0)) rfl rfl rfl (LOp.le (LOp.assign rfl rfl) (ALe.fl (by kernel_rfl) (by kernel_rfl))) ?_
 refine zA (r := b false) rfl rfl rfl rfl rfl ?_
 refine zN ?_
 refine RunC.seq ?_
 obtain ⟨r1, hf1, h⟩ := obind_some h
 refine RunC.regionW ?_
 refine zM (r := ptr [i64 a0, i64 a1, sl a2.length (a2.map f32)]) rfl rfl rfl rfl rfl ?_
 refine zM (r := i64 a3) rfl rfl rfl rfl rfl ?_
 refine zM (r := i64 a4) rfl rfl rfl rfl rfl ?_
 refine ROps.d (r := f32 r1) (fs := []) (Γ' := []) rfl rfl rfl (TOp.callB (CallAs.func ent65 rfl rfl) (Bors.cons (Bor.ptr (Bors.cons (Bor.pure rfl) (Bors.cons (Bor.pure rfl) (Bors.cons (Bor.sl (fun _ => rfl)) Bors.nil)))) (Bors.cons (Bor.pure rfl) (Bors.cons (Bor.pure rfl) Bors.nil))) rfl rfl (s_l02At_ok a0 a1 a2 a3 a4 r1 hf1)) rfl ?_
 refine zA (r := f32 r1) rfl rfl rfl rfl rfl ?_
 refine zN ?_
 refine RunC.seq ?_
 refine RunC.seq ?_
 rcases bsel_some h with ⟨hc2, h⟩ | ⟨hc2, h⟩
 ·refine RunC.regionW ?_
  refine zM (r := f32 r1) rfl rfl rfl rfl rfl ?_
  refine zL (r := b true) rfl rfl rfl (LOp.eqb (LOp.feq rfl (OpF.tmp rfl) (OpF.const rfl (by kernel_rfl) (by kernel_rfl))) hc2) ?_
  refine zN ?_
  refine RunC.cond_true rfl rfl ?_
  refine zQ ?_
  refine zL (r := f32 (some 1065353216)) rfl rfl rfl (LOp.le (LOp.assign rfl rfl) (ALe.fl (by kernel_rfl) (by kernel_rfl))) ?_
  refine zL (r := f32 (some 0)) rfl rfl rfl (LOp.le (LOp.assign rfl rfl) (ALe.fl (by kernel_rfl) (by kernel_rfl))) ?_
  refine zA (r := b true) rfl rfl rfl rfl rfl ?_
  refine zN ?_
  refine RunC.ret ?_
  have hq := Option.some.inj h
  obtain ⟨hq0, hq⟩ := Prod.mk.inj hq
  obtain ⟨hq1, hq⟩ := Prod.mk.inj hq
  subst q0
  subst q1
  subst q2
  exact bodyQ.pure (.inr rfl) rfl (Res.three rfl (RV.tmp rfl) (RV.tmp rfl) (RV.tmp rfl))
 ·refine RunC.regionW ?_
  refine zM (r := f32 r1) rfl rfl rfl rfl rfl ?_
  refine zL (r := b false) rfl rfl rfl (LOp.eqb (LOp.feq rfl (OpF.tmp rfl) (OpF.const rfl (by kernel_rfl) (by kernel_rfl))) hc2) ?_
  refine zN ?_
  refine RunC.cond_false rfl rfl ?_
  refine RunC.skip ?_
  refine RunC.seq ?_
  obtain ⟨r2, hf3, h⟩ := obind_some h
  obtain ⟨r3, hf4, h⟩ := obind_some h
  obtain ⟨x4, hx5, h⟩ := olet_some h
  obtain ⟨x5, hx6, h⟩ := olet_some h
  obtain ⟨x6, hx7, h⟩ := olet_some h
  obtain ⟨r7, r8, hf8, h⟩ := obind2_some h
  refine RunC.regionW ?_
  refine zM (r := ptr [i64 a0, i64 a1, sl a2.length (a2.map f32)]) rfl rfl rfl rfl rfl ?_
  refine zM (r := i64 a4) rfl rfl rfl rfl rfl ?_
  refine zM (r := i64 a4) rfl rfl rfl rfl rfl ?_
  refine ROps.d (r := f32 r2) (fs := []) (Γ' := []) rfl rfl rfl (TOp.callB (CallAs.func ent65 rfl rfl) (Bors.cons (Bor.ptr (Bors.cons (Bor.pure rfl) (Bors.cons (Bor.pure rfl) (Bors.cons (Bor.sl (fun _ => rfl)) Bors.nil)))) (Bors.cons (Bor.pure rfl) (Bors.cons (Bor.pure rfl) Bors.nil))) rfl rfl (s_l02At_ok a0 a1 a2 a4 a4 r2 hf3)) rfl ?_
  refine zM (r := ptr [i64 a0, i64 a1, sl a2.length (a2.map f32)]) rfl rfl rfl rfl rfl ?_
  refine zM (r := i64 a3) rfl rfl rfl rfl rfl ?_
  refine zM (r := i64 a3) rfl rfl rfl rfl rfl ?_
  refine ROps.d (r := f32 r3) (fs := []) (Γ' := []) rfl rfl rfl (TOp.callB (CallAs.func ent65 rfl rfl) (Bors.cons (Bor.ptr (Bors.cons (Bor.pure rfl) (Bors.cons (Bor.pure rfl) (Bors.cons (Bor.sl (fun _ => rfl)) Bors.nil)))) (Bors.cons (Bor.pure rfl) (Bors.cons (Bor.pure rfl) Bors.nil))) rfl rfl (s_l02At_ok a0 a1 a2 a3 a3 r3 hf4)) rfl ?_
  refine ROps.d (r := f32 x4) (fs := []) (Γ' := []) rfl rfl rfl (TOp.eqr (TOp.fop (.inr (.inl rfl)) rfl (OpF.tmp rfl) (OpF.tmp rfl)) (congrArg (f .f32) hx5)) rfl ?_
  refine zM (r := f32 r1) rfl rfl rfl rfl rfl ?_
  refine ROps.d (r := f32 x5) (fs := []) (Γ' := []) rfl rfl rfl (TOp.eqr (TOp.fop (.inr (.inr (.inl rfl))) rfl (OpF.const rfl (by kernel_rfl) (by kernel_rfl)) (OpF.tmp rfl)) (congrArg (f .f32) hx6)) rfl ?_
  refine ROps.d (r := f32 x6) (fs := []) (Γ' := []) rfl rfl rfl (TOp.eqr (TOp.fop (.inr (.inr (.inr rfl))) rfl (OpF.tmp rfl) (OpF.tmp rfl)) (congrArg (f .f32) hx7)) rfl ?_
  refine ROps.d (r := tup [f32 r7, f32 r8]) (fs := []) (Γ' := []) rfl rfl rfl (TOp.callB (CallAs.func ent99 rfl rfl) (Bors.cons (Bor.pure rfl) Bors.nil) rfl rfl (s_l04Cosine_ok x6 r7 r8 hf8)) rfl ?_
  refine zM (r := tup [f32 r7, f32 r8]) rfl rfl rfl rfl rfl ?_
  refine zL (r := f32 r7) rfl rfl rfl (LOp.extract rfl rfl rfl) ?_
  refine zL (r := f32 r8) rfl rfl rfl (LOp.extract rfl rfl rfl) ?_
  refine zA (r := f32 r7) rfl rfl rfl rfl rfl ?_
  refine zA (r := f32 r8) rfl rfl rfl rfl rfl ?_
  refine zN ?_
  refine RunC.wl (τ' := [(10, f32 r7), (11, f32 r8)]) (Γ' := []) ⟨aR, aR, trivial⟩ trivial ?_
  refine RunC.seq ?_
  obtain ⟨r9, hf9, h⟩ := obind_some h
  rcases bsel_some h with ⟨hc10, h⟩ | ⟨hc10, h⟩
  ·obtain ⟨r10, hf11, h⟩ := obind_some h
   refine RunC.regionW ?_
   refine zM (r := f32 r7) rfl rfl rfl rfl rfl ?_
   refine zM (r := f32 r8) rfl rfl rfl rfl rfl ?_
   refine zM (r := f32 r7) rfl rfl rfl rfl rfl ?_
   refine ROps.d (r := b true) (fs := []) (Γ' := []) rfl rfl rfl (TOp.eqb (TOp.callB (CallAs.func ent79 rfl rfl) (Bors.cons (Bor.pure rfl) Bors.nil) rfl rfl (s_l01Finite_ok r7 r9 hf9)) hc10) rfl ?_
   refine zM (r := b true) rfl rfl rfl rfl rfl ?_
   refine zM (r := f32 r8) rfl rfl rfl rfl rfl ?_
   refine ROps.d (r := b r10) (fs := []) (Γ' := []) rfl rfl rfl (TOp.callB (CallAs.func ent79 rfl rfl) (Bors.cons (Bor.pure rfl) Bors.nil) rfl rfl (s_l01Finite_ok r8 r10 hf11)) rfl ?_
   refine zL (r := b r10) rfl rfl rfl (LOp.pick_true rfl rfl rfl) ?_
   refine zA (r := f32 r7) rfl rfl rfl rfl rfl ?_
   refine zA (r := f32 r8) rfl rfl rfl rfl rfl ?_
   refine zA (r := b r10) rfl rfl rfl rfl rfl ?_
   refine zN ?_
   refine RunC.ret ?_
   have hq := Option.some.inj h
   obtain ⟨hq0, hq⟩ := Prod.mk.inj hq
   obtain ⟨hq1, hq⟩ := Prod.mk.inj hq
   subst q0
   subst q1
   subst q2
   exact bodyQ.pure (.inr rfl) rfl (Res.three rfl (RV.tmp rfl) (RV.tmp rfl) (RV.tmp rfl))
  ·refine RunC.regionW ?_
   refine zM (r := f32 r7) rfl rfl rfl rfl rfl ?_
   refine zM (r := f32 r8) rfl rfl rfl rfl rfl ?_
   refine zM (r := f32 r7) rfl rfl rfl rfl rfl ?_
   refine ROps.d (r := b false) (fs := []) (Γ' := []) rfl rfl rfl (TOp.eqb (TOp.callB (CallAs.func ent79 rfl rfl) (Bors.cons (Bor.pure rfl) Bors.nil) rfl rfl (s_l01Finite_ok r7 r9 hf9)) hc10) rfl ?_
   refine zM (r := b false) rfl rfl rfl rfl rfl ?_
   refine ROps.s rfl rfl rfl ?_
   refine ROps.s rfl rfl rfl ?_
   refine zL (r := b false) rfl rfl rfl (LOp.pick_false rfl rfl rfl) ?_
   refine zA (r := f32 r7) rfl rfl rfl rfl rfl ?_
   refine zA (r := f32 r8) rfl rfl rfl rfl rfl ?_
   refine zA (r := b false) rfl rfl rfl rfl rfl ?_
   refine zN ?_
   refine RunC.ret ?_
   have hq := Option.some.inj h
   obtain ⟨hq0, hq⟩ := Prod.mk.inj hq
   obtain ⟨hq1, hq⟩ := Prod.mk.inj hq
   subst q0
   subst q1
   subst q2
   exact bodyQ.pure (.inr rfl) rfl (Res.three rfl (RV.tmp rfl) (RV.tmp rfl) (RV.tmp rfl))
noncomputable def s_l04Columns_0p0_C02o1_b1 (a0 : Int) (a1 : Int) (a2 : F) (a3 : F) (a4 : Int) (a5 : Int) (L1 : List F) (v3 : Int) : Option (LR ((List F) × Int) ((List F)) ((List F))) :=
 bsel (decide (v3 < a4)) (
  obind (s_l02At a4 a5 L1 v3 a0) fun (r4 : F) =>
  obind (s_l02At a4 a5 L1 v3 a1) fun (r5 : F) =>
  olet (IntKind.i64.wrap (v3 * a5)) fun (x6 : Int) =>
  olet (IntKind.i64.wrap (x6 + a0)) fun (x7 : Int) =>
  olet (fop .mul .f32 a2 r4) fun (x8 : F) =>
  olet (fop .mul .f32 a3 r5) fun (x9 : F) =>
  olet (fop .sub .f32 x8 x9) fun (x10 : F) =>
  obind (setAt? L1 x7 x10) fun (L11 : List F) =>
  olet (IntKind.i64.wrap (v3 * a5)) fun (x12 : Int) =>
  olet (IntKind.i64.wrap (x12 + a1)) fun (x13 : Int) =>
  olet (fop .mul .f32 a3 r4) fun (x14 : F) =>
  olet (fop .mul .f32 a2 r5) fun (x15 : F) =>
  olet (fop .add .f32 x14 x15) fun (x16 : F) =>
  obind (setAt? L11 x13 x16) fun (L17 : List F) =>
  olet (IntKind.i64.wrap (v3 + 1)) fun (x18 : Int) =>
  some (LR.next (L17, x18))) (
  some (LR.out L1))
noncomputable def s_l04Columns_0p0_C02o1_s1 (a0 : Int) (a1 : Int) (a2 : F) (a3 : F) (a4 : Int) (a5 : Int) : ((List F) × Int) → Option (LR ((List F) × Int) ((List F)) ((List F))) := fun s => s_l04Columns_0p0_C02o1_b1 a0 a1 a2 a3 a4 a5 s.1 s.2
noncomputable def s_l04Columns_0p0_C02o1_k1 (L19 : List F) : Option ((List F)) :=
 some L19
noncomputable def s_l04Columns_0p0_C02o1 (a0 : Int) (a1 : Int) (a2 : F) (a3 : F) (a4 : Int) (a5 : Int) (a6 : List F) : Option ((List F)) :=
 obind (loopM (s_l04Columns_0p0_C02o1_s1 a0 a1 a2 a3 a4 a5) (a6, 0)) fun z => osum z (fun e => s_l04Columns_0p0_C02o1_k1 e) (fun r => some r)
theorem s_l04Columns_0p0_C02o1_ok (a0 : Int) (a1 : Int) (a2 : F) (a3 : F) (a4 : Int) (a5 : Int) (a6 : List F) (q0 : List F) (h : s_l04Columns_0p0_C02o1 a0 a1 a2 a3 a4 a5 a6 = some q0) : Ev Try.prog 62 [optr 0 0 0, i64 a0, i64 a1, f32 a2, f32 a3] [⟨0, some [i64 a4, i64 a5, oref 1 0 0 a6.length]⟩, ⟨0, some (a6.map f32)⟩] (tup []) [⟨0, some [i64 a4, i64 a5, oref 1 0 0 a6.length]⟩, ⟨0, some (q0.map f32)⟩] := by
 refine Ev.start Try.func62 rfl rfl 0 (τ := [(0, optr 0 0 0), (1, i64 a0), (2, i64 a1), (3, f32 a2), (4, f32 a3)]) rfl (Γ' := [⟨0, some [i64 a4, i64 a5, oref 1 0 0 a6.length]⟩, ⟨0, some (a6.map f32)⟩]) rfl (n := 138) rfl (g := 2) rfl (by decide) ?_
 unfold s_l04Columns_0p0_C02o1 at h
 refine zQ ?_
 refine zA (r := i64 0) rfl rfl rfl rfl rfl ?_
 refine zN ?_
 obtain ⟨z2, hz_2, h⟩ := obind_some h
 refine RunC.cutN (fun τ Γ => ∃ (L19 : List F), L19.length = a6.length ∧ WeakLe τ [] ∧ DeadLe Γ [⟨0, some [i64 a4, i64 a5, oref 1 0 0 a6.length]⟩, ⟨0, some (L19.map f32)⟩] ∧ z2 = .inl L19) ?_ ?_
 ·refine RunC.block (RunC.loop (RunL.loopM (x := z2) (s_l04Columns_0p0_C02o1_s1 a0 a1 a2 a3 a4 a5) (fun (s : (List F) × Int) τ Γ => s.1.length = a6.length ∧ WeakLe τ [(0, optr 0 0 0), (1, i64 a0), (2, i64 a1), (3, f32 a2), (4, f32 a3), (10, i64 s.2)] ∧ DeadLe Γ [⟨0, some [i64 a4, i64 a5, oref 1 0 0 a6.length]⟩, ⟨0, some (s.1.map f32)⟩]) ?_ _ _ _ hz_2 ⟨rfl, ⟨aR, aR, aR, aR, aR, aR, trivial⟩, ⟨⟨rfl, .inr rfl⟩, ⟨rfl, .inr rfl⟩, trivial⟩⟩))
  rintro ⟨L1, v3⟩ τ2 Γ2 y2_ ⟨hl2, hw2, hd2⟩ h2_ ho2 hr2
  refine RunC.wl (τ' := [(0, optr 0 0 0), (1, i64 a0), (2, i64 a1), (3, f32 a2), (4, f32 a3), (10, i64 v3)]) (Γ' := [⟨0, some [i64 a4, i64 a5, oref 1 0 0 a6.length]⟩, ⟨0, some (L1.map f32)⟩]) hw2 hd2 ?_
  replace hl2 : L1.length = a6.length := hl2
  replace h2_ : s_l04Columns_0p0_C02o1_b1 a0 a1 a2 a3 a4 a5 L1 v3 = some y2_ := h2_
  unfold s_l04Columns_0p0_C02o1_b1 at h2_
  refine RunC.seq ?_
  refine RunC.seq ?_
  rcases bsel_some h2_ with ⟨hc1, h2_⟩ | ⟨hc1, h2_⟩
  ·refine RunC.regionW ?_
   refine zM (r := i64 v3) rfl rfl rfl rfl rfl ?_
   refine zM (r := optr 0 0 0) rfl rfl rfl rfl rfl ?_
   refine zL (r := optr 0 0 0) rfl rfl rfl (LOp.nilCheck_optr rfl rfl) ?_
   refine zL (r := optr 0 0 0) rfl rfl rfl (LOp.fao und45 rfl siz2 rfl rfl rfl) ?_
   refine ROps.d (r := i64 a4) (fs := []) (Γ' := [⟨0, some [i64 a4, i64 a5, oref 1 0 0 a6.length]⟩, ⟨0, some (L1.map f32)⟩]) rfl rfl rfl (TOp.load1_o rfl rfl agg2 rfl rfl) rfl ?_
   refine zL (r := b true) rfl rfl rfl (LOp.eqb (LOp.lss rfl rfl rfl) hc1) ?_
   refine zN ?_
   refine RunC.cond_true rfl rfl ?_
   refine RunC.skip ?_
   refine RunC.seq ?_
   refine RunC.block ?_
   refine RunC.seq ?_
   obtain ⟨r4, hf2, h2_⟩ := obind_some h2_
   refine RunC.regionW ?_
   refine zM (r := optr 0 0 0) rfl rfl rfl rfl rfl ?_
   refine zM (r := i64 v3) rfl rfl rfl rfl rfl ?_
   refine zM (r := i64 a0) rfl rfl rfl rfl rfl ?_
   refine ROps.d (r := f32 r4) (fs := []) (Γ' := [⟨0, some [i64 a4, i64 a5, oref 1 0 0 a6.length]⟩, ⟨0, some (L1.map f32)⟩]) rfl rfl rfl (TOp.callB (CallAs.func ent65 rfl rfl) (Bors.cons (Bor.optr rfl (Bors.p (Bors.cons (Bor.pure rfl) (Bors.cons (Bor.pure rfl) (Bors.cons (Bor.own (f := f32) (fun _ => rfl) rfl hl2) Bors.nil)))) rfl) (Bors.cons (Bor.pure rfl) (Bors.cons (Bor.pure rfl) Bors.nil))) rfl rfl (s_l02At_ok a4 a5 L1 v3 a0 r4 hf2)) rfl ?_
   refine zA (r := f32 r4) rfl rfl rfl rfl rfl ?_
   refine zN ?_
   refine RunC.seq ?_
   obtain ⟨r5, hf3, h2_⟩ := obind_some h2_
   refine RunC.regionW ?_
   refine zM (r := optr 0 0 0) rfl rfl rfl rfl rfl ?_
   refine zM (r := i64 v3) rfl rfl rfl rfl rfl ?_
   refine zM (r := i64 a1) rfl rfl rfl rfl rfl ?_
   refine ROps.d (r := f32 r5) (fs := []) (Γ' := [⟨0, some [i64 a4, i64 a5, oref 1 0 0 a6.length]⟩, ⟨0, some (L1.map f32)⟩]) rfl rfl rfl (TOp.callB (CallAs.func ent65 rfl rfl) (Bors.cons (Bor.optr rfl (Bors.p (Bors.cons (Bor.pure rfl) (Bors.cons (Bor.pure rfl) (Bors.cons (Bor.own (f := f32) (fun _ => rfl) rfl hl2) Bors.nil)))) rfl) (Bors.cons (Bor.pure rfl) (Bors.cons (Bor.pure rfl) Bors.nil))) rfl rfl (s_l02At_ok a4 a5 L1 v3 a1 r5 hf3)) rfl ?_
   refine zA (r := f32 r5) rfl rfl rfl rfl rfl ?_
   refine zN ?_
   refine RunC.wl (τ' := [(0, optr 0 0 0), (1, i64 a0), (2, i64 a1), (3, f32 a2), (4, f32 a3), (10, i64 v3), (11, f32 r4), (12, f32 r5)]) (Γ' := [⟨0, some [i64 a4, i64 a5, oref 1 0 0 a6.length]⟩, ⟨0, some (L1.map f32)⟩]) ⟨aR, aR, aR, aR, aR, aR, aR, aR, trivial⟩ ⟨⟨rfl, .inr rfl⟩, ⟨rfl, .inr rfl⟩, trivial⟩ ?_
   refine RunC.seq ?_
   obtain ⟨x6, hx4, h2_⟩ := olet_some h2_
   obtain ⟨x7, hx5, h2_⟩ := olet_some h2_
   obtain ⟨x8, hx6, h2_⟩ := olet_some h2_
   obtain ⟨x9, hx7, h2_⟩ := olet_some h2_
   obtain ⟨x10, hx8, h2_⟩ := olet_some h2_
   obtain ⟨L11, he9, h2_⟩ := obind_some h2_
   refine RunC.region_draw (Γ' := [⟨0, some [i64 a4, i64 a5, oref 1 0 0 a6.length]⟩, ⟨0, some (L1.map f32)⟩]) 20 mixed 
    (TR.l (r := optr 0 0 0) rfl rfl (LOp.move rfl rfl) <|
    (TR.l (r := optr 0 0 0) rfl rfl (LOp.nilCheck_optr rfl rfl) <|
    (TR.l (r := optr 0 0 2) rfl rfl (LOp.fao und45 rfl siz23 rfl rfl rfl) <|
    (TR.d (r := oref 1 0 0 a6.length) (fs := []) rfl rfl (TOp.load1_o rfl rfl agg23 rfl rfl) <|
    (TR.l (r := i64 v3) rfl rfl (LOp.move rfl rfl) <|
    (TR.l (r := optr 0 0 0) rfl rfl (LOp.move rfl rfl) <|
    (TR.l (r := optr 0 0 0) rfl rfl (LOp.nilCheck_optr rfl rfl) <|
    (TR.l (r := optr 0 0 1) rfl rfl (LOp.fao und45 rfl siz2 rfl rfl rfl) <|
    (TR.d (r := i64 a5) (fs := []) rfl rfl (TOp.load1_o rfl rfl agg2 rfl rfl) <|
    (TR.l (r := i64 x6) rfl rfl (LOp.eqr (LOp.mul rfl rfl rfl) (congrArg (ik .i64) hx4)) <|
    (TR.l (r := i64 a0) rfl rfl (LOp.move rfl rfl) <|
    (TR.l (r := i64 x7) rfl rfl (LOp.eqr (LOp.add rfl rfl rfl) (congrArg (ik .i64) hx5)) <|
    (TR.l (r := f32 a2) rfl rfl (LOp.move rfl rfl) <|
    (TR.l (r := f32 r4) rfl rfl (LOp.move rfl rfl) <|
    (TR.d (r := f32 x8) (fs := []) rfl rfl (TOp.eqr (TOp.fop (.inr (.inr (.inl rfl))) rfl (OpF.tmp rfl) (OpF.tmp rfl)) (congrArg (f .f32) hx6)) <|
    (TR.l (r := f32 a3) rfl rfl (LOp.move rfl rfl) <|
    (TR.l (r := f32 r5) rfl rfl (LOp.move rfl rfl) <|
    (TR.d (r := f32 x9) (fs := []) rfl rfl (TOp.eqr (TOp.fop (.inr (.inr (.inl rfl))) rfl (OpF.tmp rfl) (OpF.tmp rfl)) (congrArg (f .f32) hx7)) <|
    (TR.d (r := f32 x10) (fs := []) rfl rfl (TOp.eqr (TOp.fop (.inr (.inl rfl)) rfl (OpF.tmp rfl) (OpF.tmp rfl)) (congrArg (f .f32) hx8)) <|
    (TR.d (r := optr 1 0 x7.toNat) (fs := []) rfl rfl (TOp.ixo und23 siz26 rfl rfl rfl (set_in he9 hl2) rfl) <|
    TR.nil)))))))))))))))))))) rfl (by kernel_rfl) rfl fills_nil rfl ?_
   iterate 20 refine ROps.dropS ?_
   refine ROps.drop0 ?_
   refine ROps.st (f := f32) (i := x7) (Γ' := [⟨0, some [i64 a4, i64 a5, oref 1 0 0 a6.length]⟩, ⟨0, some (L11.map f32)⟩]) rfl siz26 rfl rfl rfl aR rfl rfl rfl he9 rfl ?_
   refine zN ?_
   refine RunC.wl (τ' := [(0, optr 0 0 0), (1, i64 a0), (2, i64 a1), (3, f32 a2), (4, f32 a3), (10, i64 v3), (11, f32 r4), (12, f32 r5)]) (Γ' := [⟨0, some [i64 a4, i64 a5, oref 1 0 0 a6.length]⟩, ⟨0, some (L11.map f32)⟩]) ⟨aR, aR, aR, aR, aR, aR, aR, aR, trivial⟩ ⟨⟨rfl, .inr rfl⟩, ⟨rfl, .inr rfl⟩, trivial⟩ ?_
   obtain ⟨x12, hx10, h2_⟩ := olet_some h2_
   obtain ⟨x13, hx11, h2_⟩ := olet_some h2_
   obtain ⟨x14, hx12, h2_⟩ := olet_some h2_
   obtain ⟨x15, hx13, h2_⟩ := olet_some h2_
   obtain ⟨x16, hx14, h2_⟩ := olet_some h2_
   obtain ⟨L17, he15, h2_⟩ := obind_some h2_
   refine RunC.region_draw (Γ' := [⟨0, some [i64 a4, i64 a5, oref 1 0 0 a6.length]⟩, ⟨0, some (L11.map f32)⟩]) 20 mixed 
    (TR.l (r := optr 0 0 0) rfl rfl (LOp.move rfl rfl) <|
    (TR.l (r := optr 0 0 0) rfl rfl (LOp.nilCheck_optr rfl rfl) <|
    (TR.l (r := optr 0 0 2) rfl rfl (LOp.fao und45 rfl siz23 rfl rfl rfl) <|
    (TR.d (r := oref 1 0 0 a6.length) (fs := []) rfl rfl (TOp.load1_o rfl rfl agg23 rfl rfl) <|
    (TR.l (r := i64 v3) rfl rfl (LOp.move rfl rfl) <|
    (TR.l (r := optr 0 0 0) rfl rfl (LOp.move rfl rfl) <|
    (TR.l (r := optr 0 0 0) rfl rfl (LOp.nilCheck_optr rfl rfl) <|
    (TR.l (r := optr 0 0 1) rfl rfl (LOp.fao und45 rfl siz2 rfl rfl rfl) <|
    (TR.d (r := i64 a5) (fs := []) rfl rfl (TOp.load1_o rfl rfl agg2 rfl rfl) <|
    (TR.l (r := i64 x12) rfl rfl (LOp.eqr (LOp.mul rfl rfl rfl) (congrArg (ik .i64) hx10)) <|
    (TR.l (r := i64 a1) rfl rfl (LOp.move rfl rfl) <|
    (TR.l (r := i64 x13) rfl rfl (LOp.eqr (LOp.add rfl rfl rfl) (congrArg (ik .i64) hx11)) <|
    (TR.l (r := f32 a3) rfl rfl (LOp.move rfl rfl) <|
    (TR.l (r := f32 r4) rfl rfl (LOp.move rfl rfl) <|
    (TR.d (r := f32 x14) (fs := []) rfl rfl (TOp.eqr (TOp.fop (.inr (.inr (.inl rfl))) rfl (OpF.tmp rfl) (OpF.tmp rfl)) (congrArg (f .f32) hx12)) <|
    (TR.l (r := f32 a2) rfl rfl (LOp.move rfl rfl) <|
    (TR.l (r := f32 r5) rfl rfl (LOp.move rfl rfl) <|
    (TR.d (r := f32 x15) (fs := []) rfl rfl (TOp.eqr (TOp.fop (.inr (.inr (.inl rfl))) rfl (OpF.tmp rfl) (OpF.tmp rfl)) (congrArg (f .f32) hx13)) <|
    (TR.d (r := f32 x16) (fs := []) rfl rfl (TOp.eqr (TOp.fop (.inl rfl) rfl (OpF.tmp rfl) (OpF.tmp rfl)) (congrArg (f .f32) hx14)) <|
    (TR.d (r := optr 1 0 x13.toNat) (fs := []) rfl rfl (TOp.ixo und23 siz26 rfl rfl rfl (set_in he15 ((setAt?_len he9).trans hl2)) rfl) <|
    TR.nil)))))))))))))))))))) rfl (by kernel_rfl) rfl fills_nil rfl ?_
   iterate 20 refine ROps.dropS ?_
   refine ROps.drop0 ?_
   refine ROps.st (f := f32) (i := x13) (Γ' := [⟨0, some [i64 a4, i64 a5, oref 1 0 0 a6.length]⟩, ⟨0, some (L17.map f32)⟩]) rfl siz26 rfl rfl rfl aR rfl rfl rfl he15 rfl ?_
   refine zN ?_
   refine RunC.wl (τ' := [(0, optr 0 0 0), (1, i64 a0), (2, i64 a1), (3, f32 a2), (4, f32 a3), (10, i64 v3)]) (Γ' := [⟨0, some [i64 a4, i64 a5, oref 1 0 0 a6.length]⟩, ⟨0, some (L17.map f32)⟩]) ⟨aR, aR, aR, aR, aR, aR, trivial⟩ ⟨⟨rfl, .inr rfl⟩, ⟨rfl, .inr rfl⟩, trivial⟩ ?_
   obtain ⟨x18, hx16, h2_⟩ := olet_some h2_
   refine RunC.regionW ?_
   refine zM (r := i64 v3) rfl rfl rfl rfl rfl ?_
   refine zL (r := i64 x18) rfl rfl rfl (LOp.eqr (LOp.add rfl rfl rfl) (congrArg (ik .i64) hx16)) ?_
   refine zA (r := i64 x18) rfl rfl rfl rfl rfl ?_
   refine zN ?_
   cases Option.some.inj h2_
   exact ⟨_, rfl, ((setAt?_len he15).trans ((setAt?_len he9).trans hl2)), ⟨aR, aR, aR, aR, aR, aR, trivial⟩, ⟨⟨rfl, .inr rfl⟩, ⟨rfl, .inr rfl⟩, trivial⟩⟩
  ·refine RunC.regionW ?_
   refine zM (r := i64 v3) rfl rfl rfl rfl rfl ?_
   refine zM (r := optr 0 0 0) rfl rfl rfl rfl rfl ?_
   refine zL (r := optr 0 0 0) rfl rfl rfl (LOp.nilCheck_optr rfl rfl) ?_
   refine zL (r := optr 0 0 0) rfl rfl rfl (LOp.fao und45 rfl siz2 rfl rfl rfl) ?_
   refine ROps.d (r := i64 a4) (fs := []) (Γ' := [⟨0, some [i64 a4, i64 a5, oref 1 0 0 a6.length]⟩, ⟨0, some (L1.map f32)⟩]) rfl rfl rfl (TOp.load1_o rfl rfl agg2 rfl rfl) rfl ?_
   refine zL (r := b false) rfl rfl rfl (LOp.eqb (LOp.lss rfl rfl rfl) hc1) ?_
   refine zN ?_
   refine RunC.cond_false rfl rfl ?_
   refine RunC.exit ?_
   cases Option.some.inj h2_
   have hx := ho2 _ rfl
   exact ⟨L1, hl2, trivial, ⟨⟨rfl, .inr rfl⟩, ⟨rfl, .inr rfl⟩, trivial⟩, hx⟩
 ·rintro τ3 Γ3 ⟨L19, hl20, hw3, hd3, rfl⟩
  replace h : s_l04Columns_0p0_C02o1_k1 L19 = some q0 := h
  unfold s_l04Columns_0p0_C02o1_k1 at h
  refine bodyQ.wl hw3 hd3 ?_
  have hq := Option.some.inj h
  subst q0
  exact bodyQ.mk (r' := tup []) [(0, 0), (1, 0)] (.inl rfl) rfl (show List.Nodup [0, 1] from by decide) rfl rfl (Res.zero rfl) (SelL.cells rfl (by first | rfl | simp [ren, rens, sigma, rens_f32, rens_f64, rens_i64, rens_ik, rens_str, rens_cp]) rfl (SelL.arr (f := f32) (fun _ => rfl) rfl trivial))
noncomputable def s_l04Rows_0p0_C02o1_b1 (a0 : Int) (a1 : Int) (a2 : F) (a3 : F) (a4 : Int) (a5 : Int) (L1 : List F) (v3 : Int) : Option (LR ((List F) × Int) ((List F)) ((List F))) :=
 bsel (decide (v3 < a5)) (
  obind (s_l02At a4 a5 L1 a0 v3) fun (r4 : F) =>
  obind (s_l02At a4 a5 L1 a1 v3) fun (r5 : F) =>
  olet (IntKind.i64.wrap (a0 * a5)) fun (x6 : Int) =>
  olet (IntKind.i64.wrap (x6 + v3)) fun (x7 : Int) =>
  olet (fop .mul .f32 a2 r4) fun (x8 : F) =>
  olet (fop .mul .f32 a3 r5) fun (x9 : F) =>
  olet (fop .sub .f32 x8 x9) fun (x10 : F) =>
  obind (setAt? L1 x7 x10) fun (L11 : List F) =>
  olet (IntKind.i64.wrap (a1 * a5)) fun (x12 : Int) =>
  olet (IntKind.i64.wrap (x12 + v3)) fun (x13 : Int) =>
  olet (fop .mul .f32 a3 r4) fun (x14 : F) =>
  olet (fop .mul .f32 a2 r5) fun (x15 : F) =>
  olet (fop .add .f32 x14 x15) fun (x16 : F) =>
  obind (setAt? L11 x13 x16) fun (L17 : List F) =>
  olet (IntKind.i64.wrap (v3 + 1)) fun (x18 : Int) =>
  some (LR.next (L17, x18))) (
  some (LR.out L1))
noncomputable def s_l04Rows_0p0_C02o1_s1 (a0 : Int) (a1 : Int) (a2 : F) (a3 : F) (a4 : Int) (a5 : Int) : ((List F) × Int) → Option (LR ((List F) × Int) ((List F)) ((List F))) := fun s => s_l04Rows_0p0_C02o1_b1 a0 a1 a2 a3 a4 a5 s.1 s.2
noncomputable def s_l04Rows_0p0_C02o1_k1 (L19 : List F) : Option ((List F)) :=
 some L19
noncomputable def s_l04Rows_0p0_C02o1 (a0 : Int) (a1 : Int) (a2 : F) (a3 : F) (a4 : Int) (a5 : Int) (a6 : List F) : Option ((List F)) :=
 obind (loopM (s_l04Rows_0p0_C02o1_s1 a0 a1 a2 a3 a4 a5) (a6, 0)) fun z => osum z (fun e => s_l04Rows_0p0_C02o1_k1 e) (fun r => some r)
theorem s_l04Rows_0p0_C02o1_ok (a0 : Int) (a1 : Int) (a2 : F) (a3 : F) (a4 : Int) (a5 : Int) (a6 : List F) (q0 : List F) (h : s_l04Rows_0p0_C02o1 a0 a1 a2 a3 a4 a5 a6 = some q0) : Ev Try.prog 111 [optr 0 0 0, i64 a0, i64 a1, f32 a2, f32 a3] [⟨0, some [i64 a4, i64 a5, oref 1 0 0 a6.length]⟩, ⟨0, some (a6.map f32)⟩] (tup []) [⟨0, some [i64 a4, i64 a5, oref 1 0 0 a6.length]⟩, ⟨0, some (q0.map f32)⟩] := by
 refine Ev.start Try.func111 rfl rfl 0 (τ := [(0, optr 0 0 0), (1, i64 a0), (2, i64 a1), (3, f32 a2), (4, f32 a3)]) rfl (Γ' := [⟨0, some [i64 a4, i64 a5, oref 1 0 0 a6.length]⟩, ⟨0, some (a6.map f32)⟩]) rfl (n := 138) rfl (g := 2) rfl (by decide) ?_
 unfold s_l04Rows_0p0_C02o1 at h
 refine zQ ?_
 refine zA (r := i64 0) rfl rfl rfl rfl rfl ?_
 refine zN ?_
 obtain ⟨z2, hz_2, h⟩ := obind_some h
 refine RunC.cutN (fun τ Γ => ∃ (L19 : List F), L19.length = a6.length ∧ WeakLe τ [] ∧ DeadLe Γ [⟨0, some [i64 a4, i64 a5, oref 1 0 0 a6.length]⟩, ⟨0, some (L19.map f32)⟩] ∧ z2 = .inl L19) ?_ ?_
 ·refine RunC.block (RunC.loop (RunL.loopM (x := z2) (s_l04Rows_0p0_C02o1_s1 a0 a1 a2 a3 a4 a5) (fun (s : (List F) × Int) τ Γ => s.1.length = a6.length ∧ WeakLe τ [(0, optr 0 0 0), (1, i64 a0), (2, i64 a1), (3, f32 a2), (4, f32 a3), (10, i64 s.2)] ∧ DeadLe Γ [⟨0, some [i64 a4, i64 a5, oref 1 0 0 a6.length]⟩, ⟨0, some (s.1.map f32)⟩]) ?_ _ _ _ hz_2 ⟨rfl, ⟨aR, aR, aR, aR, aR, aR, trivial⟩, ⟨⟨rfl, .inr rfl⟩, ⟨rfl, .inr rfl⟩, trivial⟩⟩))
  rintro ⟨L1, v3⟩ τ2 Γ2 y2_ ⟨hl2, hw2, hd2⟩ h2_ ho2 hr2
  refine RunC.wl (τ' := [(0, optr 0 0 0), (1, i64 a0), (2, i64 a1), (3, f32 a2), (4, f32 a3), (10, i64 v3)]) (Γ' := [⟨0, some [i64 a4, i64 a5, oref 1 0 0 a6.length]⟩, ⟨0, some (L1.map f32)⟩]) hw2 hd2 ?_
  replace hl2 : L1.length = a6.length := hl2
  replace h2_ : s_l04Rows_0p0_C02o1_b1 a0 a1 a2 a3 a4 a5 L1 v3 = some y2_ := h2_
  unfold s_l04Rows_0p0_C02o1_b1 at h2_
  refine RunC.seq ?_
  refine RunC.seq ?_
  rcases bsel_some h2_ with ⟨hc1, h2_⟩ | ⟨hc1, h2_⟩
  ·refine RunC.regionW ?_
   refine zM (r := i64 v3) rfl rfl rfl rfl rfl ?_
   refine zM (r := optr 0 0 0) rfl rfl rfl rfl rfl ?_
   refine zL (r := optr 0 0 0) rfl rfl rfl (LOp.nilCheck_optr rfl rfl) ?_
   refine zL (r := optr 0 0 1) rfl rfl rfl (LOp.fao und45 rfl siz2 rfl rfl rfl) ?_
   refine ROps.d (r := i64 a5) (fs := []) (Γ' := [⟨0, some [i64 a4, i64 a5, oref 1 0 0 a6.length]⟩, ⟨0, some (L1.map f32)⟩]) rfl rfl rfl (TOp.load1_o rfl rfl agg2 rfl rfl) rfl ?_
   refine zL (r := b true) rfl rfl rfl (LOp.eqb (LOp.lss rfl rfl rfl) hc1) ?_
   refine zN ?_
   refine RunC.cond_true rfl rfl ?_
   refine RunC.skip ?_
   refine RunC.seq ?_
   refine RunC.block ?_
   refine RunC.seq ?_
   obtain ⟨r4, hf2, h2_⟩ := obind_some h2_
   refine RunC.regionW ?_
   refine zM (r := optr 0 0 0) rfl rfl rfl rfl rfl ?_
   refine zM (r := i64 a0) rfl rfl rfl rfl rfl ?_
   refine zM (r := i64 v3) rfl rfl rfl rfl rfl ?_
   refine ROps.d (r := f32 r4) (fs := []) (Γ' := [⟨0, some [i64 a4, i64 a5, oref 1 0 0 a6.length]⟩, ⟨0, some (L1.map f32)⟩]) rfl rfl rfl (TOp.callB (CallAs.func ent65 rfl rfl) (Bors.cons (Bor.optr rfl (Bors.p (Bors.cons (Bor.pure rfl) (Bors.cons (Bor.pure rfl) (Bors.cons (Bor.own (f := f32) (fun _ => rfl) rfl hl2) Bors.nil)))) rfl) (Bors.cons (Bor.pure rfl) (Bors.cons (Bor.pure rfl) Bors.nil))) rfl rfl (s_l02At_ok a4 a5 L1 a0 v3 r4 hf2)) rfl ?_
   refine zA (r := f32 r4) rfl rfl rfl rfl rfl ?_
   refine zN ?_
   refine RunC.seq ?_
   obtain ⟨r5, hf3, h2_⟩ := obind_some h2_
   refine RunC.regionW ?_
   refine zM (r := optr 0 0 0) rfl rfl rfl rfl rfl ?_
   refine zM (r := i64 a1) rfl rfl rfl rfl rfl ?_
   refine zM (r := i64 v3) rfl rfl rfl rfl rfl ?_
   refine ROps.d (r := f32 r5) (fs := []) (Γ' := [⟨0, some [i64 a4, i64 a5, oref 1 0 0 a6.length]⟩, ⟨0, some (L1.map f32)⟩]) rfl rfl rfl (TOp.callB (CallAs.func ent65 rfl rfl) (Bors.cons (Bor.optr rfl (Bors.p (Bors.cons (Bor.pure rfl) (Bors.cons (Bor.pure rfl) (Bors.cons (Bor.own (f := f32) (fun _ => rfl) rfl hl2) Bors.nil)))) rfl) (Bors.cons (Bor.pure rfl) (Bors.cons (Bor.pure rfl) Bors.nil))) rfl rfl (s_l02At_ok a4 a5 L1 a1 v3 r5 hf3)) rfl ?_
   refine zA (r := f32 r5) rfl rfl rfl rfl rfl ?_
   refine zN ?_
   refine RunC.wl (τ' := [(0, optr 0 0 0), (1, i64 a0), (2, i64 a1), (3, f32 a2), (4, f32 a3), (10, i64 v3), (11, f32 r4), (12, f32 r5)]) (Γ' := [⟨0, some [i64 a4, i64 a5, oref 1 0 0 a6.length]⟩, ⟨0, some (L1.map f32)⟩]) ⟨aR, aR, aR, aR, aR, aR, aR, aR, trivial⟩ ⟨⟨rfl, .inr rfl⟩, ⟨rfl, .inr rfl⟩, trivial⟩ ?_
   refine RunC.seq ?_
   obtain ⟨x6, hx4, h2_⟩ := olet_some h2_
   obtain ⟨x7, hx5, h2_⟩ := olet_some h2_
   obtain ⟨x8, hx6, h2_⟩ := olet_some h2_
   obtain ⟨x9, hx7, h2_⟩ := olet_some h2_
   obtain ⟨x10, hx8, h2_⟩ := olet_some h2_
   obtain ⟨L11, he9, h2_⟩ := obind_some h2_
   refine RunC.region_draw (Γ' := [⟨0, some [i64 a4, i64 a5, oref 1 0 0 a6.length]⟩, ⟨0, some (L1.map f32)⟩]) 20 mixed 
    (TR.l (r := optr 0 0 0) rfl rfl (LOp.move rfl rfl) <|
    (TR.l (r := optr 0 0 0) rfl rfl (LOp.nilCheck_optr rfl rfl) <|
    (TR.l (r := optr 0 0 2) rfl rfl (LOp.fao und45 rfl siz23 rfl rfl rfl) <|
    (TR.d (r := oref 1 0 0 a6.length) (fs := []) rfl rfl (TOp.load1_o rfl rfl agg23 rfl rfl) <|
    (TR.l (r := i64 a0) rfl rfl (LOp.move rfl rfl) <|
    (TR.l (r := optr 0 0 0) rfl rfl (LOp.move rfl rfl) <|
    (TR.l (r := optr 0 0 0) rfl rfl (LOp.nilCheck_optr rfl rfl) <|
    (TR.l (r := optr 0 0 1) rfl rfl (LOp.fao und45 rfl siz2 rfl rfl rfl) <|
    (TR.d (r := i64 a5) (fs := []) rfl rfl (TOp.load1_o rfl rfl agg2 rfl rfl) <|
    (TR.l (r := i64 x6) rfl rfl (LOp.eqr (LOp.mul rfl rfl rfl) (congrArg (ik .i64) hx4)) <|
    (TR.l (r := i64 v3) rfl rfl (LOp.move rfl rfl) <|
    (TR.l (r := i64 x7) rfl rfl (LOp.eqr (LOp.add rfl rfl rfl) (congrArg (ik .i64) hx5)) <|
    (TR.l (r := f32 a2) rfl rfl (LOp.move rfl rfl) <|
    (TR.l (r := f32 r4) rfl rfl (LOp.move rfl rfl) <|
    (TR.d (r := f32 x8) (fs := []) rfl rfl (TOp.eqr (TOp.fop (.inr (.inr (.inl rfl))) rfl (OpF.tmp rfl) (OpF.tmp rfl)) (congrArg (f .f32) hx6)) <|
    (TR.l (r := f32 a3) rfl rfl (LOp.move rfl rfl) <|
    (TR.l (r := f32 r5) rfl rfl (LOp.move rfl rfl) <|
    (TR.d (r := f32 x9) (fs := []) rfl rfl (TOp.eqr (TOp.fop (.inr (.inr (.inl rfl))) rfl (OpF.tmp rfl) (OpF.tmp rfl)) (congrArg (f .f32) hx7)) <|
    (TR.d (r := f32 x10) (fs := []) rfl rfl (TOp.eqr (TOp.fop (.inr (.inl rfl)) rfl (OpF.tmp rfl) (OpF.tmp rfl)) (congrArg (f .f32) hx8)) <|
    (TR.d (r := optr 1 0 x7.toNat) (fs := []) rfl rfl (TOp.ixo und23 siz26 rfl rfl rfl (set_in he9 hl2) rfl) <|
    TR.nil)))))))))))))))))))) rfl (by kernel_rfl) rfl fills_nil rfl ?_
   iterate 20 refine ROps.dropS ?_
   refine ROps.drop0 ?_
   refine ROps.st (f := f32) (i := x7) (Γ' := [⟨0, some [i64 a4, i64 a5, oref 1 0 0 a6.length]⟩, ⟨0, some (L11.map f32)⟩]) rfl siz26 rfl rfl rfl aR rfl rfl rfl he9 rfl ?_
   refine zN ?_
   refine RunC.wl (τ' := [(0, optr 0 0 0), (1, i64 a0), (2, i64 a1), (3, f32 a2), (4, f32 a3), (10, i64 v3), (11, f32 r4), (12, f32 r5)]) (Γ' := [⟨0, some [i64 a4, i64 a5, oref 1 0 0 a6.length]⟩, ⟨0, some (L11.map f32)⟩]) ⟨aR, aR, aR, aR, aR, aR, aR, aR, trivial⟩ ⟨⟨rfl, .inr rfl⟩, ⟨rfl, .inr rfl⟩, trivial⟩ ?_
   obtain ⟨x12, hx10, h2_⟩ := olet_some h2_
   obtain ⟨x13, hx11, h2_⟩ := olet_some h2_
   obtain ⟨x14, hx12, h2_⟩ := olet_some h2_
   obtain ⟨x15, hx13, h2_⟩ := olet_some h2_
   obtain ⟨x16, hx14, h2_⟩ := olet_some h2_
   obtain ⟨L17, he15, h2_⟩ := obind_some h2_
   refine RunC.region_draw (Γ' := [⟨0, some [i64 a4, i64 a5, oref 1 0 0 a6.length]⟩, ⟨0, some (L11.map f32)⟩]) 20 mixed 
    (TR.l (r := optr 0 0 0) rfl rfl (LOp.move rfl rfl) <|
    (TR.l (r := optr 0 0 0) rfl rfl (LOp.nilCheck_optr rfl rfl) <|
    (TR.l (r := optr 0 0 2) rfl rfl (LOp.fao und45 rfl siz23 rfl rfl rfl) <|
    (TR.d (r := oref 1 0 0 a6.length) (fs := []) rfl rfl (TOp.load1_o rfl rfl agg23 rfl rfl) <|
    (TR.l (r := i64 a1) rfl rfl (LOp.move rfl rfl) <|
    (TR.l (r := optr 0 0 0) rfl rfl (LOp.move rfl rfl) <|
    (TR.l (r := optr 0 0 0) rfl rfl (LOp.nilCheck_optr rfl rfl) <|
    (TR.l (r := optr 0 0 1) rfl rfl (LOp.fao und45 rfl siz2 rfl rfl rfl) <|
    (TR.d (r := i64 a5) (fs := []) rfl rfl (TOp.load1_o rfl rfl agg2 rfl rfl) <|
    (TR.l (r := i64 x12) rfl rfl (LOp.eqr (LOp.mul rfl rfl rfl) (congrArg (ik .i64) hx10)) <|
    (TR.l (r := i64 v3) rfl rfl (LOp.move rfl rfl) <|
    (TR.l (r := i64 x13) rfl rfl (LOp.eqr (LOp.add rfl rfl rfl) (congrArg (ik .i64) hx11)) <|
    (TR.l (r := f32 a3) rfl rfl (LOp.move rfl rfl) <|
    (TR.l (r := f32 r4) rfl rfl (LOp.move rfl rfl) <|
    (TR.d (r := f32 x14) (fs := []) rfl rfl (TOp.eqr (TOp.fop (.inr (.inr (.inl rfl))) rfl (OpF.tmp rfl) (OpF.tmp rfl)) (congrArg (f .f32) hx12)) <|
    (TR.l (r := f32 a2) rfl rfl (LOp.move rfl rfl) <|
    (TR.l (r := f32 r5) rfl rfl (LOp.move rfl rfl) <|
    (TR.d (r := f32 x15) (fs := []) rfl rfl (TOp.eqr (TOp.fop (.inr (.inr (.inl rfl))) rfl (OpF.tmp rfl) (OpF.tmp rfl)) (congrArg (f .f32) hx13)) <|
    (TR.d (r := f32 x16) (fs := []) rfl rfl (TOp.eqr (TOp.fop (.inl rfl) rfl (OpF.tmp rfl) (OpF.tmp rfl)) (congrArg (f .f32) hx14)) <|
    (TR.d (r := optr 1 0 x13.toNat) (fs := []) rfl rfl (TOp.ixo und23 siz26 rfl rfl rfl (set_in he15 ((setAt?_len he9).trans hl2)) rfl) <|
    TR.nil)))))))))))))))))))) rfl (by kernel_rfl) rfl fills_nil rfl ?_
   iterate 20 refine ROps.dropS ?_
   refine ROps.drop0 ?_
   refine ROps.st (f := f32) (i := x13) (Γ' := [⟨0, some [i64 a4, i64 a5, oref 1 0 0 a6.length]⟩, ⟨0, some (L17.map f32)⟩]) rfl siz26 rfl rfl rfl aR rfl rfl rfl he15 rfl ?_
   refine zN ?_
   refine RunC.wl (τ' := [(0, optr 0 0 0), (1, i64 a0), (2, i64 a1), (3, f32 a2), (4, f32 a3), (10, i64 v3)]) (Γ' := [⟨0, some [i64 a4, i64 a5, oref 1 0 0 a6.length]⟩, ⟨0, some (L17.map f32)⟩]) ⟨aR, aR, aR, aR, aR, aR, trivial⟩ ⟨⟨rfl, .inr rfl⟩, ⟨rfl, .inr rfl⟩, trivial⟩ ?_
   obtain ⟨x18, hx16, h2_⟩ := olet_some h2_
   refine RunC.regionW ?_
   refine zM (r := i64 v3) rfl rfl rfl rfl rfl ?_
   refine zL (r := i64 x18) rfl rfl rfl (LOp.eqr (LOp.add rfl rfl rfl) (congrArg (ik .i64) hx16)) ?_
   refine zA (r := i64 x18) rfl rfl rfl rfl rfl ?_
   refine zN ?_
   cases Option.some.inj h2_
   exact ⟨_, rfl, ((setAt?_len he15).trans ((setAt?_len he9).trans hl2)), ⟨aR, aR, aR, aR, aR, aR, trivial⟩, ⟨⟨rfl, .inr rfl⟩, ⟨rfl, .inr rfl⟩, trivial⟩⟩
  ·refine RunC.regionW ?_
   refine zM (r := i64 v3) rfl rfl rfl rfl rfl ?_
   refine zM (r := optr 0 0 0) rfl rfl rfl rfl rfl ?_
   refine zL (r := optr 0 0 0) rfl rfl rfl (LOp.nilCheck_optr rfl rfl) ?_
   refine zL (r := optr 0 0 1) rfl rfl rfl (LOp.fao und45 rfl siz2 rfl rfl rfl) ?_
   refine ROps.d (r := i64 a5) (fs := []) (Γ' := [⟨0, some [i64 a4, i64 a5, oref 1 0 0 a6.length]⟩, ⟨0, some (L1.map f32)⟩]) rfl rfl rfl (TOp.load1_o rfl rfl agg2 rfl rfl) rfl ?_
   refine zL (r := b false) rfl rfl rfl (LOp.eqb (LOp.lss rfl rfl rfl) hc1) ?_
   refine zN ?_
   refine RunC.cond_false rfl rfl ?_
   refine RunC.exit ?_
   cases Option.some.inj h2_
   have hx := ho2 _ rfl
   exact ⟨L1, hl2, trivial, ⟨⟨rfl, .inr rfl⟩, ⟨rfl, .inr rfl⟩, trivial⟩, hx⟩
 ·rintro τ3 Γ3 ⟨L19, hl20, hw3, hd3, rfl⟩
  replace h : s_l04Rows_0p0_C02o1_k1 L19 = some q0 := h
  unfold s_l04Rows_0p0_C02o1_k1 at h
  refine bodyQ.wl hw3 hd3 ?_
  have hq := Option.some.inj h
  subst q0
  exact bodyQ.mk (r' := tup []) [(0, 0), (1, 0)] (.inl rfl) rfl (show List.Nodup [0, 1] from by decide) rfl rfl (Res.zero rfl) (SelL.cells rfl (by first | rfl | simp [ren, rens, sigma, rens_f32, rens_f64, rens_i64, rens_ik, rens_str, rens_cp]) rfl (SelL.arr (f := f32) (fun _ => rfl) rfl trivial))
noncomputable def s_l04Turned_0p0_C02o1 (a0 : Int) (a1 : Int) (a2 : F) (a3 : F) (a4 : Int) (a5 : Int) (a6 : List F) : Option ((List F)) :=
 obind (s_l04Rows_0p0_C02o1 a0 a1 a2 a3 a4 a5 a6) fun (r1 : List F) =>
 need (decide (r1.length = a6.length)) <|
 obind (s_l04Columns_0p0_C02o1 a0 a1 a2 a3 a4 a5 r1) fun (r2 : List F) =>
 need (decide (r2.length = a6.length)) <|
 olet (IntKind.i64.wrap (a0 * a5)) fun (x3 : Int) =>
 olet (IntKind.i64.wrap (x3 + a1)) fun (x4 : Int) =>
 obind (setAt? r2 x4 (some 0)) fun (L5 : List F) =>
 olet (IntKind.i64.wrap (a1 * a5)) fun (x6 : Int) =>
 olet (IntKind.i64.wrap (x6 + a0)) fun (x7 : Int) =>
 obind (setAt? L5 x7 (some 0)) fun (L8 : List F) =>
 some L8
theorem s_l04Turned_0p0_C02o1_ok (a0 : Int) (a1 : Int) (a2 : F) (a3 : F) (a4 : Int) (a5 : Int) (a6 : List F) (q0 : List F) (h : s_l04Turned_0p0_C02o1 a0 a1 a2 a3 a4 a5 a6 = some q0) : Ev Try.prog 63 [optr 0 0 0, i64 a0, i64 a1, f32 a2, f32 a3] [⟨0, some [i64 a4, i64 a5, oref 1 0 0 a6.length]⟩, ⟨0, some (a6.map f32)⟩] (tup []) [⟨0, some [i64 a4, i64 a5, oref 1 0 0 a6.length]⟩, ⟨0, some (q0.map f32)⟩] := by
 refine Ev.start Try.func63 rfl rfl 0 (τ := [(0, optr 0 0 0), (1, i64 a0), (2, i64 a1), (3, f32 a2), (4, f32 a3)]) rfl (Γ' := [⟨0, some [i64 a4, i64 a5, oref 1 0 0 a6.length]⟩, ⟨0, some (a6.map f32)⟩]) rfl (n := 96) rfl (g := 2) rfl (by decide) ?_
 unfold s_l04Turned_0p0_C02o1 at h
 refine RunC.seq ?_
 obtain ⟨r1, hf1, h⟩ := obind_some h
 obtain ⟨hn2, h⟩ := need_some h
 refine RunC.regionW ?_
 refine zM (r := optr 0 0 0) rfl rfl rfl rfl rfl ?_
 refine zM (r := i64 a0) rfl rfl rfl rfl rfl ?_
 refine zM (r := i64 a1) rfl rfl rfl rfl rfl ?_
 refine zM (r := f32 a2) rfl rfl rfl rfl rfl ?_
 refine zM (r := f32 a3) rfl rfl rfl rfl rfl ?_
 refine ROps.callO (A := [optr 0 0 0, i64 a0, i64 a1, f32 a2, f32 a3]) (args := [optr 0 0 0, i64 a0, i64 a1, f32 a2, f32 a3]) (Γc := [⟨0, some [i64 a4, i64 a5, oref 1 0 0 a6.length]⟩, ⟨0, some (a6.map f32)⟩]) (Γc' := [⟨0, some [i64 a4, i64 a5, oref 1 0 0 a6.length]⟩, ⟨0, some (r1.map f32)⟩]) (r' := tup []) (Γ' := [⟨0, some [i64 a4, i64 a5, oref 1 0 0 a6.length]⟩, ⟨0, some (r1.map f32)⟩]) [(0, 0), (1, 0)] [] rfl (CallAs.func ent111 rfl rfl) rfl rfl (SelOk.of (show List.Nodup [0, 1] from by decide) (SelL.cells0 rfl (by simp [ren, rens, sigma, rens_f32, rens_f64, rens_i64, rens_ik, rens_str, rens_cp]) rfl (SelL.arr0 (f := f32) (fun _ => rfl) rfl trivial))) (live_of ⟨⟨_, _, rfl⟩, ⟨_, _, rfl⟩, trivial⟩) (by simp [ren, rens, sigma, rens_f32, rens_f64, rens_i64, rens_ik, rens_str, rens_cp]) rfl (s_l04Rows_0p0_C02o1_ok a0 a1 a2 a3 a4 a5 a6 r1 hf1) rfl (news_of trivial) (show List.Nodup [0, 1] from by decide) (by simp [ren, rens, sigma, of_decide_eq_true hn2]) (by simp [backOb, sigma, ren, rens, rens_f32, rens_f64, rens_i64, rens_ik, rens_str, rens_cp, of_decide_eq_true hn2]) ?_
 refine zN ?_
 refine RunC.seq ?_
 obtain ⟨r2, hf3, h⟩ := obind_some h
 obtain ⟨hn4, h⟩ := need_some h
 refine RunC.regionW ?_
 refine zM (r := optr 0 0 0) rfl rfl rfl rfl rfl ?_
 refine zM (r := i64 a0) rfl rfl rfl rfl rfl ?_
 refine zM (r := i64 a1) rfl rfl rfl rfl rfl ?_
 refine zM (r := f32 a2) rfl rfl rfl rfl rfl ?_
 refine zM (r := f32 a3) rfl rfl rfl rfl rfl ?_
 refine ROps.callO (A := [optr 0 0 0, i64 a0, i64 a1, f32 a2, f32 a3]) (args := [optr 0 0 0, i64 a0, i64 a1, f32 a2, f32 a3]) (Γc := [⟨0, some [i64 a4, i64 a5, oref 1 0 0 r1.length]⟩, ⟨0, some (r1.map f32)⟩]) (Γc' := [⟨0, some [i64 a4, i64 a5, oref 1 0 0 r1.length]⟩, ⟨0, some (r2.map f32)⟩]) (r' := tup []) (Γ' := [⟨0, some [i64 a4, i64 a5, oref 1 0 0 a6.length]⟩, ⟨0, some (r2.map f32)⟩]) [(0, 0), (1, 0)] [] rfl (CallAs.func ent62 rfl rfl) rfl rfl (SelOk.of (show List.Nodup [0, 1] from by decide) (SelL.cells0 rfl (by simp [ren, rens, sigma, rens_f32, rens_f64, rens_i64, rens_ik, rens_str, rens_cp, (of_decide_eq_true hn2)]) rfl (SelL.arr0 (f := f32) (fun _ => rfl) rfl trivial))) (live_of ⟨⟨_, _, rfl⟩, ⟨_, _, rfl⟩, trivial⟩) (by simp [ren, rens, sigma, rens_f32, rens_f64, rens_i64, rens_ik, rens_str, rens_cp, (of_decide_eq_true hn2)]) rfl (s_l04Columns_0p0_C02o1_ok a0 a1 a2 a3 a4 a5 r1 r2 hf3) rfl (news_of trivial) (show List.Nodup [0, 1] from by decide) (by simp [ren, rens, sigma, of_decide_eq_true hn4]) (by simp [backOb, sigma, ren, rens, rens_f32, rens_f64, rens_i64, rens_ik, rens_str, rens_cp, (of_decide_eq_true hn2), of_decide_eq_true hn4]) ?_
 refine zN ?_
 refine RunC.wl (τ' := [(0, optr 0 0 0), (1, i64 a0), (2, i64 a1)]) (Γ' := [⟨0, some [i64 a4, i64 a5, oref 1 0 0 a6.length]⟩, ⟨0, some (r2.map f32)⟩]) ⟨aR, aR, aR, trivial⟩ ⟨⟨rfl, .inr rfl⟩, ⟨rfl, .inr rfl⟩, trivial⟩ ?_
 refine RunC.seq ?_
 obtain ⟨x3, hx5, h⟩ := olet_some h
 obtain ⟨x4, hx6, h⟩ := olet_some h
 obtain ⟨L5, he7, h⟩ := obind_some h
 refine RunC.region_draw (Γ' := [⟨0, some [i64 a4, i64 a5, oref 1 0 0 a6.length]⟩, ⟨0, some (r2.map f32)⟩]) 13 mixed 
  (TR.l (r := optr 0 0 0) rfl rfl (LOp.move rfl rfl) <|
  (TR.l (r := optr 0 0 0) rfl rfl (LOp.nilCheck_optr rfl rfl) <|
  (TR.l (r := optr 0 0 2) rfl rfl (LOp.fao und45 rfl siz23 rfl rfl rfl) <|
  (TR.d (r := oref 1 0 0 a6.length) (fs := []) rfl rfl (TOp.load1_o rfl rfl agg23 rfl rfl) <|
  (TR.l (r := i64 a0) rfl rfl (LOp.move rfl rfl) <|
  (TR.l (r := optr 0 0 0) rfl rfl (LOp.move rfl rfl) <|
  (TR.l (r := optr 0 0 0) rfl rfl (LOp.nilCheck_optr rfl rfl) <|
  (TR.l (r := optr 0 0 1) rfl rfl (LOp.fao und45 rfl siz2 rfl rfl rfl) <|
  (TR.d (r := i64 a5) (fs := []) rfl rfl (TOp.load1_o rfl rfl agg2 rfl rfl) <|
  (TR.l (r := i64 x3) rfl rfl (LOp.eqr (LOp.mul rfl rfl rfl) (congrArg (ik .i64) hx5)) <|
  (TR.l (r := i64 a1) rfl rfl (LOp.move rfl rfl) <|
  (TR.l (r := i64 x4) rfl rfl (LOp.eqr (LOp.add rfl rfl rfl) (congrArg (ik .i64) hx6)) <|
  (TR.d (r := optr 1 0 x4.toNat) (fs := []) rfl rfl (TOp.ixo und23 siz26 rfl rfl rfl (set_in he7 (of_decide_eq_true hn4)) rfl) <|
  TR.nil))))))))))))) rfl (by kernel_rfl) rfl fills_nil rfl ?_
 iterate 13 refine ROps.dropS ?_
 refine ROps.drop0 ?_
 refine ROps.st (f := f32) (i := x4) (Γ' := [⟨0, some [i64 a4, i64 a5, oref 1 0 0 a6.length]⟩, ⟨0, some (L5.map f32)⟩]) rfl siz26 rfl rfl rfl (ALe.fl (by kernel_rfl) (by kernel_rfl)) rfl rfl rfl he7 rfl ?_
 refine zN ?_
 refine RunC.wl (τ' := [(0, optr 0 0 0), (1, i64 a0), (2, i64 a1)]) (Γ' := [⟨0, some [i64 a4, i64 a5, oref 1 0 0 a6.length]⟩, ⟨0, some (L5.map f32)⟩]) ⟨aR, aR, aR, trivial⟩ ⟨⟨rfl, .inr rfl⟩, ⟨rfl, .inr rfl⟩, trivial⟩ ?_
 obtain ⟨x6, hx8, h⟩ := olet_some h
 obtain ⟨x7, hx9, h⟩ := olet_some h
 obtain ⟨L8, he10, h⟩ := obind_some h
 refine RunC.region_draw (Γ' := [⟨0, some [i64 a4, i64 a5, oref 1 0 0 a6.length]⟩, ⟨0, some (L5.map f32)⟩]) 13 mixed 
  (TR.l (r := optr 0 0 0) rfl rfl (LOp.move rfl rfl) <|
  (TR.l (r := optr 0 0 0) rfl rfl (LOp.nilCheck_optr rfl rfl) <|
  (TR.l (r := optr 0 0 2) rfl rfl (LOp.fao und45 rfl siz23 rfl rfl rfl) <|
  (TR.d (r := oref 1 0 0 a6.length) (fs := []) rfl rfl (TOp.load1_o rfl rfl agg23 rfl rfl) <|
  (TR.l (r := i64 a1) rfl rfl (LOp.move rfl rfl) <|
  (TR.l (r := optr 0 0 0) rfl rfl (LOp.move rfl rfl) <|
  (TR.l (r := optr 0 0 0) rfl rfl (LOp.nilCheck_optr rfl rfl) <|
  (TR.l (r := optr 0 0 1) rfl rfl (LOp.fao und45 rfl siz2 rfl rfl rfl) <|
  (TR.d (r := i64 a5) (fs := []) rfl rfl (TOp.load1_o rfl rfl agg2 rfl rfl) <|
  (TR.l (r := i64 x6) rfl rfl (LOp.eqr (LOp.mul rfl rfl rfl) (congrArg (ik .i64) hx8)) <|
  (TR.l (r := i64 a0) rfl rfl (LOp.move rfl rfl) <|
  (TR.l (r := i64 x7) rfl rfl (LOp.eqr (LOp.add rfl rfl rfl) (congrArg (ik .i64) hx9)) <|
  (TR.d (r := optr 1 0 x7.toNat) (fs := []) rfl rfl (TOp.ixo und23 siz26 rfl rfl rfl (set_in he10 ((setAt?_len he7).trans (of_decide_eq_true hn4))) rfl) <|
  TR.nil))))))))))))) rfl (by kernel_rfl) rfl fills_nil rfl ?_
 iterate 13 refine ROps.dropS ?_
 refine ROps.drop0 ?_
 refine ROps.st (f := f32) (i := x7) (Γ' := [⟨0, some [i64 a4, i64 a5, oref 1 0 0 a6.length]⟩, ⟨0, some (L8.map f32)⟩]) rfl siz26 rfl rfl rfl (ALe.fl (by kernel_rfl) (by kernel_rfl)) rfl rfl rfl he10 rfl ?_
 refine zN ?_
 have hq := Option.some.inj h
 subst q0
 exact bodyQ.mk (r' := tup []) [(0, 0), (1, 0)] (.inl rfl) rfl (show List.Nodup [0, 1] from by decide) rfl rfl (Res.zero rfl) (SelL.cells rfl (by first | rfl | simp [ren, rens, sigma, rens_f32, rens_f64, rens_i64, rens_ik, rens_str, rens_cp]) rfl (SelL.arr (f := f32) (fun _ => rfl) rfl trivial))
noncomputable def s_l04Order_b2 (a0 : List F) (L5 : List Int) (v7 : Int) : Option (LR ((List Int) × Int) ((List Int)) ((List Int))) :=
 bsel (decide (0 < v7)) (
  obind (at? L5 v7) fun (e8 : Int) =>
  obind (at? a0 e8) fun (e9 : F) =>
  olet (IntKind.i64.wrap (v7 - 1)) fun (x10 : Int) =>
  obind (at? L5 x10) fun (e11 : Int) =>
  obind (at? a0 e11) fun (e12 : F) =>
  bsel (flt .f32 e9 e12) (
   obind (at? L5 v7) fun (e13 : Int) =>
   olet (IntKind.i64.wrap (v7 - 1)) fun (x14 : Int) =>
   obind (at? L5 x14) fun (e15 : Int) =>
   obind (setAt? L5 v7 e15) fun (L16 : List Int) =>
   olet (IntKind.i64.wrap (v7 - 1)) fun (x17 : Int) =>
   obind (setAt? L16 x17 e13) fun (L18 : List Int) =>
   olet (IntKind.i64.wrap (v7 - 1)) fun (x19 : Int) =>
   some (LR.next (L18, x19))) (
   some (LR.out L5))) (
  some (LR.out L5))
noncomputable def s_l04Order_s2 (a0 : List F) : ((List Int) × Int) → Option (LR ((List Int) × Int) ((List Int)) ((List Int))) := fun s => s_l04Order_b2 a0 s.1 s.2
noncomputable def s_l04Order_k2 (v4 : Int) (L20 : List Int) : Option (LR ((List Int) × Int) ((List Int)) ((List Int))) :=
 olet (IntKind.i64.wrap (v4 + 1)) fun (x22 : Int) =>
 some (LR.next (L20, x22))
noncomputable def s_l04Order_b3 (a0 : List F) (L3 : List Int) (v4 : Int) : Option (LR ((List Int) × Int) ((List Int)) ((List Int))) :=
 bsel (decide (v4 < (a0.length : Int))) (
  need (apok 8 L3.length 1) <|
  obind (loopM (s_l04Order_s2 a0) ((L3 ++ ([v4] : List Int)), v4)) fun z => osum z (fun e => s_l04Order_k2 v4 e) (fun r => some (LR.ret r))) (
  some (LR.out L3))
noncomputable def s_l04Order_s3 (a0 : List F) : ((List Int) × Int) → Option (LR ((List Int) × Int) ((List Int)) ((List Int))) := fun s => s_l04Order_b3 a0 s.1 s.2
noncomputable def s_l04Order_k3 (L25 : List Int) : Option ((List Int)) :=
 some L25
noncomputable def s_l04Order (a0 : List F) : Option ((List Int)) :=
 obind (loopM (s_l04Order_s3 a0) (([] : List Int), 0)) fun z => osum z (fun e => s_l04Order_k3 e) (fun r => some r)
theorem s_l04Order_ok (a0 : List F) (q0 : List Int) (h : s_l04Order a0 = some q0) : Ev Try.prog 47 [sl a0.length (a0.map f32)] [] (oref 0 0 0 q0.length) [⟨0, some (q0.map i64)⟩] := by
 refine Ev.start Try.func47 rfl rfl 2 (τ := [(0, sl a0.length (a0.map f32))]) rfl (Γ' := [⟨0, none⟩, ⟨0, none⟩]) rfl (n := 119) rfl (g := 0) rfl (fun _ => rfl) ?_
 unfold s_l04Order at h
 refine zQ ?_
 refine zA (r := nilsl) rfl rfl rfl rfl rfl ?_
 refine zN ?_
 refine zQ ?_
 refine ROps.d (r := oref 0 1 0 0) (fs := [(0, (([] : List Int).map i64))]) (Γ' := [⟨1, some (([] : List Int).map i64)⟩, ⟨0, none⟩]) rfl rfl rfl (TOp.buildSlice_o (g := ⟨0, none⟩) (za := i64 0) (qs := []) 0 rfl und22 siz2 zer2 rfl zel2 rfl rfl trivial rfl) rfl ?_
 refine zA (r := oref 0 1 0 0) rfl rfl rfl rfl rfl ?_
 refine zN ?_
 refine RunC.seq ?_
 refine zQ ?_
 refine zA (r := i64 0) rfl rfl rfl rfl rfl ?_
 refine zN ?_
 obtain ⟨z4, hz_4, h⟩ := obind_some h
 refine RunC.cutN (fun τ Γ => ∃ (L25 : List Int) (u23 : Nat) (u24 : Nat), WeakLe τ [(3, oref 0 u23 0 L25.length)] ∧ DeadLe Γ [⟨u23, some (L25.map i64)⟩, ⟨u24, none⟩] ∧ z4 = .inl L25) ?_ ?_
 ·refine RunC.block (RunC.loop (RunL.loopM (x := z4) (s_l04Order_s3 a0) (fun (s : (List Int) × Int) τ Γ => ∃ (u1 : Nat) (u2 : Nat), WeakLe τ [(0, sl a0.length (a0.map f32)), (3, oref 0 u1 0 s.1.length), (4, i64 s.2)] ∧ DeadLe Γ [⟨u1, some (s.1.map i64)⟩, ⟨u2, none⟩]) ?_ _ _ _ hz_4 ⟨1, 0, ⟨aR, aR, aR, trivial⟩, ⟨⟨rfl, .inr rfl⟩, ⟨rfl, .inl rfl⟩, trivial⟩⟩))
  rintro ⟨L3, v4⟩ τ4 Γ4 y4_ ⟨u1, u2, hw4, hd4⟩ h4_ ho4 hr4
  refine RunC.wl (τ' := [(0, sl a0.length (a0.map f32)), (3, oref 0 u1 0 L3.length), (4, i64 v4)]) (Γ' := [⟨u1, some (L3.map i64)⟩, ⟨u2, none⟩]) hw4 hd4 ?_
  replace h4_ : s_l04Order_b3 a0 L3 v4 = some y4_ := h4_
  unfold s_l04Order_b3 at h4_
  refine RunC.seq ?_
  refine RunC.seq ?_
  rcases bsel_some h4_ with ⟨hc1, h4_⟩ | ⟨hc1, h4_⟩
  ·refine RunC.regionW ?_
   refine zM (r := i64 v4) rfl rfl rfl rfl rfl ?_
   refine zM (r := sl a0.length (a0.map f32)) rfl rfl rfl rfl rfl ?_
   refine zL (r := i64 (a0.length : Int)) rfl rfl rfl (LOp.len_sl und23 rfl rfl) ?_
   refine zL (r := b true) rfl rfl rfl (LOp.eqb (LOp.lss rfl rfl rfl) hc1) ?_
   refine zN ?_
   refine RunC.cond_true rfl rfl ?_
   refine RunC.skip ?_
   refine RunC.seq ?_
   refine RunC.block ?_
   refine RunC.seq ?_
   obtain ⟨hm2, h4_⟩ := need_some h4_
   refine RunC.regionW ?_
   refine zM (r := oref 0 u1 0 L3.length) rfl rfl rfl rfl rfl ?_
   refine zM (r := i64 v4) rfl rfl rfl rfl rfl ?_
   refine ROps.d (r := oref 1 (u2 + 1) 0 1) (fs := [(1, (([v4] : List Int).map i64))]) (Γ' := [⟨u1, some (L3.map i64)⟩, ⟨(u2 + 1), some (([v4] : List Int).map i64)⟩]) rfl rfl rfl (TOp.buildSlice_o (g := ⟨u2, none⟩) (za := i64 0) (qs := [(0, [i64 v4])]) 1 rfl und22 siz2 zer2 rfl zel2 rfl rfl ⟨rfl, ⟨_, ALe.refl _, rfl⟩, trivial⟩ rfl) rfl ?_
   refine ROps.app (f := i64) (xs := L3) (ys := ([v4] : List Int)) (Γ' := [⟨(u1 + 1), some ((L3 ++ ([v4] : List Int)).map i64)⟩, ⟨(u2 + 1), some (([v4] : List Int).map i64)⟩]) rfl pun22 inf2 rfl rfl rfl rfl rfl rfl rfl rfl rfl (by simp) (ReadAs.own rfl (by simp)) (ones_map (fun _ => rfl)) (ap_by hm2) (ap_mx hm2) rfl ?_
   refine zA (r := oref 0 (u1 + 1) 0 (L3.length + 1)) rfl rfl rfl rfl rfl ?_
   refine zN ?_
   refine RunC.wl (τ' := [(0, sl a0.length (a0.map f32)), (3, oref 0 (u1 + 1) 0 (L3.length + 1)), (4, i64 v4)]) (Γ' := [⟨(u1 + 1), some ((L3 ++ ([v4] : List Int)).map i64)⟩, ⟨(u2 + 1), none⟩]) ⟨aR, aR, aR, trivial⟩ ⟨⟨rfl, .inr rfl⟩, ⟨rfl, .inl rfl⟩, trivial⟩ ?_
   refine zQ ?_
   refine zM (r := i64 v4) rfl rfl rfl rfl rfl ?_
   refine zA (r := i64 v4) rfl rfl rfl rfl rfl ?_
   refine zN ?_
   obtain ⟨z5, hz_5, h4_⟩ := obind_some h4_
   refine RunC.cutN (fun τ Γ => ∃ (L20 : List Int), L20.length = (L3.length + 1) ∧ WeakLe τ [(0, sl a0.length (a0.map f32)), (3, oref 0 (u1 + 1) 0 (L3.length + 1)), (4, i64 v4)] ∧ DeadLe Γ [⟨(u1 + 1), some (L20.map i64)⟩, ⟨(u2 + 1), none⟩] ∧ z5 = .inl L20) ?_ ?_
   ·refine RunC.block (RunC.loop (RunL.loopM (x := z5) (s_l04Order_s2 a0) (fun (s : (List Int) × Int) τ Γ => s.1.length = (L3.length + 1) ∧ WeakLe τ [(0, sl a0.length (a0.map f32)), (3, oref 0 (u1 + 1) 0 (L3.length + 1)), (4, i64 v4), (5, i64 s.2)] ∧ DeadLe Γ [⟨(u1 + 1), some (s.1.map i64)⟩, ⟨(u2 + 1), none⟩]) ?_ _ _ _ hz_5 ⟨(app_len rfl rfl), ⟨aR, aR, aR, aR, trivial⟩, ⟨⟨rfl, .inr rfl⟩, ⟨rfl, .inl rfl⟩, trivial⟩⟩))
    rintro ⟨L5, v7⟩ τ5 Γ5 y5_ ⟨hl6, hw5, hd5⟩ h5_ ho5 hr5
    refine RunC.wl (τ' := [(0, sl a0.length (a0.map f32)), (3, oref 0 (u1 + 1) 0 (L3.length + 1)), (4, i64 v4), (5, i64 v7)]) (Γ' := [⟨(u1 + 1), some (L5.map i64)⟩, ⟨(u2 + 1), none⟩]) hw5 hd5 ?_
    replace hl6 : L5.length = (L3.length + 1) := hl6
    replace h5_ : s_l04Order_b2 a0 L5 v7 = some y5_ := h5_
    unfold s_l04Order_b2 at h5_
    refine RunC.seq ?_
    refine RunC.seq ?_
    rcases bsel_some h5_ with ⟨hc3, h5_⟩ | ⟨hc3, h5_⟩
    ·obtain ⟨e8, he4, h5_⟩ := obind_some h5_
     obtain ⟨e9, he5, h5_⟩ := obind_some h5_
     obtain ⟨x10, hx6, h5_⟩ := olet_some h5_
     obtain ⟨e11, he7, h5_⟩ := obind_some h5_
     obtain ⟨e12, he8, h5_⟩ := obind_some h5_
     rcases bsel_some h5_ with ⟨hc9, h5_⟩ | ⟨hc9, h5_⟩
     ·refine RunC.region_draw (Γ' := [⟨(u1 + 1), some (L5.map i64)⟩, ⟨(u2 + 1), none⟩]) 20 mixed 
       (TR.l (r := i64 v7) rfl rfl (LOp.move rfl rfl) <|
       (TR.l (r := b true) rfl rfl (LOp.eqb (LOp.gtr rfl rfl rfl) hc3) <|
       (TR.l (r := b true) rfl rfl (LOp.move rfl rfl) <|
       (TR.l (r := sl a0.length (a0.map f32)) rfl rfl (LOp.move rfl rfl) <|
       (TR.l (r := oref 0 (u1 + 1) 0 (L3.length + 1)) rfl rfl (LOp.move rfl rfl) <|
       (TR.l (r := i64 v7) rfl rfl (LOp.move rfl rfl) <|
       (TR.d (r := optr 0 (u1 + 1) v7.toNat) (fs := []) rfl rfl (TOp.ixo und22 siz2 rfl rfl rfl (at_in he4 hl6) rfl) <|
       (TR.d (r := i64 e8) (fs := []) rfl rfl (TOp.load1_o rfl (at_cell he4) agg2 rfl rfl) <|
       (TR.l (r := ptr [f32 e9]) rfl rfl (LOp.le (LOp.ix (f := f32) und23 siz26 rfl rfl rfl rfl he5) ALe.ptr) <|
       (TR.l (r := f32 e9) rfl rfl (LOp.load1 agg26 rfl rfl) <|
       (TR.l (r := sl a0.length (a0.map f32)) rfl rfl (LOp.move rfl rfl) <|
       (TR.l (r := oref 0 (u1 + 1) 0 (L3.length + 1)) rfl rfl (LOp.move rfl rfl) <|
       (TR.l (r := i64 v7) rfl rfl (LOp.move rfl rfl) <|
       (TR.l (r := i64 x10) rfl rfl (LOp.eqr (LOp.sub rfl rfl rfl) (congrArg (ik .i64) hx6)) <|
       (TR.d (r := optr 0 (u1 + 1) x10.toNat) (fs := []) rfl rfl (TOp.ixo und22 siz2 rfl rfl rfl (at_in he7 hl6) rfl) <|
       (TR.d (r := i64 e11) (fs := []) rfl rfl (TOp.load1_o rfl (at_cell he7) agg2 rfl rfl) <|
       (TR.l (r := ptr [f32 e12]) rfl rfl (LOp.le (LOp.ix (f := f32) und23 siz26 rfl rfl rfl rfl he8) ALe.ptr) <|
       (TR.l (r := f32 e12) rfl rfl (LOp.load1 agg26 rfl rfl) <|
       (TR.l (r := b true) rfl rfl (LOp.eqb (LOp.flt rfl (OpF.tmp rfl) (OpF.tmp rfl)) hc9) <|
       (TR.l (r := b true) rfl rfl (LOp.pick_true rfl rfl rfl) <|
       TR.nil)))))))))))))))))))) rfl (by kernel_rfl) rfl fills_nil rfl ?_
      iterate 20 refine ROps.dropS ?_
      refine ROps.drop0 ?_
      refine zN ?_
      refine RunC.cond_true rfl rfl ?_
      refine RunC.skip ?_
      refine RunC.seq ?_
      refine RunC.block ?_
      refine RunC.seq ?_
      obtain ⟨e13, he10, h5_⟩ := obind_some h5_
      refine RunC.regionW ?_
      refine zM (r := oref 0 (u1 + 1) 0 (L3.length + 1)) rfl rfl rfl rfl rfl ?_
      refine zM (r := i64 v7) rfl rfl rfl rfl rfl ?_
      refine ROps.d (r := optr 0 (u1 + 1) v7.toNat) (fs := []) (Γ' := [⟨(u1 + 1), some (L5.map i64)⟩, ⟨(u2 + 1), none⟩]) rfl rfl rfl (TOp.ixo und22 siz2 rfl rfl rfl (at_in he10 hl6) rfl) rfl ?_
      refine ROps.d (r := i64 e13) (fs := []) (Γ' := [⟨(u1 + 1), some (L5.map i64)⟩, ⟨(u2 + 1), none⟩]) rfl rfl rfl (TOp.load1_o rfl (at_cell he10) agg2 rfl rfl) rfl ?_
      refine zA (r := i64 e13) rfl rfl rfl rfl rfl ?_
      refine zN ?_
      refine RunC.seq ?_
      obtain ⟨x14, hx11, h5_⟩ := olet_some h5_
      obtain ⟨e15, he12, h5_⟩ := obind_some h5_
      obtain ⟨L16, he13, h5_⟩ := obind_some h5_
      refine RunC.regionW ?_
      refine zM (r := oref 0 (u1 + 1) 0 (L3.length + 1)) rfl rfl rfl rfl rfl ?_
      refine zM (r := i64 v7) rfl rfl rfl rfl rfl ?_
      refine zM (r := oref 0 (u1 + 1) 0 (L3.length + 1)) rfl rfl rfl rfl rfl ?_
      refine zM (r := i64 v7) rfl rfl rfl rfl rfl ?_
      refine zL (r := i64 x14) rfl rfl rfl (LOp.eqr (LOp.sub rfl rfl rfl) (congrArg (ik .i64) hx11)) ?_
      refine ROps.d (r := optr 0 (u1 + 1) x14.toNat) (fs := []) (Γ' := [⟨(u1 + 1), some (L5.map i64)⟩, ⟨(u2 + 1), none⟩]) rfl rfl rfl (TOp.ixo und22 siz2 rfl rfl rfl (at_in he12 hl6) rfl) rfl ?_
      refine ROps.d (r := i64 e15) (fs := []) (Γ' := [⟨(u1 + 1), some (L5.map i64)⟩, ⟨(u2 + 1), none⟩]) rfl rfl rfl (TOp.load1_o rfl (at_cell he12) agg2 rfl rfl) rfl ?_
      refine ROps.d (r := optr 0 (u1 + 1) v7.toNat) (fs := []) (Γ' := [⟨(u1 + 1), some (L5.map i64)⟩, ⟨(u2 + 1), none⟩]) rfl rfl rfl (TOp.ixo und22 siz2 rfl rfl rfl (set_in he13 hl6) rfl) rfl ?_
      refine ROps.st (f := i64) (i := v7) (Γ' := [⟨(u1 + 1), some (L16.map i64)⟩, ⟨(u2 + 1), none⟩]) rfl siz2 rfl rfl rfl aR rfl rfl rfl he13 rfl ?_
      refine zN ?_
      refine RunC.wl (τ' := [(0, sl a0.length (a0.map f32)), (3, oref 0 (u1 + 1) 0 (L3.length + 1)), (4, i64 v4), (5, i64 v7), (6, i64 e13), (22, sl a0.length (a0.map f32)), (23, oref 0 (u1 + 1) 0 (L3.length + 1)), (24, i64 v7), (25, optr 0 (u1 + 1) v7.toNat), (26, i64 e8), (27, ptr [f32 e9]), (28, f32 e9), (29, sl a0.length (a0.map f32)), (30, oref 0 (u1 + 1) 0 (L3.length + 1)), (31, i64 v7), (32, i64 x10), (33, optr 0 (u1 + 1) x10.toNat), (34, i64 e11), (35, ptr [f32 e12]), (36, f32 e12), (37, b true)]) (Γ' := [⟨(u1 + 1), some (L16.map i64)⟩, ⟨(u2 + 1), none⟩]) ⟨aR, aR, aR, aR, aR, aR, aR, aR, aR, aR, aR, aR, aR, aR, aR, aR, aR, aR, aR, aR, aR, trivial⟩ ⟨⟨rfl, .inr rfl⟩, ⟨rfl, .inl rfl⟩, trivial⟩ ?_
      obtain ⟨x17, hx14, h5_⟩ := olet_some h5_
      obtain ⟨L18, he15, h5_⟩ := obind_some h5_
      refine RunC.regionW ?_
      refine zM (r := oref 0 (u1 + 1) 0 (L3.length + 1)) rfl rfl rfl rfl rfl ?_
      refine zM (r := i64 v7) rfl rfl rfl rfl rfl ?_
      refine zL (r := i64 x17) rfl rfl rfl (LOp.eqr (LOp.sub rfl rfl rfl) (congrArg (ik .i64) hx14)) ?_
      refine zM (r := i64 e13) rfl rfl rfl rfl rfl ?_
      refine ROps.d (r := optr 0 (u1 + 1) x17.toNat) (fs := []) (Γ' := [⟨(u1 + 1), some (L16.map i64)⟩, ⟨(u2 + 1), none⟩]) rfl rfl rfl (TOp.ixo und22 siz2 rfl rfl rfl (set_in he15 ((setAt?_len he13).trans hl6)) rfl) rfl ?_
      refine ROps.st (f := i64) (i := x17) (Γ' := [⟨(u1 + 1), some (L18.map i64)⟩, ⟨(u2 + 1), none⟩]) rfl siz2 rfl rfl rfl aR rfl rfl rfl he15 rfl ?_
      refine zN ?_
      obtain ⟨x19, hx16, h5_⟩ := olet_some h5_
      refine RunC.regionW ?_
      refine zM (r := i64 v7) rfl rfl rfl rfl rfl ?_
      refine zL (r := i64 x19) rfl rfl rfl (LOp.eqr (LOp.sub rfl rfl rfl) (congrArg (ik .i64) hx16)) ?_
      refine zA (r := i64 x19) rfl rfl rfl rfl rfl ?_
      refine zN ?_
      cases Option.some.inj h5_
      exact ⟨_, rfl, ((setAt?_len he15).trans ((setAt?_len he13).trans hl6)), ⟨aR, aR, aR, aR, trivial⟩, ⟨⟨rfl, .inr rfl⟩, ⟨rfl, .inl rfl⟩, trivial⟩⟩
     ·refine RunC.region_draw (Γ' := [⟨(u1 + 1), some (L5.map i64)⟩, ⟨(u2 + 1), none⟩]) 20 mixed 
       (TR.l (r := i64 v7) rfl rfl (LOp.move rfl rfl) <|
       (TR.l (r := b true) rfl rfl (LOp.eqb (LOp.gtr rfl rfl rfl) hc3) <|
       (TR.l (r := b true) rfl rfl (LOp.move rfl rfl) <|
       (TR.l (r := sl a0.length (a0.map f32)) rfl rfl (LOp.move rfl rfl) <|
       (TR.l (r := oref 0 (u1 + 1) 0 (L3.length + 1)) rfl rfl (LOp.move rfl rfl) <|
       (TR.l (r := i64 v7) rfl rfl (LOp.move rfl rfl) <|
       (TR.d (r := optr 0 (u1 + 1) v7.toNat) (fs := []) rfl rfl (TOp.ixo und22 siz2 rfl rfl rfl (at_in he4 hl6) rfl) <|
       (TR.d (r := i64 e8) (fs := []) rfl rfl (TOp.load1_o rfl (at_cell he4) agg2 rfl rfl) <|
       (TR.l (r := ptr [f32 e9]) rfl rfl (LOp.le (LOp.ix (f := f32) und23 siz26 rfl rfl rfl rfl he5) ALe.ptr) <|
       (TR.l (r := f32 e9) rfl rfl (LOp.load1 agg26 rfl rfl) <|
       (TR.l (r := sl a0.length (a0.map f32)) rfl rfl (LOp.move rfl rfl) <|
       (TR.l (r := oref 0 (u1 + 1) 0 (L3.length + 1)) rfl rfl (LOp.move rfl rfl) <|
       (TR.l (r := i64 v7) rfl rfl (LOp.move rfl rfl) <|
       (TR.l (r := i64 x10) rfl rfl (LOp.eqr (LOp.sub rfl rfl rfl) (congrArg (ik .i64) hx6)) <|
       (TR.d (r := optr 0 (u1 + 1) x10.toNat) (fs := []) rfl rfl (TOp.ixo und22 siz2 rfl rfl rfl (at_in he7 hl6) rfl) <|
       (TR.d (r := i64 e11) (fs := []) rfl rfl (TOp.load1_o rfl (at_cell he7) agg2 rfl rfl) <|
       (TR.l (r := ptr [f32 e12]) rfl rfl (LOp.le (LOp.ix (f := f32) und23 siz26 rfl rfl rfl rfl he8) ALe.ptr) <|
       (TR.l (r := f32 e12) rfl rfl (LOp.load1 agg26 rfl rfl) <|
       (TR.l (r := b false) rfl rfl (LOp.eqb (LOp.flt rfl (OpF.tmp rfl) (OpF.tmp rfl)) hc9) <|
       (TR.l (r := b false) rfl rfl (LOp.pick_true rfl rfl rfl) <|
       TR.nil)))))))))))))))))))) rfl (by kernel_rfl) rfl fills_nil rfl ?_
      iterate 20 refine ROps.dropS ?_
      refine ROps.drop0 ?_
      refine zN ?_
      refine RunC.cond_false rfl rfl ?_
      refine RunC.exit ?_
      cases Option.some.inj h5_
      have hx := ho5 _ rfl
      exact ⟨L5, hl6, ⟨aR, aR, aR, trivial⟩, ⟨⟨rfl, .inr rfl⟩, ⟨rfl, .inl rfl⟩, trivial⟩, hx⟩
    ·refine RunC.region_draw (Γ' := [⟨(u1 + 1), some (L5.map i64)⟩, ⟨(u2 + 1), none⟩]) 20 mixed 
      (TR.l (r := i64 v7) rfl rfl (LOp.move rfl rfl) <|
      (TR.l (r := b false) rfl rfl (LOp.eqb (LOp.gtr rfl rfl rfl) hc3) <|
      (TR.l (r := b false) rfl rfl (LOp.move rfl rfl) <|
      (TR.s rfl rfl <|
      (TR.s rfl rfl <|
      (TR.s rfl rfl <|
      (TR.s rfl rfl <|
      (TR.s rfl rfl <|
      (TR.s rfl rfl <|
      (TR.s rfl rfl <|
      (TR.s rfl rfl <|
      (TR.s rfl rfl <|
      (TR.s rfl rfl <|
      (TR.s rfl rfl <|
      (TR.s rfl rfl <|
      (TR.s rfl rfl <|
      (TR.s rfl rfl <|
      (TR.s rfl rfl <|
      (TR.s rfl rfl <|
      (TR.l (r := b false) rfl rfl (LOp.pick_false rfl rfl rfl) <|
      TR.nil)))))))))))))))))))) rfl (by kernel_rfl) rfl fills_nil rfl ?_
     iterate 20 refine ROps.dropS ?_
     refine ROps.drop0 ?_
     refine zN ?_
     refine RunC.cond_false rfl rfl ?_
     refine RunC.exit ?_
     cases Option.some.inj h5_
     have hx := ho5 _ rfl
     exact ⟨L5, hl6, ⟨aR, aR, aR, trivial⟩, ⟨⟨rfl, .inr rfl⟩, ⟨rfl, .inl rfl⟩, trivial⟩, hx⟩
   ·rintro τ6 Γ6 ⟨L20, hl21, hw6, hd6, rfl⟩
    refine RunC.wl hw6 hd6 ?_
    replace h4_ : s_l04Order_k2 v4 L20 = some y4_ := h4_
    unfold s_l04Order_k2 at h4_
    obtain ⟨x22, hx17, h4_⟩ := olet_some h4_
    refine RunC.regionW ?_
    refine zM (r := i64 v4) rfl rfl rfl rfl rfl ?_
    refine zL (r := i64 x22) rfl rfl rfl (LOp.eqr (LOp.add rfl rfl rfl) (congrArg (ik .i64) hx17)) ?_
    refine zA (r := i64 x22) rfl rfl rfl rfl rfl ?_
    refine zN ?_
    cases Option.some.inj h4_
    exact ⟨_, rfl, (u1 + 1), (u2 + 1), ⟨aR, (ALe.eq (by rw [hl21] <;> rfl)), aR, trivial⟩, ⟨⟨rfl, .inr rfl⟩, ⟨rfl, .inl rfl⟩, trivial⟩⟩
  ·refine RunC.regionW ?_
   refine zM (r := i64 v4) rfl rfl rfl rfl rfl ?_
   refine zM (r := sl a0.length (a0.map f32)) rfl rfl rfl rfl rfl ?_
   refine zL (r := i64 (a0.length : Int)) rfl rfl rfl (LOp.len_sl und23 rfl rfl) ?_
   refine zL (r := b false) rfl rfl rfl (LOp.eqb (LOp.lss rfl rfl rfl) hc1) ?_
   refine zN ?_
   refine RunC.cond_false rfl rfl ?_
   refine RunC.exit ?_
   cases Option.some.inj h4_
   have hx := ho4 _ rfl
   exact ⟨L3, u1, u2, ⟨aR, trivial⟩, ⟨⟨rfl, .inr rfl⟩, ⟨rfl, .inl rfl⟩, trivial⟩, hx⟩
 ·rintro τ7 Γ7 ⟨L25, u23, u24, hw7, hd7, rfl⟩
  refine RunC.wl hw7 hd7 ?_
  replace h : s_l04Order_k3 L25 = some q0 := h
  unfold s_l04Order_k3 at h
  refine zQ ?_
  refine zM (r := oref 0 u23 0 L25.length) rfl rfl rfl rfl rfl ?_
  refine zA (r := oref 0 u23 0 L25.length) rfl rfl rfl rfl rfl ?_
  refine zN ?_
  refine RunC.ret ?_
  have hq := Option.some.inj h
  subst q0
  exact bodyQ.mk (r' := oref 0 u23 0 L25.length) [(0, u23)] (.inr rfl) rfl (show List.Nodup [0] from by decide) (by simp [ren, rens, sigma]) rfl (Res.one rfl (RV.tmp rfl)) (SelL.arr0 (f := i64) (fun _ => rfl) rfl trivial)
noncomputable def s_TurnValues_b5 (a0 : Int) (r3 : Int) (r4 : Int) (r5 : List F) (r6 : Int) (r7 : Int) (r8 : List F) (v18 : Int) (L20 : List F) (L22 : List F) (v24 : Int) : Option (LR ((List F) × (List F) × Int) ((List F) × (List F)) (Int × Int × Bool × (List F) × (List F))) :=
 bsel (decide (v24 < a0)) (
  obind3 (s_l04Turn r3 r4 L20 v18 v24) fun (r25 : F) (r26 : F) (r27 : Bool) =>
  bsel r27 (
   obind (s_l04Columns_0p0_C02o1 v18 v24 r25 r26 r6 r7 L22) fun (r28 : List F) =>
   need (decide (r28.length = r8.length)) <|
   obind (s_l04Turned_0p0_C02o1 v18 v24 r25 r26 r3 r4 L20) fun (r29 : List F) =>
   need (decide (r29.length = r5.length)) <|
   obind (s_l02Is r3 r4 r29) fun (r30 : Bool) =>
   bsel r30 (
    obind (s_l02Is r6 r7 r28) fun (r31 : Bool) =>
    bsel r31 (
     olet (IntKind.i64.wrap (v24 + 1)) fun (x32 : Int) =>
     some (LR.next (r29, r28, x32))) (
     some (LR.ret (0, 0, false, ([] : List F), ([] : List F))))) (
    some (LR.ret (0, 0, false, ([] : List F), ([] : List F))))) (
   some (LR.ret (0, 0, false, ([] : List F), ([] : List F))))) (
  some (LR.out (L20, L22)))
noncomputable def s_TurnValues_s5 (a0 : Int) (r3 : Int) (r4 : Int) (r5 : List F) (r6 : Int) (r7 : Int) (r8 : List F) (v18 : Int) : ((List F) × (List F) × Int) → Option (LR ((List F) × (List F) × Int) ((List F) × (List F)) (Int × Int × Bool × (List F) × (List F))) := fun s => s_TurnValues_b5 a0 r3 r4 r5 r6 r7 r8 v18 s.1 s.2.1 s.2.2
noncomputable def s_TurnValues_k5 (v18 : Int) (L33 : List F) (L35 : List F) : Option (LR ((List F) × (List F) × Int) ((List F) × (List F)) (Int × Int × Bool × (List F) × (List F))) :=
 olet (IntKind.i64.wrap (v18 + 1)) fun (x37 : Int) =>
 some (LR.next (L33, L35, x37))
noncomputable def s_TurnValues_b6 (a0 : Int) (r3 : Int) (r4 : Int) (r5 : List F) (r6 : Int) (r7 : Int) (r8 : List F) (L14 : List F) (L16 : List F) (v18 : Int) : Option (LR ((List F) × (List F) × Int) ((List F) × (List F)) (Int × Int × Bool × (List F) × (List F))) :=
 bsel (decide (v18 < a0)) (
  olet (IntKind.i64.wrap (v18 + 1)) fun (x19 : Int) =>
  obind (loopM (s_TurnValues_s5 a0 r3 r4 r5 r6 r7 r8 v18) (L14, L16, x19)) fun z => osum z (fun e => s_TurnValues_k5 v18 e.1 e.2) (fun r => some (LR.ret r))) (
  some (LR.out (L14, L16)))
noncomputable def s_TurnValues_s6 (a0 : Int) (r3 : Int) (r4 : Int) (r5 : List F) (r6 : Int) (r7 : Int) (r8 : List F) : ((List F) × (List F) × Int) → Option (LR ((List F) × (List F) × Int) ((List F) × (List F)) (Int × Int × Bool × (List F) × (List F))) := fun s => s_TurnValues_b6 a0 r3 r4 r5 r6 r7 r8 s.1 s.2.1 s.2.2
noncomputable def s_TurnValues_k6 (v13 : Int) (L38 : List F) (L40 : List F) : Option (LR ((List F) × (List F) × Int) ((List F) × (List F)) (Int × Int × Bool × (List F) × (List F))) :=
 olet (IntKind.i64.wrap (v13 + 1)) fun (x42 : Int) =>
 some (LR.next (L38, L40, x42))
noncomputable def s_TurnValues_b7 (a0 : Int) (a3 : Int) (r3 : Int) (r4 : Int) (r5 : List F) (r6 : Int) (r7 : Int) (r8 : List F) (L9 : List F) (L11 : List F) (v13 : Int) : Option (LR ((List F) × (List F) × Int) ((List F) × (List F)) (Int × Int × Bool × (List F) × (List F))) :=
 bsel (decide (v13 < a3)) (
  obind (loopM (s_TurnValues_s6 a0 r3 r4 r5 r6 r7 r8) (L9, L11, 0)) fun z => osum z (fun e => s_TurnValues_k6 v13 e.1 e.2) (fun r => some (LR.ret r))) (
  some (LR.out (L9, L11)))
noncomputable def s_TurnValues_s7 (a0 : Int) (a3 : Int) (r3 : Int) (r4 : Int) (r5 : List F) (r6 : Int) (r7 : Int) (r8 : List F) : ((List F) × (List F) × Int) → Option (LR ((List F) × (List F) × Int) ((List F) × (List F)) (Int × Int × Bool × (List F) × (List F))) := fun s => s_TurnValues_b7 a0 a3 r3 r4 r5 r6 r7 r8 s.1 s.2.1 s.2.2
noncomputable def s_TurnValues_b8 (a0 : Int) (r3 : Int) (r4 : Int) (L43 : List F) (L49 : List F) (v50 : Int) : Option (LR ((List F) × Int) ((List F)) (Int × Int × Bool × (List F) × (List F))) :=
 bsel (decide (v50 < a0)) (
  obind (s_l02At r3 r4 L43 v50 v50) fun (r51 : F) =>
  need (apok 4 L49.length 1) <|
  olet (IntKind.i64.wrap (v50 + 1)) fun (x52 : Int) =>
  some (LR.next ((L49 ++ ([r51] : List F)), x52))) (
  some (LR.out L49))
noncomputable def s_TurnValues_s8 (a0 : Int) (r3 : Int) (r4 : Int) (L43 : List F) : ((List F) × Int) → Option (LR ((List F) × Int) ((List F)) (Int × Int × Bool × (List F) × (List F))) := fun s => s_TurnValues_b8 a0 r3 r4 L43 s.1 s.2
noncomputable def s_TurnValues_b10 (a0 : Int) (r6 : Int) (r7 : Int) (L45 : List F) (r57 : List Int) (v66 : Int) (L69 : List F) (v71 : Int) : Option (LR ((List F) × Int) ((List F)) (Int × Int × Bool × (List F) × (List F))) :=
 bsel (decide (v71 < a0)) (
  olet (IntKind.i64.wrap (v71 * a0)) fun (x72 : Int) =>
  olet (IntKind.i64.wrap (x72 + v66)) fun (x73 : Int) =>
  obind (at? r57 v66) fun (e74 : Int) =>
  obind (s_l02At r6 r7 L45 v71 e74) fun (r75 : F) =>
  obind (setAt? L69 x73 r75) fun (L76 : List F) =>
  olet (IntKind.i64.wrap (v71 + 1)) fun (x77 : Int) =>
  some (LR.next (L76, x77))) (
  some (LR.out L69))
noncomputable def s_TurnValues_s10 (a0 : Int) (r6 : Int) (r7 : Int) (L45 : List F) (r57 : List Int) (v66 : Int) : ((List F) × Int) → Option (LR ((List F) × Int) ((List F)) (Int × Int × Bool × (List F) × (List F))) := fun s => s_TurnValues_b10 a0 r6 r7 L45 r57 v66 s.1 s.2
noncomputable def s_TurnValues_k10 (L63 : List F) (v66 : Int) (e68 : F) (L80 : List F) : Option (LR ((List F) × (List F) × Int) ((List F) × (List F)) (Int × Int × Bool × (List F) × (List F))) :=
 olet (IntKind.i64.wrap (v66 + 1)) fun (x82 : Int) =>
 some (LR.next ((L63 ++ ([e68] : List F)), L80, x82))
noncomputable def s_TurnValues_b11 (a0 : Int) (r6 : Int) (r7 : Int) (L45 : List F) (L56 : List F) (r57 : List Int) (L63 : List F) (L64 : List F) (v66 : Int) : Option (LR ((List F) × (List F) × Int) ((List F) × (List F)) (Int × Int × Bool × (List F) × (List F))) :=
 bsel (decide (v66 < a0)) (
  obind (at? r57 v66) fun (e67 : Int) =>
  obind (at? L56 e67) fun (e68 : F) =>
  need (apok 4 L63.length 1) <|
  obind (loopM (s_TurnValues_s10 a0 r6 r7 L45 r57 v66) (L64, 0)) fun z => osum z (fun e => s_TurnValues_k10 L63 v66 e68 e) (fun r => some (LR.ret r))) (
  some (LR.out (L63, L64)))
noncomputable def s_TurnValues_s11 (a0 : Int) (r6 : Int) (r7 : Int) (L45 : List F) (L56 : List F) (r57 : List Int) : ((List F) × (List F) × Int) → Option (LR ((List F) × (List F) × Int) ((List F) × (List F)) (Int × Int × Bool × (List F) × (List F))) := fun s => s_TurnValues_b11 a0 r6 r7 L45 L56 r57 s.1 s.2.1 s.2.2
noncomputable def s_TurnValues_k11 (r58 : Int) (r59 : Int) (L85 : List F) (L86 : List F) : Option (Int × Int × Bool × (List F) × (List F)) :=
 some (r58, r59, true, L85, L86)
noncomputable def s_TurnValues_k8 (a0 : Int) (r6 : Int) (r7 : Int) (L45 : List F) (L56 : List F) : Option (Int × Int × Bool × (List F) × (List F)) :=
 obind (s_l04Order L56) fun (r57 : List Int) =>
 obind3 (s_l02Zero a0 a0) fun (r58 : Int) (r59 : Int) (r60 : List F) =>
 obind (loopM (s_TurnValues_s11 a0 r6 r7 L45 L56 r57) (([] : List F), r60, 0)) fun z => osum z (fun e => s_TurnValues_k11 r58 r59 e.1 e.2) (fun r => some r)
noncomputable def s_TurnValues_k7 (a0 : Int) (r3 : Int) (r4 : Int) (r6 : Int) (r7 : Int) (L43 : List F) (L45 : List F) : Option (Int × Int × Bool × (List F) × (List F)) :=
 obind (loopM (s_TurnValues_s8 a0 r3 r4 L43) (([] : List F), 0)) fun z => osum z (fun e => s_TurnValues_k8 a0 r6 r7 L45 e) (fun r => some r)
noncomputable def s_TurnValues (a0 : Int) (a1 : Int) (a2 : List F) (a3 : Int) : Option (Int × Int × Bool × (List F) × (List F)) :=
 obind (s_l04Symmetric a0 a1 a2) fun (r1 : Bool) =>
 bsel r1 (
  obind (s_l04Rounds a3) fun (r2 : Bool) =>
  bsel r2 (
   obind3 (s_l02Own a0 a1 a2) fun (r3 : Int) (r4 : Int) (r5 : List F) =>
   obind3 (s_l02Unit a0) fun (r6 : Int) (r7 : Int) (r8 : List F) =>
   obind (loopM (s_TurnValues_s7 a0 a3 r3 r4 r5 r6 r7 r8) (r5, r8, 0)) fun z => osum z (fun e => s_TurnValues_k7 a0 r3 r4 r6 r7 e.1 e.2) (fun r => some r)) (
   some (0, 0, false, ([] : List F), ([] : List F)))) (
  some (0, 0, false, ([] : List F), ([] : List F)))
theorem s_TurnValues_ok (a0 : Int) (a1 : Int) (a2 : List F) (a3 : Int) (q0 : Int) (q1 : Int) (q2 : Bool) (q3 : List F) (q4 : List F) (h : s_TurnValues a0 a1 a2 a3 = some (q0, q1, q2, q3, q4)) : Ev Try.prog 25 [agg [i64 a0, i64 a1, sl a2.length (a2.map f32)], i64 a3] [] (tup [oref 0 0 0 q3.length, agg [i64 q0, i64 q1, oref 1 0 0 q4.length], b q2]) [⟨0, some (q3.map f32)⟩, ⟨0, some (q4.map f32)⟩] := by
 refine Ev.start Try.func25 rfl rfl 9 (τ := [(0, agg [i64 a0, i64 a1, sl a2.length (a2.map f32)]), (1, i64 a3)]) rfl (Γ' := [⟨0, none⟩, ⟨0, none⟩, ⟨0, none⟩, ⟨0, none⟩, ⟨0, none⟩, ⟨0, none⟩, ⟨0, none⟩, ⟨0, none⟩, ⟨0, none⟩]) rfl (n := 269) rfl (g := 0) rfl (fun _ => rfl) ?_
 unfold s_TurnValues at h
 refine zQ ?_
 refine ROps.d (r := ptr [i64 a0, i64 a1, sl a2.length (a2.map f32)]) (fs := []) (Γ' := [⟨0, none⟩, ⟨0, none⟩, ⟨0, none⟩, ⟨0, none⟩, ⟨0, none⟩, ⟨0, none⟩, ⟨0, none⟩, ⟨0, none⟩, ⟨0, none⟩]) rfl rfl rfl (TOp.box_s rfl rfl rfl) rfl ?_
 refine zA (r := nilsl) rfl rfl rfl rfl rfl ?_
 refine ROps.d (r := optr 0 1 0) (fs := [(0, [i64 0, i64 0, nilsl])]) (Γ' := [⟨1, some [i64 0, i64 0, nilsl]⟩, ⟨0, none⟩, ⟨0, none⟩, ⟨0, none⟩, ⟨0, none⟩, ⟨0, none⟩, ⟨0, none⟩, ⟨0, none⟩, ⟨0, none⟩]) rfl rfl rfl (TOp.alloc_o (g := ⟨0, none⟩) 0 rfl zer45 zok45 rfl) rfl ?_
 refine zA (r := b false) rfl rfl rfl rfl rfl ?_
 refine zN ?_
 refine RunC.seq ?_
 refine RunC.seq ?_
 obtain ⟨r1, hf1, h⟩ := obind_some h
 rcases bsel_some h with ⟨hc2, h⟩ | ⟨hc2, h⟩
 ·obtain ⟨r2, hf3, h⟩ := obind_some h
  rcases bsel_some h with ⟨hc4, h⟩ | ⟨hc4, h⟩
  ·refine RunC.regionW ?_
   refine ROps.d (r := b true) (fs := []) (Γ' := [⟨1, some [i64 0, i64 0, nilsl]⟩, ⟨0, none⟩, ⟨0, none⟩, ⟨0, none⟩, ⟨0, none⟩, ⟨0, none⟩, ⟨0, none⟩, ⟨0, none⟩, ⟨0, none⟩]) rfl rfl rfl (TOp.eqb (TOp.callB (CallAs.func ent57 rfl rfl) (Bors.cons (Bor.ptr (Bors.cons (Bor.pure rfl) (Bors.cons (Bor.pure rfl) (Bors.cons (Bor.sl (fun _ => rfl)) Bors.nil)))) Bors.nil) rfl rfl (s_l04Symmetric_ok a0 a1 a2 r1 hf1)) hc2) rfl ?_
   refine zL (r := b false) rfl rfl rfl (LOp.eqb (LOp.not rfl rfl) rfl) ?_
   refine zM (r := b false) rfl rfl rfl rfl rfl ?_
   refine zM (r := i64 a3) rfl rfl rfl rfl rfl ?_
   refine ROps.d (r := b true) (fs := []) (Γ' := [⟨1, some [i64 0, i64 0, nilsl]⟩, ⟨0, none⟩, ⟨0, none⟩, ⟨0, none⟩, ⟨0, none⟩, ⟨0, none⟩, ⟨0, none⟩, ⟨0, none⟩, ⟨0, none⟩]) rfl rfl rfl (TOp.eqb (TOp.callB (CallAs.func ent58 rfl rfl) (Bors.cons (Bor.pure rfl) Bors.nil) rfl rfl (s_l04Rounds_ok a3 r2 hf3)) hc4) rfl ?_
   refine zL (r := b false) rfl rfl rfl (LOp.eqb (LOp.not rfl rfl) rfl) ?_
   refine zL (r := b false) rfl rfl rfl (LOp.pick_false rfl rfl rfl) ?_
   refine zN ?_
   refine RunC.cond_false rfl rfl ?_
   refine RunC.skip ?_
   refine zQ ?_
   refine zL (r := ptr [i64 a0, i64 a1, sl a2.length (a2.map f32)]) rfl rfl rfl (LOp.fap und45 rfl siz2 rfl rfl rfl) ?_
   refine zL (r := i64 a0) rfl rfl rfl (LOp.load1 agg2 rfl rfl) ?_
   refine zA (r := i64 a0) rfl rfl rfl rfl rfl ?_
   refine zN ?_
   refine RunC.seq ?_
   obtain ⟨r3, r4, r5, hf5, h⟩ := obind3_some h
   refine RunC.regionW ?_
   refine ROps.d (r := agg [i64 r3, i64 r4, oref 1 1 0 r5.length]) (fs := [(1, (r5.map f32))]) (Γ' := [⟨1, some [i64 0, i64 0, nilsl]⟩, ⟨1, some (r5.map f32)⟩, ⟨0, none⟩, ⟨0, none⟩, ⟨0, none⟩, ⟨0, none⟩, ⟨0, none⟩, ⟨0, none⟩, ⟨0, none⟩]) rfl rfl rfl (TOp.callBN (ls := [(r5.map f32)]) [1] (CallAs.func ent59 rfl rfl) (Bors.cons (Bor.ptr (Bors.cons (Bor.pure rfl) (Bors.cons (Bor.pure rfl) (Bors.cons (Bor.sl (fun _ => rfl)) Bors.nil)))) Bors.nil) rfl (s_l02Own_ok a0 a1 a2 r3 r4 r5 hf5) (and_all (lts0_map (f := f32) (fun _ => rfl) _) rfl) (and_all (noss_map (f := f32) (fun _ => rfl) _) rfl) rfl (by decide) (ns_of ⟨⟨_, rfl⟩, trivial⟩)) rfl ?_
   refine ROps.d (r := optr 2 1 0) (fs := [(2, [i64 0, i64 0, nilsl])]) (Γ' := [⟨1, some [i64 0, i64 0, nilsl]⟩, ⟨1, some (r5.map f32)⟩, ⟨1, some [i64 0, i64 0, nilsl]⟩, ⟨0, none⟩, ⟨0, none⟩, ⟨0, none⟩, ⟨0, none⟩, ⟨0, none⟩, ⟨0, none⟩]) rfl rfl rfl (TOp.alloc_o (g := ⟨0, none⟩) 2 rfl zer45 zok45 rfl) rfl ?_
   refine ROps.store_le (r := agg [i64 r3, i64 r4, oref 1 1 0 r5.length]) (l' := [i64 r3, i64 r4, oref 1 1 0 r5.length]) (Γ' := [⟨1, some [i64 0, i64 0, nilsl]⟩, ⟨1, some (r5.map f32)⟩, ⟨1, some [i64 r3, i64 r4, oref 1 1 0 r5.length]⟩, ⟨0, none⟩, ⟨0, none⟩, ⟨0, none⟩, ⟨0, none⟩, ⟨0, none⟩, ⟨0, none⟩]) rfl siz45 rfl rfl rfl aR rfl rfl rfl rfl (Nat.le_of_ble_eq_true rfl) rfl rfl ?_
   refine zN ?_
   refine RunC.seq ?_
   obtain ⟨r6, r7, r8, hf6, h⟩ := obind3_some h
   refine RunC.regionW ?_
   refine zM (r := i64 a0) rfl rfl rfl rfl rfl ?_
   refine ROps.d (r := agg [i64 r6, i64 r7, oref 3 1 0 r8.length]) (fs := [(3, (r8.map f32))]) (Γ' := [⟨1, some [i64 0, i64 0, nilsl]⟩, ⟨1, some (r5.map f32)⟩, ⟨1, some [i64 r3, i64 r4, oref 1 1 0 r5.length]⟩, ⟨1, some (r8.map f32)⟩, ⟨0, none⟩, ⟨0, none⟩, ⟨0, none⟩, ⟨0, none⟩, ⟨0, none⟩]) rfl rfl rfl (TOp.callBN (ls := [(r8.map f32)]) [3] (CallAs.func ent60 rfl rfl) (Bors.cons (Bor.pure rfl) Bors.nil) rfl (s_l02Unit_ok a0 r6 r7 r8 hf6) (and_all (lts0_map (f := f32) (fun _ => rfl) _) rfl) (and_all (noss_map (f := f32) (fun _ => rfl) _) rfl) rfl (by decide) (ns_of ⟨⟨_, rfl⟩, trivial⟩)) rfl ?_
   refine ROps.d (r := optr 4 1 0) (fs := [(4, [i64 0, i64 0, nilsl])]) (Γ' := [⟨1, some [i64 0, i64 0, nilsl]⟩, ⟨1, some (r5.map f32)⟩, ⟨1, some [i64 r3, i64 r4, oref 1 1 0 r5.length]⟩, ⟨1, some (r8.map f32)⟩, ⟨1, some [i64 0, i64 0, nilsl]⟩, ⟨0, none⟩, ⟨0, none⟩, ⟨0, none⟩, ⟨0, none⟩]) rfl rfl rfl (TOp.alloc_o (g := ⟨0, none⟩) 4 rfl zer45 zok45 rfl) rfl ?_
   refine ROps.store_le (r := agg [i64 r6, i64 r7, oref 3 1 0 r8.length]) (l' := [i64 r6, i64 r7, oref 3 1 0 r8.length]) (Γ' := [⟨1, some [i64 0, i64 0, nilsl]⟩, ⟨1, some (r5.map f32)⟩, ⟨1, some [i64 r3, i64 r4, oref 1 1 0 r5.length]⟩, ⟨1, some (r8.map f32)⟩, ⟨1, some [i64 r6, i64 r7, oref 3 1 0 r8.length]⟩, ⟨0, none⟩, ⟨0, none⟩, ⟨0, none⟩, ⟨0, none⟩]) rfl siz45 rfl rfl rfl aR rfl rfl rfl rfl (Nat.le_of_ble_eq_true rfl) rfl rfl ?_
   refine zN ?_
   refine RunC.wl (τ' := [(1, i64 a3), (5, optr 0 1 0), (7, i64 a0), (8, optr 2 1 0), (9, optr 4 1 0)]) (Γ' := [⟨1, some [i64 0, i64 0, nilsl]⟩, ⟨1, some (r5.map f32)⟩, ⟨1, some [i64 r3, i64 r4, oref 1 1 0 r5.length]⟩, ⟨1, some (r8.map f32)⟩, ⟨1, some [i64 r6, i64 r7, oref 3 1 0 r8.length]⟩, ⟨0, none⟩, ⟨0, none⟩, ⟨0, none⟩, ⟨0, none⟩]) ⟨aR, aR, aR, aR, aR, trivial⟩ ⟨⟨rfl, .inr rfl⟩, ⟨rfl, .inr rfl⟩, ⟨rfl, .inr rfl⟩, ⟨rfl, .inr rfl⟩, ⟨rfl, .inr rfl⟩, ⟨rfl, .inr rfl⟩, ⟨rfl, .inr rfl⟩, ⟨rfl, .inr rfl⟩, ⟨rfl, .inr rfl⟩, trivial⟩ ?_
   refine RunC.seq ?_
   refine zQ ?_
   refine zA (r := i64 0) rfl rfl rfl rfl rfl ?_
   refine zN ?_
   obtain ⟨z12, hz_12, h⟩ := obind_some h
   refine RunC.cutN (fun τ Γ => ∃ (L43 : List F) (L45 : List F), L43.length = r5.length ∧ L45.length = r8.length ∧ WeakLe τ [(5, optr 0 1 0), (7, i64 a0), (8, optr 2 1 0), (9, optr 4 1 0)] ∧ DeadLe Γ [⟨1, some [i64 0, i64 0, nilsl]⟩, ⟨1, some (L43.map f32)⟩, ⟨1, some [i64 r3, i64 r4, oref 1 1 0 r5.length]⟩, ⟨1, some (L45.map f32)⟩, ⟨1, some [i64 r6, i64 r7, oref 3 1 0 r8.length]⟩, ⟨0, none⟩, ⟨0, none⟩, ⟨0, none⟩, ⟨0, none⟩] ∧ z12 = .inl (L43, L45)) ?_ ?_
   ·refine RunC.block (RunC.loop (RunL.loopM (x := z12) (s_TurnValues_s7 a0 a3 r3 r4 r5 r6 r7 r8) (fun (s : (List F) × (List F) × Int) τ Γ => s.1.length = r5.length ∧ s.2.1.length = r8.length ∧ WeakLe τ [(1, i64 a3), (5, optr 0 1 0), (7, i64 a0), (8, optr 2 1 0), (9, optr 4 1 0), (10, i64 s.2.2)] ∧ DeadLe Γ [⟨1, some [i64 0, i64 0, nilsl]⟩, ⟨1, some (s.1.map f32)⟩, ⟨1, some [i64 r3, i64 r4, oref 1 1 0 r5.length]⟩, ⟨1, some (s.2.1.map f32)⟩, ⟨1, some [i64 r6, i64 r7, oref 3 1 0 r8.length]⟩, ⟨0, none⟩, ⟨0, none⟩, ⟨0, none⟩, ⟨0, none⟩]) ?_ _ _ _ hz_12 ⟨rfl, rfl, ⟨aR, aR, aR, aR, aR, aR, trivial⟩, ⟨⟨rfl, .inr rfl⟩, ⟨rfl, .inr rfl⟩, ⟨rfl, .inr rfl⟩, ⟨rfl, .inr rfl⟩, ⟨rfl, .inr rfl⟩, ⟨rfl, .inr rfl⟩, ⟨rfl, .inr rfl⟩, ⟨rfl, .inr rfl⟩, ⟨rfl, .inr rfl⟩, trivial⟩⟩))
    rintro ⟨L9, L11, v13⟩ τ12 Γ12 y12_ ⟨hl10, hl12, hw12, hd12⟩ h12_ ho12 hr12
    refine RunC.wl (τ' := [(1, i64 a3), (5, optr 0 1 0), (7, i64 a0), (8, optr 2 1 0), (9, optr 4 1 0), (10, i64 v13)]) (Γ' := [⟨1, some [i64 0, i64 0, nilsl]⟩, ⟨1, some (L9.map f32)⟩, ⟨1, some [i64 r3, i64 r4, oref 1 1 0 r5.length]⟩, ⟨1, some (L11.map f32)⟩, ⟨1, some [i64 r6, i64 r7, oref 3 1 0 r8.length]⟩, ⟨0, none⟩, ⟨0, none⟩, ⟨0, none⟩, ⟨0, none⟩]) hw12 hd12 ?_
    replace hl10 : L9.length = r5.length := hl10
    replace hl12 : L11.length = r8.length := hl12
    replace h12_ : s_TurnValues_b7 a0 a3 r3 r4 r5 r6 r7 r8 L9 L11 v13 = some y12_ := h12_
    unfold s_TurnValues_b7 at h12_
    refine RunC.seq ?_
    refine RunC.seq ?_
    rcases bsel_some h12_ with ⟨hc7, h12_⟩ | ⟨hc7, h12_⟩
    ·refine RunC.regionW ?_
     refine zM (r := i64 v13) rfl rfl rfl rfl rfl ?_
     refine zM (r := i64 a3) rfl rfl rfl rfl rfl ?_
     refine zL (r := b true) rfl rfl rfl (LOp.eqb (LOp.lss rfl rfl rfl) hc7) ?_
     refine zN ?_
     refine RunC.cond_true rfl rfl ?_
     refine RunC.skip ?_
     refine RunC.seq ?_
     refine RunC.block ?_
     refine zQ ?_
     refine zA (r := i64 0) rfl rfl rfl rfl rfl ?_
     refine zN ?_
     obtain ⟨z13, hz_13, h12_⟩ := obind_some h12_
     refine RunC.cutN (fun τ Γ => ∃ (L38 : List F) (L40 : List F), L38.length = r5.length ∧ L40.length = r8.length ∧ WeakLe τ [(1, i64 a3), (5, optr 0 1 0), (7, i64 a0), (8, optr 2 1 0), (9, optr 4 1 0), (10, i64 v13)] ∧ DeadLe Γ [⟨1, some [i64 0, i64 0, nilsl]⟩, ⟨1, some (L38.map f32)⟩, ⟨1, some [i64 r3, i64 r4, oref 1 1 0 r5.length]⟩, ⟨1, some (L40.map f32)⟩, ⟨1, some [i64 r6, i64 r7, oref 3 1 0 r8.length]⟩, ⟨0, none⟩, ⟨0, none⟩, ⟨0, none⟩, ⟨0, none⟩] ∧ z13 = .inl (L38, L40)) ?_ ?_
     ·refine RunC.block (RunC.loop (RunL.loopM (x := z13) (s_TurnValues_s6 a0 r3 r4 r5 r6 r7 r8) (fun (s : (List F) × (List F) × Int) τ Γ => s.1.length = r5.length ∧ s.2.1.length = r8.length ∧ WeakLe τ [(1, i64 a3), (5, optr 0 1 0), (7, i64 a0), (8, optr 2 1 0), (9, optr 4 1 0), (10, i64 v13), (11, i64 s.2.2)] ∧ DeadLe Γ [⟨1, some [i64 0, i64 0, nilsl]⟩, ⟨1, some (s.1.map f32)⟩, ⟨1, some [i64 r3, i64 r4, oref 1 1 0 r5.length]⟩, ⟨1, some (s.2.1.map f32)⟩, ⟨1, some [i64 r6, i64 r7, oref 3 1 0 r8.length]⟩, ⟨0, none⟩, ⟨0, none⟩, ⟨0, none⟩, ⟨0, none⟩]) ?_ _ _ _ hz_13 ⟨hl10, hl12, ⟨aR, aR, aR, aR, aR, aR, aR, trivial⟩, ⟨⟨rfl, .inr rfl⟩, ⟨rfl, .inr rfl⟩, ⟨rfl, .inr rfl⟩, ⟨rfl, .inr rfl⟩, ⟨rfl, .inr rfl⟩, ⟨rfl, .inr rfl⟩, ⟨rfl, .inr rfl⟩, ⟨rfl, .inr rfl⟩, ⟨rfl, .inr rfl⟩, trivial⟩⟩))
      rintro ⟨L14, L16, v18⟩ τ13 Γ13 y13_ ⟨hl15, hl17, hw13, hd13⟩ h13_ ho13 hr13
      refine RunC.wl (τ' := [(1, i64 a3), (5, optr 0 1 0), (7, i64 a0), (8, optr 2 1 0), (9, optr 4 1 0), (10, i64 v13), (11, i64 v18)]) (Γ' := [⟨1, some [i64 0, i64 0, nilsl]⟩, ⟨1, some (L14.map f32)⟩, ⟨1, some [i64 r3, i64 r4, oref 1 1 0 r5.length]⟩, ⟨1, some (L16.map f32)⟩, ⟨1, some [i64 r6, i64 r7, oref 3 1 0 r8.length]⟩, ⟨0, none⟩, ⟨0, none⟩, ⟨0, none⟩, ⟨0, none⟩]) hw13 hd13 ?_
      replace hl15 : L14.length = r5.length := hl15
      replace hl17 : L16.length = r8.length := hl17
      replace h13_ : s_TurnValues_b6 a0 r3 r4 r5 r6 r7 r8 L14 L16 v18 = some y13_ := h13_
      unfold s_TurnValues_b6 at h13_
      refine RunC.seq ?_
      refine RunC.seq ?_
      rcases bsel_some h13_ with ⟨hc8, h13_⟩ | ⟨hc8, h13_⟩
      ·refine RunC.regionW ?_
       refine zM (r := i64 v18) rfl rfl rfl rfl rfl ?_
       refine zM (r := i64 a0) rfl rfl rfl rfl rfl ?_
       refine zL (r := b true) rfl rfl rfl (LOp.eqb (LOp.lss rfl rfl rfl) hc8) ?_
       refine zN ?_
       refine RunC.cond_true rfl rfl ?_
       refine RunC.skip ?_
       refine RunC.seq ?_
       refine RunC.block ?_
       refine RunC.seq ?_
       obtain ⟨x19, hx9, h13_⟩ := olet_some h13_
       refine RunC.regionW ?_
       refine zM (r := i64 v18) rfl rfl rfl rfl rfl ?_
       refine zL (r := i64 x19) rfl rfl rfl (LOp.eqr (LOp.add rfl rfl rfl) (congrArg (ik .i64) hx9)) ?_
       refine zA (r := i64 x19) rfl rfl rfl rfl rfl ?_
       refine zN ?_
       obtain ⟨z14, hz_14, h13_⟩ := obind_some h13_
       refine RunC.cutN (fun τ Γ => ∃ (L33 : List F) (L35 : List F), L33.length = r5.length ∧ L35.length = r8.length ∧ WeakLe τ [(1, i64 a3), (5, optr 0 1 0), (7, i64 a0), (8, optr 2 1 0), (9, optr 4 1 0), (10, i64 v13), (11, i64 v18)] ∧ DeadLe Γ [⟨1, some [i64 0, i64 0, nilsl]⟩, ⟨1, some (L33.map f32)⟩, ⟨1, some [i64 r3, i64 r4, oref 1 1 0 r5.length]⟩, ⟨1, some (L35.map f32)⟩, ⟨1, some [i64 r6, i64 r7, oref 3 1 0 r8.length]⟩, ⟨0, none⟩, ⟨0, none⟩, ⟨0, none⟩, ⟨0, none⟩] ∧ z14 = .inl (L33, L35)) ?_ ?_
       ·refine RunC.block (RunC.loop (RunL.loopM (x := z14) (s_TurnValues_s5 a0 r3 r4 r5 r6 r7 r8 v18) (fun (s : (List F) × (List F) × Int) τ Γ => s.1.length = r5.length ∧ s.2.1.length = r8.length ∧ WeakLe τ [(1, i64 a3), (5, optr 0 1 0), (7, i64 a0), (8, optr 2 1 0), (9, optr 4 1 0), (10, i64 v13), (11, i64 v18), (12, i64 s.2.2)] ∧ DeadLe Γ [⟨1, some [i64 0, i64 0, nilsl]⟩, ⟨1, some (s.1.map f32)⟩, ⟨1, some [i64 r3, i64 r4, oref 1 1 0 r5.length]⟩, ⟨1, some (s.2.1.map f32)⟩, ⟨1, some [i64 r6, i64 r7, oref 3 1 0 r8.length]⟩, ⟨0, none⟩, ⟨0, none⟩, ⟨0, none⟩, ⟨0, none⟩]) ?_ _ _ _ hz_14 ⟨hl15, hl17, ⟨aR, aR, aR, aR, aR, aR, aR, aR, trivial⟩, ⟨⟨rfl, .inr rfl⟩, ⟨rfl, .inr rfl⟩, ⟨rfl, .inr rfl⟩, ⟨rfl, .inr rfl⟩, ⟨rfl, .inr rfl⟩, ⟨rfl, .inr rfl⟩, ⟨rfl, .inr rfl⟩, ⟨rfl, .inr rfl⟩, ⟨rfl, .inr rfl⟩, trivial⟩⟩))
        rintro ⟨L20, L22, v24⟩ τ14 Γ14 y14_ ⟨hl21, hl23, hw14, hd14⟩ h14_ ho14 hr14
        refine RunC.wl (τ' := [(1, i64 a3), (5, optr 0 1 0), (7, i64 a0), (8, optr 2 1 0), (9, optr 4 1 0), (10, i64 v13), (11, i64 v18), (12, i64 v24)]) (Γ' := [⟨1, some [i64 0, i64 0, nilsl]⟩, ⟨1, some (L20.map f32)⟩, ⟨1, some [i64 r3, i64 r4, oref 1 1 0 r5.length]⟩, ⟨1, some (L22.map f32)⟩, ⟨1, some [i64 r6, i64 r7, oref 3 1 0 r8.length]⟩, ⟨0, none⟩, ⟨0, none⟩, ⟨0, none⟩, ⟨0, none⟩]) hw14 hd14 ?_
        replace hl21 : L20.length = r5.length := hl21
        replace hl23 : L22.length = r8.length := hl23
        replace h14_ : s_TurnValues_b5 a0 r3 r4 r5 r6 r7 r8 v18 L20 L22 v24 = some y14_ := h14_
        unfold s_TurnValues_b5 at h14_
        refine RunC.seq ?_
        refine RunC.seq ?_
        rcases bsel_some h14_ with ⟨hc10, h14_⟩ | ⟨hc10, h14_⟩
        ·refine RunC.regionW ?_
         refine zM (r := i64 v24) rfl rfl rfl rfl rfl ?_
         refine zM (r := i64 a0) rfl rfl rfl rfl rfl ?_
         refine zL (r := b true) rfl rfl rfl (LOp.eqb (LOp.lss rfl rfl rfl) hc10) ?_
         refine zN ?_
         refine RunC.cond_true rfl rfl ?_
         refine RunC.skip ?_
         refine RunC.seq ?_
         refine RunC.block ?_
         refine RunC.seq ?_
         obtain ⟨r25, r26, r27, hf11, h14_⟩ := obind3_some h14_
         rcases bsel_some h14_ with ⟨hc12, h14_⟩ | ⟨hc12, h14_⟩
         ·refine RunC.regionW ?_
          refine zM (r := i64 v18) rfl rfl rfl rfl rfl ?_
          refine zM (r := i64 v24) rfl rfl rfl rfl rfl ?_
          refine ROps.d (r := tup [f32 r25, f32 r26, b r27]) (fs := []) (Γ' := [⟨1, some [i64 0, i64 0, nilsl]⟩, ⟨1, some (L20.map f32)⟩, ⟨1, some [i64 r3, i64 r4, oref 1 1 0 r5.length]⟩, ⟨1, some (L22.map f32)⟩, ⟨1, some [i64 r6, i64 r7, oref 3 1 0 r8.length]⟩, ⟨0, none⟩, ⟨0, none⟩, ⟨0, none⟩, ⟨0, none⟩]) rfl rfl rfl (TOp.callB (CallAs.func ent61 rfl rfl) (Bors.cons (Bor.optr rfl (Bors.p (Bors.cons (Bor.pure rfl) (Bors.cons (Bor.pure rfl) (Bors.cons (Bor.own (f := f32) (fun _ => rfl) rfl hl21) Bors.nil)))) rfl) (Bors.cons (Bor.pure rfl) (Bors.cons (Bor.pure rfl) Bors.nil))) rfl rfl (s_l04Turn_ok r3 r4 L20 v18 v24 r25 r26 r27 hf11)) rfl ?_
          refine zM (r := tup [f32 r25, f32 r26, b r27]) rfl rfl rfl rfl rfl ?_
          refine zL (r := f32 r25) rfl rfl rfl (LOp.extract rfl rfl rfl) ?_
          refine zL (r := f32 r26) rfl rfl rfl (LOp.extract rfl rfl rfl) ?_
          refine zL (r := b true) rfl rfl rfl (LOp.eqb (LOp.extract rfl rfl rfl) hc12) ?_
          refine zA (r := f32 r25) rfl rfl rfl rfl rfl ?_
          refine zA (r := f32 r26) rfl rfl rfl rfl rfl ?_
          refine zA (r := b true) rfl rfl rfl rfl rfl ?_
          refine zN ?_
          refine RunC.seq ?_
          refine zQ ?_
          refine zM (r := b true) rfl rfl rfl rfl rfl ?_
          refine zL (r := b false) rfl rfl rfl (LOp.eqb (LOp.not rfl rfl) rfl) ?_
          refine zN ?_
          refine RunC.cond_false rfl rfl ?_
          refine RunC.skip ?_
          refine RunC.seq ?_
          obtain ⟨r28, hf13, h14_⟩ := obind_some h14_
          obtain ⟨hn14, h14_⟩ := need_some h14_
          refine RunC.regionW ?_
          refine zM (r := i64 v18) rfl rfl rfl rfl rfl ?_
          refine zM (r := i64 v24) rfl rfl rfl rfl rfl ?_
          refine zM (r := f32 r25) rfl rfl rfl rfl rfl ?_
          refine zM (r := f32 r26) rfl rfl rfl rfl rfl ?_
          refine ROps.callO (A := [optr 4 1 0, i64 v18, i64 v24, f32 r25, f32 r26]) (args := [optr 0 0 0, i64 v18, i64 v24, f32 r25, f32 r26]) (Γc := [⟨0, some [i64 r6, i64 r7, oref 1 0 0 L22.length]⟩, ⟨0, some (L22.map f32)⟩]) (Γc' := [⟨0, some [i64 r6, i64 r7, oref 1 0 0 L22.length]⟩, ⟨0, some (r28.map f32)⟩]) (r' := tup []) (Γ' := [⟨1, some [i64 0, i64 0, nilsl]⟩, ⟨1, some (L20.map f32)⟩, ⟨1, some [i64 r3, i64 r4, oref 1 1 0 r5.length]⟩, ⟨1, some (r28.map f32)⟩, ⟨1, some [i64 r6, i64 r7, oref 3 1 0 r8.length]⟩, ⟨0, none⟩, ⟨0, none⟩, ⟨0, none⟩, ⟨0, none⟩]) [(4, 1), (3, 1)] [] rfl (CallAs.func ent62 rfl rfl) rfl rfl (SelOk.of (show List.Nodup [4, 3] from by decide) (SelL.cells0 rfl (by simp [ren, rens, sigma, rens_f32, rens_f64, rens_i64, rens_ik, rens_str, rens_cp, hl23]) rfl (SelL.arr0 (f := f32) (fun _ => rfl) rfl trivial))) (live_of ⟨⟨_, _, rfl⟩, ⟨_, _, rfl⟩, trivial⟩) (by simp [ren, rens, sigma, rens_f32, rens_f64, rens_i64, rens_ik, rens_str, rens_cp, hl23]) rfl (s_l04Columns_0p0_C02o1_ok v18 v24 r25 r26 r6 r7 L22 r28 hf13) rfl (news_of trivial) (show List.Nodup [4, 3] from by decide) (by simp [ren, rens, sigma, of_decide_eq_true hn14]) (by simp [backOb, sigma, ren, rens, rens_f32, rens_f64, rens_i64, rens_ik, rens_str, rens_cp, hl23, of_decide_eq_true hn14]) ?_
          refine zN ?_
          refine RunC.wl (τ' := [(1, i64 a3), (5, optr 0 1 0), (7, i64 a0), (8, optr 2 1 0), (9, optr 4 1 0), (10, i64 v13), (11, i64 v18), (12, i64 v24), (13, f32 r25), (14, f32 r26)]) (Γ' := [⟨1, some [i64 0, i64 0, nilsl]⟩, ⟨1, some (L20.map f32)⟩, ⟨1, some [i64 r3, i64 r4, oref 1 1 0 r5.length]⟩, ⟨1, some (r28.map f32)⟩, ⟨1, some [i64 r6, i64 r7, oref 3 1 0 r8.length]⟩, ⟨0, none⟩, ⟨0, none⟩, ⟨0, none⟩, ⟨0, none⟩]) ⟨aR, aR, aR, aR, aR, aR, aR, aR, aR, aR, trivial⟩ ⟨⟨rfl, .inr rfl⟩, ⟨rfl, .inr rfl⟩, ⟨rfl, .inr rfl⟩, ⟨rfl, .inr rfl⟩, ⟨rfl, .inr rfl⟩, ⟨rfl, .inr rfl⟩, ⟨rfl, .inr rfl⟩, ⟨rfl, .inr rfl⟩, ⟨rfl, .inr rfl⟩, trivial⟩ ?_
          refine RunC.seq ?_
          obtain ⟨r29, hf15, h14_⟩ := obind_some h14_
          obtain ⟨hn16, h14_⟩ := need_some h14_
          refine RunC.regionW ?_
          refine zM (r := i64 v18) rfl rfl rfl rfl rfl ?_
          refine zM (r := i64 v24) rfl rfl rfl rfl rfl ?_
          refine zM (r := f32 r25) rfl rfl rfl rfl rfl ?_
          refine zM (r := f32 r26) rfl rfl rfl rfl rfl ?_
          refine ROps.callO (A := [optr 2 1 0, i64 v18, i64 v24, f32 r25, f32 r26]) (args := [optr 0 0 0, i64 v18, i64 v24, f32 r25, f32 r26]) (Γc := [⟨0, some [i64 r3, i64 r4, oref 1 0 0 L20.length]⟩, ⟨0, some (L20.map f32)⟩]) (Γc' := [⟨0, some [i64 r3, i64 r4, oref 1 0 0 L20.length]⟩, ⟨0, some (r29.map f32)⟩]) (r' := tup []) (Γ' := [⟨1, some [i64 0, i64 0, nilsl]⟩, ⟨1, some (r29.map f32)⟩, ⟨1, some [i64 r3, i64 r4, oref 1 1 0 r5.length]⟩, ⟨1, some (r28.map f32)⟩, ⟨1, some [i64 r6, i64 r7, oref 3 1 0 r8.length]⟩, ⟨0, none⟩, ⟨0, none⟩, ⟨0, none⟩, ⟨0, none⟩]) [(2, 1), (1, 1)] [] rfl (CallAs.func ent63 rfl rfl) rfl rfl (SelOk.of (show List.Nodup [2, 1] from by decide) (SelL.cells0 rfl (by simp [ren, rens, sigma, rens_f32, rens_f64, rens_i64, rens_ik, rens_str, rens_cp, hl21]) rfl (SelL.arr0 (f := f32) (fun _ => rfl) rfl trivial))) (live_of ⟨⟨_, _, rfl⟩, ⟨_, _, rfl⟩, trivial⟩) (by simp [ren, rens, sigma, rens_f32, rens_f64, rens_i64, rens_ik, rens_str, rens_cp, hl21]) rfl (s_l04Turned_0p0_C02o1_ok v18 v24 r25 r26 r3 r4 L20 r29 hf15) rfl (news_of trivial) (show List.Nodup [2, 1] from by decide) (by simp [ren, rens, sigma, of_decide_eq_true hn16]) (by simp [backOb, sigma, ren, rens, rens_f32, rens_f64, rens_i64, rens_ik, rens_str, rens_cp, hl21, of_decide_eq_true hn16]) ?_
          refine zN ?_
          refine RunC.seq ?_
          obtain ⟨r30, hf17, h14_⟩ := obind_some h14_
          rcases bsel_some h14_ with ⟨hc18, h14_⟩ | ⟨hc18, h14_⟩
          ·obtain ⟨r31, hf19, h14_⟩ := obind_some h14_
           rcases bsel_some h14_ with ⟨hc20, h14_⟩ | ⟨hc20, h14_⟩
           ·refine RunC.regionW ?_
            refine ROps.d (r := b true) (fs := []) (Γ' := [⟨1, some [i64 0, i64 0, nilsl]⟩, ⟨1, some (r29.map f32)⟩, ⟨1, some [i64 r3, i64 r4, oref 1 1 0 r5.length]⟩, ⟨1, some (r28.map f32)⟩, ⟨1, some [i64 r6, i64 r7, oref 3 1 0 r8.length]⟩, ⟨0, none⟩, ⟨0, none⟩, ⟨0, none⟩, ⟨0, none⟩]) rfl rfl rfl (TOp.eqb (TOp.callB (CallAs.func ent64 rfl rfl) (Bors.cons (Bor.optr rfl (Bors.p (Bors.cons (Bor.pure rfl) (Bors.cons (Bor.pure rfl) (Bors.cons (Bor.own (f := f32) (fun _ => rfl) rfl (of_decide_eq_true hn16)) Bors.nil)))) rfl) Bors.nil) rfl rfl (s_l02Is_ok r3 r4 r29 r30 hf17)) hc18) rfl ?_
            refine zL (r := b false) rfl rfl rfl (LOp.eqb (LOp.not rfl rfl) rfl) ?_
            refine zM (r := b false) rfl rfl rfl rfl rfl ?_
            refine ROps.d (r := b true) (fs := []) (Γ' := [⟨1, some [i64 0, i64 0, nilsl]⟩, ⟨1, some (r29.map f32)⟩, ⟨1, some [i64 r3, i64 r4, oref 1 1 0 r5.length]⟩, ⟨1, some (r28.map f32)⟩, ⟨1, some [i64 r6, i64 r7, oref 3 1 0 r8.length]⟩, ⟨0, none⟩, ⟨0, none⟩, ⟨0, none⟩, ⟨0, none⟩]) rfl rfl rfl (TOp.eqb (TOp.callB (CallAs.func ent64 rfl rfl) (Bors.cons (Bor.optr rfl (Bors.p (Bors.cons (Bor.pure rfl) (Bors.cons (Bor.pure rfl) (Bors.cons (Bor.own (f := f32) (fun _ => rfl) rfl (of_decide_eq_true hn14)) Bors.nil)))) rfl) Bors.nil) rfl rfl (s_l02Is_ok r6 r7 r28 r31 hf19)) hc20) rfl ?_
            refine zL (r := b false) rfl rfl rfl (LOp.eqb (LOp.not rfl rfl) rfl) ?_
            refine zL (r := b false) rfl rfl rfl (LOp.pick_false rfl rfl rfl) ?_
            refine zN ?_
            refine RunC.cond_false rfl rfl ?_
            refine RunC.skip ?_
            obtain ⟨x32, hx21, h14_⟩ := olet_some h14_
            refine RunC.regionW ?_
            refine zM (r := i64 v24) rfl rfl rfl rfl rfl ?_
            refine zL (r := i64 x32) rfl rfl rfl (LOp.eqr (LOp.add rfl rfl rfl) (congrArg (ik .i64) hx21)) ?_
            refine zA (r := i64 x32) rfl rfl rfl rfl rfl ?_
            refine zN ?_
            cases Option.some.inj h14_
            exact ⟨_, rfl, (of_decide_eq_true hn16), (of_decide_eq_true hn14), ⟨aR, aR, aR, aR, aR, aR, aR, aR, trivial⟩, ⟨⟨rfl, .inr rfl⟩, ⟨rfl, .inr rfl⟩, ⟨rfl, .inr rfl⟩, ⟨rfl, .inr rfl⟩, ⟨rfl, .inr rfl⟩, ⟨rfl, .inr rfl⟩, ⟨rfl, .inr rfl⟩, ⟨rfl, .inr rfl⟩, ⟨rfl, .inr rfl⟩, trivial⟩⟩
           ·refine RunC.regionW ?_
            refine ROps.d (r := b true) (fs := []) (Γ' := [⟨1, some [i64 0, i64 0, nilsl]⟩, ⟨1, some (r29.map f32)⟩, ⟨1, some [i64 r3, i64 r4, oref 1 1 0 r5.length]⟩, ⟨1, some (r28.map f32)⟩, ⟨1, some [i64 r6, i64 r7, oref 3 1 0 r8.length]⟩, ⟨0, none⟩, ⟨0, none⟩, ⟨0, none⟩, ⟨0, none⟩]) rfl rfl rfl (TOp.eqb (TOp.callB (CallAs.func ent64 rfl rfl) (Bors.cons (Bor.optr rfl (Bors.p (Bors.cons (Bor.pure rfl) (Bors.cons (Bor.pure rfl) (Bors.cons (Bor.own (f := f32) (fun _ => rfl) rfl (of_decide_eq_true hn16)) Bors.nil)))) rfl) Bors.nil) rfl rfl (s_l02Is_ok r3 r4 r29 r30 hf17)) hc18) rfl ?_
            refine zL (r := b false) rfl rfl rfl (LOp.eqb (LOp.not rfl rfl) rfl) ?_
            refine zM (r := b false) rfl rfl rfl rfl rfl ?_
            refine ROps.d (r := b false) (fs := []) (Γ' := [⟨1, some [i64 0, i64 0, nilsl]⟩, ⟨1, some (r29.map f32)⟩, ⟨1, some [i64 r3, i64 r4, oref 1 1 0 r5.length]⟩, ⟨1, some (r28.map f32)⟩, ⟨1, some [i64 r6, i64 r7, oref 3 1 0 r8.length]⟩, ⟨0, none⟩, ⟨0, none⟩, ⟨0, none⟩, ⟨0, none⟩]) rfl rfl rfl (TOp.eqb (TOp.callB (CallAs.func ent64 rfl rfl) (Bors.cons (Bor.optr rfl (Bors.p (Bors.cons (Bor.pure rfl) (Bors.cons (Bor.pure rfl) (Bors.cons (Bor.own (f := f32) (fun _ => rfl) rfl (of_decide_eq_true hn14)) Bors.nil)))) rfl) Bors.nil) rfl rfl (s_l02Is_ok r6 r7 r28 r31 hf19)) hc20) rfl ?_
            refine zL (r := b true) rfl rfl rfl (LOp.eqb (LOp.not rfl rfl) rfl) ?_
            refine zL (r := b true) rfl rfl rfl (LOp.pick_false rfl rfl rfl) ?_
            refine zN ?_
            refine RunC.cond_true rfl rfl ?_
            refine zQ ?_
            refine zL (r := agg [i64 0, i64 0, nilsl]) rfl rfl rfl (LOp.build (qs := []) zer45 zok45 und45 plc45 rfl trivial rfl) ?_
            refine zA (r := nilsl) rfl rfl rfl rfl rfl ?_
            refine ROps.store_le (r := agg [i64 0, i64 0, nilsl]) (l' := [i64 0, i64 0, nilsl]) (Γ' := [⟨1, some [i64 0, i64 0, nilsl]⟩, ⟨1, some (r29.map f32)⟩, ⟨1, some [i64 r3, i64 r4, oref 1 1 0 r5.length]⟩, ⟨1, some (r28.map f32)⟩, ⟨1, some [i64 r6, i64 r7, oref 3 1 0 r8.length]⟩, ⟨0, none⟩, ⟨0, none⟩, ⟨0, none⟩, ⟨0, none⟩]) rfl siz45 rfl rfl rfl aR rfl rfl rfl rfl (Nat.le_of_ble_eq_true rfl) rfl rfl ?_
            refine zA (r := b false) rfl rfl rfl rfl rfl ?_
            refine zN ?_
            refine RunC.nil_slot (Γ' := [⟨1, some [i64 0, i64 0, nilsl]⟩, ⟨1, some (r29.map f32)⟩, ⟨1, some [i64 r3, i64 r4, oref 1 1 0 r5.length]⟩, ⟨1, some (r28.map f32)⟩, ⟨1, some [i64 r6, i64 r7, oref 3 1 0 r8.length]⟩, ⟨1, some (([] : List F).map f32)⟩, ⟨0, none⟩, ⟨0, none⟩, ⟨0, none⟩]) 4 5 rfl rfl rfl ?_
            refine RunC.nil_cell (l' := [i64 0, i64 0, oref 6 1 0 0]) (Γ' := [⟨1, some [i64 0, i64 0, oref 6 1 0 0]⟩, ⟨1, some (r29.map f32)⟩, ⟨1, some [i64 r3, i64 r4, oref 1 1 0 r5.length]⟩, ⟨1, some (r28.map f32)⟩, ⟨1, some [i64 r6, i64 r7, oref 3 1 0 r8.length]⟩, ⟨1, some (([] : List F).map f32)⟩, ⟨1, some (([] : List F).map f32)⟩, ⟨0, none⟩, ⟨0, none⟩]) 0 2 6 rfl rfl rfl rfl rfl ?_
            refine RunC.ret ?_
            cases Option.some.inj h14_
            have hx15_ := hr14 _ rfl
            subst hx15_
            cases Option.some.inj h13_
            have hx16_ := hr13 _ rfl
            subst hx16_
            cases Option.some.inj h12_
            have hx17_ := hr12 _ rfl
            subst hx17_
            have hq := Option.some.inj h
            obtain ⟨hq0, hq⟩ := Prod.mk.inj hq
            obtain ⟨hq1, hq⟩ := Prod.mk.inj hq
            obtain ⟨hq2, hq⟩ := Prod.mk.inj hq
            obtain ⟨hq3, hq⟩ := Prod.mk.inj hq
            subst q0
            subst q1
            subst q2
            subst q3
            subst q4
            exact bodyQ.mk (r' := tup [oref 5 1 0 (([] : List F).length), agg [i64 0, i64 0, oref 6 1 0 (([] : List F).length)], b false]) [(5, 1), (6, 1)] (.inr rfl) rfl (show List.Nodup [5, 6] from by decide) rfl rfl (Res.eq (Res.three rfl (RV.tmp rfl) (RV.cell agg45 siz45 rfl rfl rfl rfl) (RV.tmp rfl)) (by rw [(show ([] : List F).length = 0 from rfl)] <;> rfl)) (SelL.arr0 (f := f32) (fun _ => rfl) rfl (SelL.arr0 (f := f32) (fun _ => rfl) rfl trivial))
          ·refine RunC.regionW ?_
           refine ROps.d (r := b false) (fs := []) (Γ' := [⟨1, some [i64 0, i64 0, nilsl]⟩, ⟨1, some (r29.map f32)⟩, ⟨1, some [i64 r3, i64 r4, oref 1 1 0 r5.length]⟩, ⟨1, some (r28.map f32)⟩, ⟨1, some [i64 r6, i64 r7, oref 3 1 0 r8.length]⟩, ⟨0, none⟩, ⟨0, none⟩, ⟨0, none⟩, ⟨0, none⟩]) rfl rfl rfl (TOp.eqb (TOp.callB (CallAs.func ent64 rfl rfl) (Bors.cons (Bor.optr rfl (Bors.p (Bors.cons (Bor.pure rfl) (Bors.cons (Bor.pure rfl) (Bors.cons (Bor.own (f := f32) (fun _ => rfl) rfl (of_decide_eq_true hn16)) Bors.nil)))) rfl) Bors.nil) rfl rfl (s_l02Is_ok r3 r4 r29 r30 hf17)) hc18) rfl ?_
           refine zL (r := b true) rfl rfl rfl (LOp.eqb (LOp.not rfl rfl) rfl) ?_
           refine zM (r := b true) rfl rfl rfl rfl rfl ?_
           refine ROps.s rfl rfl rfl ?_
           refine ROps.s rfl rfl rfl ?_
           refine zL (r := b true) rfl rfl rfl (LOp.pick_true rfl rfl rfl) ?_
           refine zN ?_
           refine RunC.cond_true rfl rfl ?_
           refine zQ ?_
           refine zL (r := agg [i64 0, i64 0, nilsl]) rfl rfl rfl (LOp.build (qs := []) zer45 zok45 und45 plc45 rfl trivial rfl) ?_
           refine zA (r := nilsl) rfl rfl rfl rfl rfl ?_
           refine ROps.store_le (r := agg [i64 0, i64 0, nilsl]) (l' := [i64 0, i64 0, nilsl]) (Γ' := [⟨1, some [i64 0, i64 0, nilsl]⟩, ⟨1, some (r29.map f32)⟩, ⟨1, some [i64 r3, i64 r4, oref 1 1 0 r5.length]⟩, ⟨1, some (r28.map f32)⟩, ⟨1, some [i64 r6, i64 r7, oref 3 1 0 r8.length]⟩, ⟨0, none⟩, ⟨0, none⟩, ⟨0, none⟩, ⟨0, none⟩]) rfl siz45 rfl rfl rfl aR rfl rfl rfl rfl (Nat.le_of_ble_eq_true rfl) rfl rfl ?_
           refine zA (r := b false) rfl rfl rfl rfl rfl ?_
           refine zN ?_
           refine RunC.nil_slot (Γ' := [⟨1, some [i64 0, i64 0, nilsl]⟩, ⟨1, some (r29.map f32)⟩, ⟨1, some [i64 r3, i64 r4, oref 1 1 0 r5.length]⟩, ⟨1, some (r28.map f32)⟩, ⟨1, some [i64 r6, i64 r7, oref 3 1 0 r8.length]⟩, ⟨1, some (([] : List F).map f32)⟩, ⟨0, none⟩, ⟨0, none⟩, ⟨0, none⟩]) 4 5 rfl rfl rfl ?_
           refine RunC.nil_cell (l' := [i64 0, i64 0, oref 6 1 0 0]) (Γ' := [⟨1, some [i64 0, i64 0, oref 6 1 0 0]⟩, ⟨1, some (r29.map f32)⟩, ⟨1, some [i64 r3, i64 r4, oref 1 1 0 r5.length]⟩, ⟨1, some (r28.map f32)⟩, ⟨1, some [i64 r6, i64 r7, oref 3 1 0 r8.length]⟩, ⟨1, some (([] : List F).map f32)⟩, ⟨1, some (([] : List F).map f32)⟩, ⟨0, none⟩, ⟨0, none⟩]) 0 2 6 rfl rfl rfl rfl rfl ?_
           refine RunC.ret ?_
           cases Option.some.inj h14_
           have hx18_ := hr14 _ rfl
           subst hx18_
           cases Option.some.inj h13_
           have hx19_ := hr13 _ rfl
           subst hx19_
           cases Option.some.inj h12_
           have hx20_ := hr12 _ rfl
           subst hx20_
           have hq := Option.some.inj h
           obtain ⟨hq0, hq⟩ := Prod.mk.inj hq
           obtain ⟨hq1, hq⟩ := Prod.mk.inj hq
           obtain ⟨hq2, hq⟩ := Prod.mk.inj hq
           obtain ⟨hq3, hq⟩ := Prod.mk.inj hq
           subst q0
           subst q1
           subst q2
           subst q3
           subst q4
           exact bodyQ.mk (r' := tup [oref 5 1 0 (([] : List F).length), agg [i64 0, i64 0, oref 6 1 0 (([] : List F).length)], b false]) [(5, 1), (6, 1)] (.inr rfl) rfl (show List.Nodup [5, 6] from by decide) rfl rfl (Res.eq (Res.three rfl (RV.tmp rfl) (RV.cell agg45 siz45 rfl rfl rfl rfl) (RV.tmp rfl)) (by rw [(show ([] : List F).length = 0 from rfl)] <;> rfl)) (SelL.arr0 (f := f32) (fun _ => rfl) rfl (SelL.arr0 (f := f32) (fun _ => rfl) rfl trivial))
         ·refine RunC.regionW ?_
          refine zM (r := i64 v18) rfl rfl rfl rfl rfl ?_
          refine zM (r := i64 v24) rfl rfl rfl rfl rfl ?_
          refine ROps.d (r := tup [f32 r25, f32 r26, b r27]) (fs := []) (Γ' := [⟨1, some [i64 0, i64 0, nilsl]⟩, ⟨1, some (L20.map f32)⟩, ⟨1, some [i64 r3, i64 r4, oref 1 1 0 r5.length]⟩, ⟨1, some (L22.map f32)⟩, ⟨1, some [i64 r6, i64 r7, oref 3 1 0 r8.length]⟩, ⟨0, none⟩, ⟨0, none⟩, ⟨0, none⟩, ⟨0, none⟩]) rfl rfl rfl (TOp.callB (CallAs.func ent61 rfl rfl) (Bors.cons (Bor.optr rfl (Bors.p (Bors.cons (Bor.pure rfl) (Bors.cons (Bor.pure rfl) (Bors.cons (Bor.own (f := f32) (fun _ => rfl) rfl hl21) Bors.nil)))) rfl) (Bors.cons (Bor.pure rfl) (Bors.cons (Bor.pure rfl) Bors.nil))) rfl rfl (s_l04Turn_ok r3 r4 L20 v18 v24 r25 r26 r27 hf11)) rfl ?_
          refine zM (r := tup [f32 r25, f32 r26, b r27]) rfl rfl rfl rfl rfl ?_
          refine zL (r := f32 r25) rfl rfl rfl (LOp.extract rfl rfl rfl) ?_
          refine zL (r := f32 r26) rfl rfl rfl (LOp.extract rfl rfl rfl) ?_
          refine zL (r := b false) rfl rfl rfl (LOp.eqb (LOp.extract rfl rfl rfl) hc12) ?_
          refine zA (r := f32 r25) rfl rfl rfl rfl rfl ?_
          refine zA (r := f32 r26) rfl rfl rfl rfl rfl ?_
          refine zA (r := b false) rfl rfl rfl rfl rfl ?_
          refine zN ?_
          refine RunC.seq ?_
          refine zQ ?_
          refine zM (r := b false) rfl rfl rfl rfl rfl ?_
          refine zL (r := b true) rfl rfl rfl (LOp.eqb (LOp.not rfl rfl) rfl) ?_
          refine zN ?_
          refine RunC.cond_true rfl rfl ?_
          refine zQ ?_
          refine zL (r := agg [i64 0, i64 0, nilsl]) rfl rfl rfl (LOp.build (qs := []) zer45 zok45 und45 plc45 rfl trivial rfl) ?_
          refine zA (r := nilsl) rfl rfl rfl rfl rfl ?_
          refine ROps.store_le (r := agg [i64 0, i64 0, nilsl]) (l' := [i64 0, i64 0, nilsl]) (Γ' := [⟨1, some [i64 0, i64 0, nilsl]⟩, ⟨1, some (L20.map f32)⟩, ⟨1, some [i64 r3, i64 r4, oref 1 1 0 r5.length]⟩, ⟨1, some (L22.map f32)⟩, ⟨1, some [i64 r6, i64 r7, oref 3 1 0 r8.length]⟩, ⟨0, none⟩, ⟨0, none⟩, ⟨0, none⟩, ⟨0, none⟩]) rfl siz45 rfl rfl rfl aR rfl rfl rfl rfl (Nat.le_of_ble_eq_true rfl) rfl rfl ?_
          refine zA (r := b false) rfl rfl rfl rfl rfl ?_
          refine zN ?_
          refine RunC.nil_slot (Γ' := [⟨1, some [i64 0, i64 0, nilsl]⟩, ⟨1, some (L20.map f32)⟩, ⟨1, some [i64 r3, i64 r4, oref 1 1 0 r5.length]⟩, ⟨1, some (L22.map f32)⟩, ⟨1, some [i64 r6, i64 r7, oref 3 1 0 r8.length]⟩, ⟨1, some (([] : List F).map f32)⟩, ⟨0, none⟩, ⟨0, none⟩, ⟨0, none⟩]) 4 5 rfl rfl rfl ?_
          refine RunC.nil_cell (l' := [i64 0, i64 0, oref 6 1 0 0]) (Γ' := [⟨1, some [i64 0, i64 0, oref 6 1 0 0]⟩, ⟨1, some (L20.map f32)⟩, ⟨1, some [i64 r3, i64 r4, oref 1 1 0 r5.length]⟩, ⟨1, some (L22.map f32)⟩, ⟨1, some [i64 r6, i64 r7, oref 3 1 0 r8.length]⟩, ⟨1, some (([] : List F).map f32)⟩, ⟨1, some (([] : List F).map f32)⟩, ⟨0, none⟩, ⟨0, none⟩]) 0 2 6 rfl rfl rfl rfl rfl ?_
          refine RunC.ret ?_
          cases Option.some.inj h14_
          have hx21_ := hr14 _ rfl
          subst hx21_
          cases Option.some.inj h13_
          have hx22_ := hr13 _ rfl
          subst hx22_
          cases Option.some.inj h12_
          have hx23_ := hr12 _ rfl
          subst hx23_
          have hq := Option.some.inj h
          obtain ⟨hq0, hq⟩ := Prod.mk.inj hq
          obtain ⟨hq1, hq⟩ := Prod.mk.inj hq
          obtain ⟨hq2, hq⟩ := Prod.mk.inj hq
          obtain ⟨hq3, hq⟩ := Prod.mk.inj hq
          subst q0
          subst q1
          subst q2
          subst q3
          subst q4
          exact bodyQ.mk (r' := tup [oref 5 1 0 (([] : List F).length), agg [i64 0, i64 0, oref 6 1 0 (([] : List F).length)], b false]) [(5, 1), (6, 1)] (.inr rfl) rfl (show List.Nodup [5, 6] from by decide) rfl rfl (Res.eq (Res.three rfl (RV.tmp rfl) (RV.cell agg45 siz45 rfl rfl rfl rfl) (RV.tmp rfl)) (by rw [(show ([] : List F).length = 0 from rfl)] <;> rfl)) (SelL.arr0 (f := f32) (fun _ => rfl) rfl (SelL.arr0 (f := f32) (fun _ => rfl) rfl trivial))
        ·refine RunC.regionW ?_
         refine zM (r := i64 v24) rfl rfl rfl rfl rfl ?_
         refine zM (r := i64 a0) rfl rfl rfl rfl rfl ?_
         refine zL (r := b false) rfl rfl rfl (LOp.eqb (LOp.lss rfl rfl rfl) hc10) ?_
         refine zN ?_
         refine RunC.cond_false rfl rfl ?_
         refine RunC.exit ?_
         cases Option.some.inj h14_
         have hx := ho14 _ rfl
         exact ⟨L20, L22, hl21, hl23, ⟨aR, aR, aR, aR, aR, aR, aR, trivial⟩, ⟨⟨rfl, .inr rfl⟩, ⟨rfl, .inr rfl⟩, ⟨rfl, .inr rfl⟩, ⟨rfl, .inr rfl⟩, ⟨rfl, .inr rfl⟩, ⟨rfl, .inr rfl⟩, ⟨rfl, .inr rfl⟩, ⟨rfl, .inr rfl⟩, ⟨rfl, .inr rfl⟩, trivial⟩, hx⟩
       ·rintro τ24 Γ24 ⟨L33, L35, hl34, hl36, hw24, hd24, rfl⟩
        refine RunC.wl hw24 hd24 ?_
        replace h13_ : s_TurnValues_k5 v18 L33 L35 = some y13_ := h13_
        unfold s_TurnValues_k5 at h13_
        obtain ⟨x37, hx22, h13_⟩ := olet_some h13_
        refine RunC.regionW ?_
        refine zM (r := i64 v18) rfl rfl rfl rfl rfl ?_
        refine zL (r := i64 x37) rfl rfl rfl (LOp.eqr (LOp.add rfl rfl rfl) (congrArg (ik .i64) hx22)) ?_
        refine zA (r := i64 x37) rfl rfl rfl rfl rfl ?_
        refine zN ?_
        cases Option.some.inj h13_
        exact ⟨_, rfl, hl34, hl36, ⟨aR, aR, aR, aR, aR, aR, aR, trivial⟩, ⟨⟨rfl, .inr rfl⟩, ⟨rfl, .inr rfl⟩, ⟨rfl, .inr rfl⟩, ⟨rfl, .inr rfl⟩, ⟨rfl, .inr rfl⟩, ⟨rfl, .inr rfl⟩, ⟨rfl, .inr rfl⟩, ⟨rfl, .inr rfl⟩, ⟨rfl, .inr rfl⟩, trivial⟩⟩
      ·refine RunC.regionW ?_
       refine zM (r := i64 v18) rfl rfl rfl rfl rfl ?_
       refine zM (r := i64 a0) rfl rfl rfl rfl rfl ?_
       refine zL (r := b false) rfl rfl rfl (LOp.eqb (LOp.lss rfl rfl rfl) hc8) ?_
       refine zN ?_
       refine RunC.cond_false rfl rfl ?_
       refine RunC.exit ?_
       cases Option.some.inj h13_
       have hx := ho13 _ rfl
       exact ⟨L14, L16, hl15, hl17, ⟨aR, aR, aR, aR, aR, aR, trivial⟩, ⟨⟨rfl, .inr rfl⟩, ⟨rfl, .inr rfl⟩, ⟨rfl, .inr rfl⟩, ⟨rfl, .inr rfl⟩, ⟨rfl, .inr rfl⟩, ⟨rfl, .inr rfl⟩, ⟨rfl, .inr rfl⟩, ⟨rfl, .inr rfl⟩, ⟨rfl, .inr rfl⟩, trivial⟩, hx⟩
     ·rintro τ25 Γ25 ⟨L38, L40, hl39, hl41, hw25, hd25, rfl⟩
      refine RunC.wl hw25 hd25 ?_
      replace h12_ : s_TurnValues_k6 v13 L38 L40 = some y12_ := h12_
      unfold s_TurnValues_k6 at h12_
      obtain ⟨x42, hx23, h12_⟩ := olet_some h12_
      refine RunC.regionW ?_
      refine zM (r := i64 v13) rfl rfl rfl rfl rfl ?_
      refine zL (r := i64 x42) rfl rfl rfl (LOp.eqr (LOp.add rfl rfl rfl) (congrArg (ik .i64) hx23)) ?_
      refine zA (r := i64 x42) rfl rfl rfl rfl rfl ?_
      refine zN ?_
      cases Option.some.inj h12_
      exact ⟨_, rfl, hl39, hl41, ⟨aR, aR, aR, aR, aR, aR, trivial⟩, ⟨⟨rfl, .inr rfl⟩, ⟨rfl, .inr rfl⟩, ⟨rfl, .inr rfl⟩, ⟨rfl, .inr rfl⟩, ⟨rfl, .inr rfl⟩, ⟨rfl, .inr rfl⟩, ⟨rfl, .inr rfl⟩, ⟨rfl, .inr rfl⟩, ⟨rfl, .inr rfl⟩, trivial⟩⟩
    ·refine RunC.regionW ?_
     refine zM (r := i64 v13) rfl rfl rfl rfl rfl ?_
     refine zM (r := i64 a3) rfl rfl rfl rfl rfl ?_
     refine zL (r := b false) rfl rfl rfl (LOp.eqb (LOp.lss rfl rfl rfl) hc7) ?_
     refine zN ?_
     refine RunC.cond_false rfl rfl ?_
     refine RunC.exit ?_
     cases Option.some.inj h12_
     have hx := ho12 _ rfl
     exact ⟨L9, L11, hl10, hl12, ⟨aR, aR, aR, aR, trivial⟩, ⟨⟨rfl, .inr rfl⟩, ⟨rfl, .inr rfl⟩, ⟨rfl, .inr rfl⟩, ⟨rfl, .inr rfl⟩, ⟨rfl, .inr rfl⟩, ⟨rfl, .inr rfl⟩, ⟨rfl, .inr rfl⟩, ⟨rfl, .inr rfl⟩, ⟨rfl, .inr rfl⟩, trivial⟩, hx⟩
   ·rintro τ26 Γ26 ⟨L43, L45, hl44, hl46, hw26, hd26, rfl⟩
    refine RunC.wl hw26 hd26 ?_
    replace h : s_TurnValues_k7 a0 r3 r4 r6 r7 L43 L45 = some (q0, q1, q2, q3, q4) := h
    unfold s_TurnValues_k7 at h
    refine zQ ?_
    refine ROps.d (r := oref 5 1 0 0) (fs := [(5, (([] : List F).map f32))]) (Γ' := [⟨1, some [i64 0, i64 0, nilsl]⟩, ⟨1, some (L43.map f32)⟩, ⟨1, some [i64 r3, i64 r4, oref 1 1 0 r5.length]⟩, ⟨1, some (L45.map f32)⟩, ⟨1, some [i64 r6, i64 r7, oref 3 1 0 r8.length]⟩, ⟨1, some (([] : List F).map f32)⟩, ⟨0, none⟩, ⟨0, none⟩, ⟨0, none⟩]) rfl rfl rfl (TOp.buildSlice_o (g := ⟨0, none⟩) (za := f32 (some 0)) (qs := []) 5 rfl und23 siz26 zer26 rfl zel26 rfl rfl trivial rfl) rfl ?_
    refine zA (r := oref 5 1 0 0) rfl rfl rfl rfl rfl ?_
    refine zN ?_
    refine RunC.seq ?_
    refine zQ ?_
    refine zA (r := i64 0) rfl rfl rfl rfl rfl ?_
    refine zN ?_
    obtain ⟨z27, hz_27, h⟩ := obind_some h
    refine RunC.cutN (fun τ Γ => ∃ (L56 : List F) (u53 : Nat) (u54 : Nat), L45.length = r8.length ∧ WeakLe τ [(5, optr 0 1 0), (7, i64 a0), (9, optr 4 1 0), (16, oref 5 u53 0 L56.length)] ∧ DeadLe Γ [⟨1, some [i64 0, i64 0, nilsl]⟩, ⟨1, none⟩, ⟨1, none⟩, ⟨1, some (L45.map f32)⟩, ⟨1, some [i64 r6, i64 r7, oref 3 1 0 r8.length]⟩, ⟨u53, some (L56.map f32)⟩, ⟨u54, none⟩, ⟨0, none⟩, ⟨0, none⟩] ∧ z27 = .inl L56) ?_ ?_
    ·refine RunC.block (RunC.loop (RunL.loopM (x := z27) (s_TurnValues_s8 a0 r3 r4 L43) (fun (s : (List F) × Int) τ Γ => ∃ (u47 : Nat) (u48 : Nat), WeakLe τ [(5, optr 0 1 0), (7, i64 a0), (8, optr 2 1 0), (9, optr 4 1 0), (16, oref 5 u47 0 s.1.length), (17, i64 s.2)] ∧ DeadLe Γ [⟨1, some [i64 0, i64 0, nilsl]⟩, ⟨1, some (L43.map f32)⟩, ⟨1, some [i64 r3, i64 r4, oref 1 1 0 r5.length]⟩, ⟨1, some (L45.map f32)⟩, ⟨1, some [i64 r6, i64 r7, oref 3 1 0 r8.length]⟩, ⟨u47, some (s.1.map f32)⟩, ⟨u48, none⟩, ⟨0, none⟩, ⟨0, none⟩]) ?_ _ _ _ hz_27 ⟨1, 0, ⟨aR, aR, aR, aR, aR, aR, trivial⟩, ⟨⟨rfl, .inr rfl⟩, ⟨rfl, .inr rfl⟩, ⟨rfl, .inr rfl⟩, ⟨rfl, .inr rfl⟩, ⟨rfl, .inr rfl⟩, ⟨rfl, .inr rfl⟩, ⟨rfl, .inl rfl⟩, ⟨rfl, .inr rfl⟩, ⟨rfl, .inr rfl⟩, trivial⟩⟩))
     rintro ⟨L49, v50⟩ τ27 Γ27 y27_ ⟨u47, u48, hw27, hd27⟩ h27_ ho27 hr27
     refine RunC.wl (τ' := [(5, optr 0 1 0), (7, i64 a0), (8, optr 2 1 0), (9, optr 4 1 0), (16, oref 5 u47 0 L49.length), (17, i64 v50)]) (Γ' := [⟨1, some [i64 0, i64 0, nilsl]⟩, ⟨1, some (L43.map f32)⟩, ⟨1, some [i64 r3, i64 r4, oref 1 1 0 r5.length]⟩, ⟨1, some (L45.map f32)⟩, ⟨1, some [i64 r6, i64 r7, oref 3 1 0 r8.length]⟩, ⟨u47, some (L49.map f32)⟩, ⟨u48, none⟩, ⟨0, none⟩, ⟨0, none⟩]) hw27 hd27 ?_
     replace h27_ : s_TurnValues_b8 a0 r3 r4 L43 L49 v50 = some y27_ := h27_
     unfold s_TurnValues_b8 at h27_
     refine RunC.seq ?_
     refine RunC.seq ?_
     rcases bsel_some h27_ with ⟨hc24, h27_⟩ | ⟨hc24, h27_⟩
     ·refine RunC.regionW ?_
      refine zM (r := i64 v50) rfl rfl rfl rfl rfl ?_
      refine zM (r := i64 a0) rfl rfl rfl rfl rfl ?_
      refine zL (r := b true) rfl rfl rfl (LOp.eqb (LOp.lss rfl rfl rfl) hc24) ?_
      refine zN ?_
      refine RunC.cond_true rfl rfl ?_
      refine RunC.skip ?_
      refine RunC.seq ?_
      refine RunC.block ?_
      obtain ⟨r51, hf25, h27_⟩ := obind_some h27_
      obtain ⟨hm26, h27_⟩ := need_some h27_
      refine RunC.regionW ?_
      refine zM (r := oref 5 u47 0 L49.length) rfl rfl rfl rfl rfl ?_
      refine zM (r := i64 v50) rfl rfl rfl rfl rfl ?_
      refine zM (r := i64 v50) rfl rfl rfl rfl rfl ?_
      refine ROps.d (r := f32 r51) (fs := []) (Γ' := [⟨1, some [i64 0, i64 0, nilsl]⟩, ⟨1, some (L43.map f32)⟩, ⟨1, some [i64 r3, i64 r4, oref 1 1 0 r5.length]⟩, ⟨1, some (L45.map f32)⟩, ⟨1, some [i64 r6, i64 r7, oref 3 1 0 r8.length]⟩, ⟨u47, some (L49.map f32)⟩, ⟨u48, none⟩, ⟨0, none⟩, ⟨0, none⟩]) rfl rfl rfl (TOp.callB (CallAs.func ent65 rfl rfl) (Bors.cons (Bor.optr rfl (Bors.p (Bors.cons (Bor.pure rfl) (Bors.cons (Bor.pure rfl) (Bors.cons (Bor.own (f := f32) (fun _ => rfl) rfl hl44) Bors.nil)))) rfl) (Bors.cons (Bor.pure rfl) (Bors.cons (Bor.pure rfl) Bors.nil))) rfl rfl (s_l02At_ok r3 r4 L43 v50 v50 r51 hf25)) rfl ?_
      refine ROps.d (r := oref 6 (u48 + 1) 0 1) (fs := [(6, (([r51] : List F).map f32))]) (Γ' := [⟨1, some [i64 0, i64 0, nilsl]⟩, ⟨1, some (L43.map f32)⟩, ⟨1, some [i64 r3, i64 r4, oref 1 1 0 r5.length]⟩, ⟨1, some (L45.map f32)⟩, ⟨1, some [i64 r6, i64 r7, oref 3 1 0 r8.length]⟩, ⟨u47, some (L49.map f32)⟩, ⟨(u48 + 1), some (([r51] : List F).map f32)⟩, ⟨0, none⟩, ⟨0, none⟩]) rfl rfl rfl (TOp.buildSlice_o (g := ⟨u48, none⟩) (za := f32 (some 0)) (qs := [(0, [f32 r51])]) 6 rfl und23 siz26 zer26 rfl zel26 rfl rfl ⟨rfl, ⟨_, ALe.refl _, rfl⟩, trivial⟩ rfl) rfl ?_
      refine ROps.app (f := f32) (xs := L49) (ys := ([r51] : List F)) (Γ' := [⟨1, some [i64 0, i64 0, nilsl]⟩, ⟨1, some (L43.map f32)⟩, ⟨1, some [i64 r3, i64 r4, oref 1 1 0 r5.length]⟩, ⟨1, some (L45.map f32)⟩, ⟨1, some [i64 r6, i64 r7, oref 3 1 0 r8.length]⟩, ⟨(u47 + 1), some ((L49 ++ ([r51] : List F)).map f32)⟩, ⟨(u48 + 1), some (([r51] : List F).map f32)⟩, ⟨0, none⟩, ⟨0, none⟩]) rfl pun23 inf26 rfl rfl rfl rfl rfl rfl rfl rfl rfl (by simp) (ReadAs.own rfl (by simp)) (ones_map (fun _ => rfl)) (ap_by hm26) (ap_mx hm26) rfl ?_
      refine zA (r := oref 5 (u47 + 1) 0 (L49.length + 1)) rfl rfl rfl rfl rfl ?_
      refine zN ?_
      refine RunC.wl (τ' := [(5, optr 0 1 0), (7, i64 a0), (8, optr 2 1 0), (9, optr 4 1 0), (16, oref 5 (u47 + 1) 0 (L49.length + 1)), (17, i64 v50)]) (Γ' := [⟨1, some [i64 0, i64 0, nilsl]⟩, ⟨1, some (L43.map f32)⟩, ⟨1, some [i64 r3, i64 r4, oref 1 1 0 r5.length]⟩, ⟨1, some (L45.map f32)⟩, ⟨1, some [i64 r6, i64 r7, oref 3 1 0 r8.length]⟩, ⟨(u47 + 1), some ((L49 ++ ([r51] : List F)).map f32)⟩, ⟨(u48 + 1), none⟩, ⟨0, none⟩, ⟨0, none⟩]) ⟨aR, aR, aR, aR, aR, aR, trivial⟩ ⟨⟨rfl, .inr rfl⟩, ⟨rfl, .inr rfl⟩, ⟨rfl, .inr rfl⟩, ⟨rfl, .inr rfl⟩, ⟨rfl, .inr rfl⟩, ⟨rfl, .inr rfl⟩, ⟨rfl, .inl rfl⟩, ⟨rfl, .inr rfl⟩, ⟨rfl, .inr rfl⟩, trivial⟩ ?_
      obtain ⟨x52, hx27, h27_⟩ := olet_some h27_
      refine RunC.regionW ?_
      refine zM (r := i64 v50) rfl rfl rfl rfl rfl ?_
      refine zL (r := i64 x52) rfl rfl rfl (LOp.eqr (LOp.add rfl rfl rfl) (congrArg (ik .i64) hx27)) ?_
      refine zA (r := i64 x52) rfl rfl rfl rfl rfl ?_
      refine zN ?_
      cases Option.some.inj h27_
      exact ⟨_, rfl, (u47 + 1), (u48 + 1), ⟨aR, aR, aR, aR, (ALe.eq (by rw [(app_len rfl rfl)] <;> rfl)), aR, trivial⟩, ⟨⟨rfl, .inr rfl⟩, ⟨rfl, .inr rfl⟩, ⟨rfl, .inr rfl⟩, ⟨rfl, .inr rfl⟩, ⟨rfl, .inr rfl⟩, ⟨rfl, .inr rfl⟩, ⟨rfl, .inl rfl⟩, ⟨rfl, .inr rfl⟩, ⟨rfl, .inr rfl⟩, trivial⟩⟩
     ·refine RunC.regionW ?_
      refine zM (r := i64 v50) rfl rfl rfl rfl rfl ?_
      refine zM (r := i64 a0) rfl rfl rfl rfl rfl ?_
      refine zL (r := b false) rfl rfl rfl (LOp.eqb (LOp.lss rfl rfl rfl) hc24) ?_
      refine zN ?_
      refine RunC.cond_false rfl rfl ?_
      refine RunC.exit ?_
      cases Option.some.inj h27_
      have hx := ho27 _ rfl
      exact ⟨L49, u47, u48, hl46, ⟨aR, aR, aR, aR, trivial⟩, ⟨⟨rfl, .inr rfl⟩, ⟨rfl, .inl rfl⟩, ⟨rfl, .inl rfl⟩, ⟨rfl, .inr rfl⟩, ⟨rfl, .inr rfl⟩, ⟨rfl, .inr rfl⟩, ⟨rfl, .inl rfl⟩, ⟨rfl, .inr rfl⟩, ⟨rfl, .inr rfl⟩, trivial⟩, hx⟩
    ·rintro τ28 Γ28 ⟨L56, u53, u54, hl55, hw28, hd28, rfl⟩
     refine RunC.wl hw28 hd28 ?_
     replace h : s_TurnValues_k8 a0 r6 r7 L45 L56 = some (q0, q1, q2, q3, q4) := h
     unfold s_TurnValues_k8 at h
     refine RunC.seq ?_
     obtain ⟨r57, hf28, h⟩ := obind_some h
     refine RunC.regionW ?_
     refine zM (r := oref 5 u53 0 L56.length) rfl rfl rfl rfl rfl ?_
     refine ROps.d (r := oref 1 2 0 r57.length) (fs := [(1, (r57.map i64))]) (Γ' := [⟨1, some [i64 0, i64 0, nilsl]⟩, ⟨2, some (r57.map i64)⟩, ⟨1, none⟩, ⟨1, some (L45.map f32)⟩, ⟨1, some [i64 r6, i64 r7, oref 3 1 0 r8.length]⟩, ⟨u53, some (L56.map f32)⟩, ⟨u54, none⟩, ⟨0, none⟩, ⟨0, none⟩]) rfl rfl rfl (TOp.callBN (ls := [(r57.map i64)]) [1] (CallAs.func ent47 rfl rfl) (Bors.cons (Bor.own (f := f32) (fun _ => rfl) rfl rfl) Bors.nil) rfl (s_l04Order_ok L56 r57 hf28) (and_all (lts0_map (f := i64) (fun _ => rfl) _) rfl) (and_all (noss_map (f := i64) (fun _ => rfl) _) rfl) rfl (by decide) (ns_of ⟨⟨_, rfl⟩, trivial⟩)) rfl ?_
     refine zA (r := oref 1 2 0 r57.length) rfl rfl rfl rfl rfl ?_
     refine zN ?_
     refine zQ ?_
     refine ROps.d (r := oref 2 2 0 0) (fs := [(2, (([] : List F).map f32))]) (Γ' := [⟨1, some [i64 0, i64 0, nilsl]⟩, ⟨2, some (r57.map i64)⟩, ⟨2, some (([] : List F).map f32)⟩, ⟨1, some (L45.map f32)⟩, ⟨1, some [i64 r6, i64 r7, oref 3 1 0 r8.length]⟩, ⟨u53, some (L56.map f32)⟩, ⟨u54, none⟩, ⟨0, none⟩, ⟨0, none⟩]) rfl rfl rfl (TOp.buildSlice_o (g := ⟨1, none⟩) (za := f32 (some 0)) (qs := []) 2 rfl und23 siz26 zer26 rfl zel26 rfl rfl trivial rfl) rfl ?_
     refine zA (r := oref 2 2 0 0) rfl rfl rfl rfl rfl ?_
     refine zN ?_
     refine RunC.seq ?_
     obtain ⟨r58, r59, r60, hf29, h⟩ := obind3_some h
     refine RunC.regionW ?_
     refine zM (r := i64 a0) rfl rfl rfl rfl rfl ?_
     refine zM (r := i64 a0) rfl rfl rfl rfl rfl ?_
     refine ROps.d (r := agg [i64 r58, i64 r59, oref 6 (u54 + 1) 0 r60.length]) (fs := [(6, (r60.map f32))]) (Γ' := [⟨1, some [i64 0, i64 0, nilsl]⟩, ⟨2, some (r57.map i64)⟩, ⟨2, some (([] : List F).map f32)⟩, ⟨1, some (L45.map f32)⟩, ⟨1, some [i64 r6, i64 r7, oref 3 1 0 r8.length]⟩, ⟨u53, some (L56.map f32)⟩, ⟨(u54 + 1), some (r60.map f32)⟩, ⟨0, none⟩, ⟨0, none⟩]) rfl rfl rfl (TOp.eqr (TOp.callBN (ls := [(r60.map f32)]) [6] (CallAs.func ent66 rfl rfl) (Bors.cons (Bor.pure rfl) (Bors.cons (Bor.pure rfl) Bors.nil)) rfl (s_l02Zero_ok a0 a0 r58 r59 r60 hf29) (and_all (lts0_map (f := f32) (fun _ => rfl) _) rfl) (and_all (noss_map (f := f32) (fun _ => rfl) _) rfl) rfl (by decide) (ns_of ⟨⟨_, rfl⟩, trivial⟩)) (by simp [ren, rens, sigma, newNames])) rfl ?_
     refine ROps.d (r := optr 7 1 0) (fs := [(7, [i64 0, i64 0, nilsl])]) (Γ' := [⟨1, some [i64 0, i64 0, nilsl]⟩, ⟨2, some (r57.map i64)⟩, ⟨2, some (([] : List F).map f32)⟩, ⟨1, some (L45.map f32)⟩, ⟨1, some [i64 r6, i64 r7, oref 3 1 0 r8.length]⟩, ⟨u53, some (L56.map f32)⟩, ⟨(u54 + 1), some (r60.map f32)⟩, ⟨1, some [i64 0, i64 0, nilsl]⟩, ⟨0, none⟩]) rfl rfl rfl (TOp.alloc_o (g := ⟨0, none⟩) 7 rfl zer45 zok45 rfl) rfl ?_
     refine ROps.store_le (r := agg [i64 r58, i64 r59, oref 6 (u54 + 1) 0 r60.length]) (l' := [i64 r58, i64 r59, oref 6 (u54 + 1) 0 r60.length]) (Γ' := [⟨1, some [i64 0, i64 0, nilsl]⟩, ⟨2, some (r57.map i64)⟩, ⟨2, some (([] : List F).map f32)⟩, ⟨1, some (L45.map f32)⟩, ⟨1, some [i64 r6, i64 r7, oref 3 1 0 r8.length]⟩, ⟨u53, some (L56.map f32)⟩, ⟨(u54 + 1), some (r60.map f32)⟩, ⟨1, some [i64 r58, i64 r59, oref 6 (u54 + 1) 0 r60.length]⟩, ⟨0, none⟩]) rfl siz45 rfl rfl rfl aR rfl rfl rfl rfl (Nat.le_of_ble_eq_true rfl) rfl rfl ?_
     refine zN ?_
     refine RunC.seq ?_
     refine zQ ?_
     refine zA (r := i64 0) rfl rfl rfl rfl rfl ?_
     refine zN ?_
     obtain ⟨z29, hz_29, h⟩ := obind_some h
     refine RunC.cutN (fun τ Γ => ∃ (L85 : List F) (L86 : List F) (u83 : Nat) (u84 : Nat), L86.length = r60.length ∧ WeakLe τ [(5, optr 0 1 0), (19, oref 2 u83 0 L85.length), (20, optr 7 1 0)] ∧ DeadLe Γ [⟨1, some [i64 0, i64 0, nilsl]⟩, ⟨2, none⟩, ⟨u83, some (L85.map f32)⟩, ⟨1, none⟩, ⟨1, none⟩, ⟨u53, none⟩, ⟨(u54 + 1), some (L86.map f32)⟩, ⟨1, some [i64 r58, i64 r59, oref 6 (u54 + 1) 0 r60.length]⟩, ⟨u84, none⟩] ∧ z29 = .inl (L85, L86)) ?_ ?_
     ·refine RunC.block (RunC.loop (RunL.loopM (x := z29) (s_TurnValues_s11 a0 r6 r7 L45 L56 r57) (fun (s : (List F) × (List F) × Int) τ Γ => ∃ (u61 : Nat) (u62 : Nat), s.2.1.length = r60.length ∧ WeakLe τ [(5, optr 0 1 0), (7, i64 a0), (9, optr 4 1 0), (16, oref 5 u53 0 L56.length), (18, oref 1 2 0 r57.length), (19, oref 2 u61 0 s.1.length), (20, optr 7 1 0), (21, i64 s.2.2)] ∧ DeadLe Γ [⟨1, some [i64 0, i64 0, nilsl]⟩, ⟨2, some (r57.map i64)⟩, ⟨u61, some (s.1.map f32)⟩, ⟨1, some (L45.map f32)⟩, ⟨1, some [i64 r6, i64 r7, oref 3 1 0 r8.length]⟩, ⟨u53, some (L56.map f32)⟩, ⟨(u54 + 1), some (s.2.1.map f32)⟩, ⟨1, some [i64 r58, i64 r59, oref 6 (u54 + 1) 0 r60.length]⟩, ⟨u62, none⟩]) ?_ _ _ _ hz_29 ⟨2, 0, rfl, ⟨aR, aR, aR, aR, aR, aR, aR, aR, trivial⟩, ⟨⟨rfl, .inr rfl⟩, ⟨rfl, .inr rfl⟩, ⟨rfl, .inr rfl⟩, ⟨rfl, .inr rfl⟩, ⟨rfl, .inr rfl⟩, ⟨rfl, .inr rfl⟩, ⟨rfl, .inr rfl⟩, ⟨rfl, .inr rfl⟩, ⟨rfl, .inl rfl⟩, trivial⟩⟩))
      rintro ⟨L63, L64, v66⟩ τ29 Γ29 y29_ ⟨u61, u62, hl65, hw29, hd29⟩ h29_ ho29 hr29
      refine RunC.wl (τ' := [(5, optr 0 1 0), (7, i64 a0), (9, optr 4 1 0), (16, oref 5 u53 0 L56.length), (18, oref 1 2 0 r57.length), (19, oref 2 u61 0 L63.length), (20, optr 7 1 0), (21, i64 v66)]) (Γ' := [⟨1, some [i64 0, i64 0, nilsl]⟩, ⟨2, some (r57.map i64)⟩, ⟨u61, some (L63.map f32)⟩, ⟨1, some (L45.map f32)⟩, ⟨1, some [i64 r6, i64 r7, oref 3 1 0 r8.length]⟩, ⟨u53, some (L56.map f32)⟩, ⟨(u54 + 1), some (L64.map f32)⟩, ⟨1, some [i64 r58, i64 r59, oref 6 (u54 + 1) 0 r60.length]⟩, ⟨u62, none⟩]) hw29 hd29 ?_
      replace hl65 : L64.length = r60.length := hl65
      replace h29_ : s_TurnValues_b11 a0 r6 r7 L45 L56 r57 L63 L64 v66 = some y29_ := h29_
      unfold s_TurnValues_b11 at h29_
      refine RunC.seq ?_
      refine RunC.seq ?_
      rcases bsel_some h29_ with ⟨hc30, h29_⟩ | ⟨hc30, h29_⟩
      ·refine RunC.regionW ?_
       refine zM (r := i64 v66) rfl rfl rfl rfl rfl ?_
       refine zM (r := i64 a0) rfl rfl rfl rfl rfl ?_
       refine zL (r := b true) rfl rfl rfl (LOp.eqb (LOp.lss rfl rfl rfl) hc30) ?_
       refine zN ?_
       refine RunC.cond_true rfl rfl ?_
       refine RunC.skip ?_
       refine RunC.seq ?_
       refine RunC.block ?_
       refine RunC.seq ?_
       obtain ⟨e67, he31, h29_⟩ := obind_some h29_
       obtain ⟨e68, he32, h29_⟩ := obind_some h29_
       obtain ⟨hm33, h29_⟩ := need_some h29_
       refine RunC.regionW ?_
       refine zM (r := oref 2 u61 0 L63.length) rfl rfl rfl rfl rfl ?_
       refine zM (r := oref 5 u53 0 L56.length) rfl rfl rfl rfl rfl ?_
       refine zM (r := oref 1 2 0 r57.length) rfl rfl rfl rfl rfl ?_
       refine zM (r := i64 v66) rfl rfl rfl rfl rfl ?_
       refine ROps.d (r := optr 1 2 v66.toNat) (fs := []) (Γ' := [⟨1, some [i64 0, i64 0, nilsl]⟩, ⟨2, some (r57.map i64)⟩, ⟨u61, some (L63.map f32)⟩, ⟨1, some (L45.map f32)⟩, ⟨1, some [i64 r6, i64 r7, oref 3 1 0 r8.length]⟩, ⟨u53, some (L56.map f32)⟩, ⟨(u54 + 1), some (L64.map f32)⟩, ⟨1, some [i64 r58, i64 r59, oref 6 (u54 + 1) 0 r60.length]⟩, ⟨u62, none⟩]) rfl rfl rfl (TOp.ixo und22 siz2 rfl rfl rfl (at_in he31 rfl) rfl) rfl ?_
       refine ROps.d (r := i64 e67) (fs := []) (Γ' := [⟨1, some [i64 0, i64 0, nilsl]⟩, ⟨2, some (r57.map i64)⟩, ⟨u61, some (L63.map f32)⟩, ⟨1, some (L45.map f32)⟩, ⟨1, some [i64 r6, i64 r7, oref 3 1 0 r8.length]⟩, ⟨u53, some (L56.map f32)⟩, ⟨(u54 + 1), some (L64.map f32)⟩, ⟨1, some [i64 r58, i64 r59, oref 6 (u54 + 1) 0 r60.length]⟩, ⟨u62, none⟩]) rfl rfl rfl (TOp.load1_o rfl (at_cell he31) agg2 rfl rfl) rfl ?_
       refine ROps.d (r := optr 5 u53 e67.toNat) (fs := []) (Γ' := [⟨1, some [i64 0, i64 0, nilsl]⟩, ⟨2, some (r57.map i64)⟩, ⟨u61, some (L63.map f32)⟩, ⟨1, some (L45.map f32)⟩, ⟨1, some [i64 r6, i64 r7, oref 3 1 0 r8.length]⟩, ⟨u53, some (L56.map f32)⟩, ⟨(u54 + 1), some (L64.map f32)⟩, ⟨1, some [i64 r58, i64 r59, oref 6 (u54 + 1) 0 r60.length]⟩, ⟨u62, none⟩]) rfl rfl rfl (TOp.ixo und23 siz26 rfl rfl rfl (at_in he32 rfl) rfl) rfl ?_
       refine ROps.d (r := f32 e68) (fs := []) (Γ' := [⟨1, some [i64 0, i64 0, nilsl]⟩, ⟨2, some (r57.map i64)⟩, ⟨u61, some (L63.map f32)⟩, ⟨1, some (L45.map f32)⟩, ⟨1, some [i64 r6, i64 r7, oref 3 1 0 r8.length]⟩, ⟨u53, some (L56.map f32)⟩, ⟨(u54 + 1), some (L64.map f32)⟩, ⟨1, some [i64 r58, i64 r59, oref 6 (u54 + 1) 0 r60.length]⟩, ⟨u62, none⟩]) rfl rfl rfl (TOp.load1_o rfl (at_cell he32) agg26 rfl rfl) rfl ?_
       refine ROps.d (r := oref 8 (u62 + 1) 0 1) (fs := [(8, (([e68] : List F).map f32))]) (Γ' := [⟨1, some [i64 0, i64 0, nilsl]⟩, ⟨2, some (r57.map i64)⟩, ⟨u61, some (L63.map f32)⟩, ⟨1, some (L45.map f32)⟩, ⟨1, some [i64 r6, i64 r7, oref 3 1 0 r8.length]⟩, ⟨u53, some (L56.map f32)⟩, ⟨(u54 + 1), some (L64.map f32)⟩, ⟨1, some [i64 r58, i64 r59, oref 6 (u54 + 1) 0 r60.length]⟩, ⟨(u62 + 1), some (([e68] : List F).map f32)⟩]) rfl rfl rfl (TOp.buildSlice_o (g := ⟨u62, none⟩) (za := f32 (some 0)) (qs := [(0, [f32 e68])]) 8 rfl und23 siz26 zer26 rfl zel26 rfl rfl ⟨rfl, ⟨_, ALe.refl _, rfl⟩, trivial⟩ rfl) rfl ?_
       refine ROps.app (f := f32) (xs := L63) (ys := ([e68] : List F)) (Γ' := [⟨1, some [i64 0, i64 0, nilsl]⟩, ⟨2, some (r57.map i64)⟩, ⟨(u61 + 1), some ((L63 ++ ([e68] : List F)).map f32)⟩, ⟨1, some (L45.map f32)⟩, ⟨1, some [i64 r6, i64 r7, oref 3 1 0 r8.length]⟩, ⟨u53, some (L56.map f32)⟩, ⟨(u54 + 1), some (L64.map f32)⟩, ⟨1, some [i64 r58, i64 r59, oref 6 (u54 + 1) 0 r60.length]⟩, ⟨(u62 + 1), some (([e68] : List F).map f32)⟩]) rfl pun23 inf26 rfl rfl rfl rfl rfl rfl rfl rfl rfl (by simp) (ReadAs.own rfl (by simp)) (ones_map (fun _ => rfl)) (ap_by hm33) (ap_mx hm33) rfl ?_
       refine zA (r := oref 2 (u61 + 1) 0 (L63.length + 1)) rfl rfl rfl rfl rfl ?_
       refine zN ?_
       refine RunC.wl (τ' := [(5, optr 0 1 0), (7, i64 a0), (9, optr 4 1 0), (16, oref 5 u53 0 L56.length), (18, oref 1 2 0 r57.length), (19, oref 2 (u61 + 1) 0 (L63.length + 1)), (20, optr 7 1 0), (21, i64 v66)]) (Γ' := [⟨1, some [i64 0, i64 0, nilsl]⟩, ⟨2, some (r57.map i64)⟩, ⟨(u61 + 1), some ((L63 ++ ([e68] : List F)).map f32)⟩, ⟨1, some (L45.map f32)⟩, ⟨1, some [i64 r6, i64 r7, oref 3 1 0 r8.length]⟩, ⟨u53, some (L56.map f32)⟩, ⟨(u54 + 1), some (L64.map f32)⟩, ⟨1, some [i64 r58, i64 r59, oref 6 (u54 + 1) 0 r60.length]⟩, ⟨(u62 + 1), none⟩]) ⟨aR, aR, aR, aR, aR, aR, aR, aR, trivial⟩ ⟨⟨rfl, .inr rfl⟩, ⟨rfl, .inr rfl⟩, ⟨rfl, .inr rfl⟩, ⟨rfl, .inr rfl⟩, ⟨rfl, .inr rfl⟩, ⟨rfl, .inr rfl⟩, ⟨rfl, .inr rfl⟩, ⟨rfl, .inr rfl⟩, ⟨rfl, .inl rfl⟩, trivial⟩ ?_
       refine zQ ?_
       refine zA (r := i64 0) rfl rfl rfl rfl rfl ?_
       refine zN ?_
       obtain ⟨z30, hz_30, h29_⟩ := obind_some h29_
       refine RunC.cutN (fun τ Γ => ∃ (L80 : List F), (L63 ++ ([e68] : List F)).length = (L63.length + 1) ∧ L45.length = r8.length ∧ L80.length = r60.length ∧ WeakLe τ [(5, optr 0 1 0), (7, i64 a0), (9, optr 4 1 0), (16, oref 5 u53 0 L56.length), (18, oref 1 2 0 r57.length), (19, oref 2 (u61 + 1) 0 (L63.length + 1)), (20, optr 7 1 0), (21, i64 v66)] ∧ DeadLe Γ [⟨1, some [i64 0, i64 0, nilsl]⟩, ⟨2, some (r57.map i64)⟩, ⟨(u61 + 1), some ((L63 ++ ([e68] : List F)).map f32)⟩, ⟨1, some (L45.map f32)⟩, ⟨1, some [i64 r6, i64 r7, oref 3 1 0 r8.length]⟩, ⟨u53, some (L56.map f32)⟩, ⟨(u54 + 1), some (L80.map f32)⟩, ⟨1, some [i64 r58, i64 r59, oref 6 (u54 + 1) 0 r60.length]⟩, ⟨(u62 + 1), none⟩] ∧ z30 = .inl L80) ?_ ?_
       ·refine RunC.block (RunC.loop (RunL.loopM (x := z30) (s_TurnValues_s10 a0 r6 r7 L45 r57 v66) (fun (s : (List F) × Int) τ Γ => s.1.length = r60.length ∧ WeakLe τ [(5, optr 0 1 0), (7, i64 a0), (9, optr 4 1 0), (16, oref 5 u53 0 L56.length), (18, oref 1 2 0 r57.length), (19, oref 2 (u61 + 1) 0 (L63.length + 1)), (20, optr 7 1 0), (21, i64 v66), (22, i64 s.2)] ∧ DeadLe Γ [⟨1, some [i64 0, i64 0, nilsl]⟩, ⟨2, some (r57.map i64)⟩, ⟨(u61 + 1), some ((L63 ++ ([e68] : List F)).map f32)⟩, ⟨1, some (L45.map f32)⟩, ⟨1, some [i64 r6, i64 r7, oref 3 1 0 r8.length]⟩, ⟨u53, some (L56.map f32)⟩, ⟨(u54 + 1), some (s.1.map f32)⟩, ⟨1, some [i64 r58, i64 r59, oref 6 (u54 + 1) 0 r60.length]⟩, ⟨(u62 + 1), none⟩]) ?_ _ _ _ hz_30 ⟨hl65, ⟨aR, aR, aR, aR, aR, aR, aR, aR, aR, trivial⟩, ⟨⟨rfl, .inr rfl⟩, ⟨rfl, .inr rfl⟩, ⟨rfl, .inr rfl⟩, ⟨rfl, .inr rfl⟩, ⟨rfl, .inr rfl⟩, ⟨rfl, .inr rfl⟩, ⟨rfl, .inr rfl⟩, ⟨rfl, .inr rfl⟩, ⟨rfl, .inl rfl⟩, trivial⟩⟩))
        rintro ⟨L69, v71⟩ τ30 Γ30 y30_ ⟨hl70, hw30, hd30⟩ h30_ ho30 hr30
        refine RunC.wl (τ' := [(5, optr 0 1 0), (7, i64 a0), (9, optr 4 1 0), (16, oref 5 u53 0 L56.length), (18, oref 1 2 0 r57.length), (19, oref 2 (u61 + 1) 0 (L63.length + 1)), (20, optr 7 1 0), (21, i64 v66), (22, i64 v71)]) (Γ' := [⟨1, some [i64 0, i64 0, nilsl]⟩, ⟨2, some (r57.map i64)⟩, ⟨(u61 + 1), some ((L63 ++ ([e68] : List F)).map f32)⟩, ⟨1, some (L45.map f32)⟩, ⟨1, some [i64 r6, i64 r7, oref 3 1 0 r8.length]⟩, ⟨u53, some (L56.map f32)⟩, ⟨(u54 + 1), some (L69.map f32)⟩, ⟨1, some [i64 r58, i64 r59, oref 6 (u54 + 1) 0 r60.length]⟩, ⟨(u62 + 1), none⟩]) hw30 hd30 ?_
        replace hl70 : L69.length = r60.length := hl70
        replace h30_ : s_TurnValues_b10 a0 r6 r7 L45 r57 v66 L69 v71 = some y30_ := h30_
        unfold s_TurnValues_b10 at h30_
        refine RunC.seq ?_
        refine RunC.seq ?_
        rcases bsel_some h30_ with ⟨hc34, h30_⟩ | ⟨hc34, h30_⟩
        ·refine RunC.regionW ?_
         refine zM (r := i64 v71) rfl rfl rfl rfl rfl ?_
         refine zM (r := i64 a0) rfl rfl rfl rfl rfl ?_
         refine zL (r := b true) rfl rfl rfl (LOp.eqb (LOp.lss rfl rfl rfl) hc34) ?_
         refine zN ?_
         refine RunC.cond_true rfl rfl ?_
         refine RunC.skip ?_
         refine RunC.seq ?_
         refine RunC.block ?_
         obtain ⟨x72, hx35, h30_⟩ := olet_some h30_
         obtain ⟨x73, hx36, h30_⟩ := olet_some h30_
         obtain ⟨e74, he37, h30_⟩ := obind_some h30_
         obtain ⟨r75, hf38, h30_⟩ := obind_some h30_
         obtain ⟨L76, he39, h30_⟩ := obind_some h30_
         refine RunC.region_draw (Γ' := [⟨1, some [i64 0, i64 0, nilsl]⟩, ⟨2, some (r57.map i64)⟩, ⟨(u61 + 1), some ((L63 ++ ([e68] : List F)).map f32)⟩, ⟨1, some (L45.map f32)⟩, ⟨1, some [i64 r6, i64 r7, oref 3 1 0 r8.length]⟩, ⟨u53, some (L56.map f32)⟩, ⟨(u54 + 1), some (L69.map f32)⟩, ⟨1, some [i64 r58, i64 r59, oref 6 (u54 + 1) 0 r60.length]⟩, ⟨(u62 + 1), none⟩]) 14 mixed 
          (TR.l (r := optr 7 1 2) rfl rfl (LOp.fao und45 rfl siz23 rfl rfl rfl) <|
          (TR.d (r := oref 6 (u54 + 1) 0 r60.length) (fs := []) rfl rfl (TOp.load1_o rfl rfl agg23 rfl rfl) <|
          (TR.l (r := i64 v71) rfl rfl (LOp.move rfl rfl) <|
          (TR.l (r := i64 a0) rfl rfl (LOp.move rfl rfl) <|
          (TR.l (r := i64 x72) rfl rfl (LOp.eqr (LOp.mul rfl rfl rfl) (congrArg (ik .i64) hx35)) <|
          (TR.l (r := i64 v66) rfl rfl (LOp.move rfl rfl) <|
          (TR.l (r := i64 x73) rfl rfl (LOp.eqr (LOp.add rfl rfl rfl) (congrArg (ik .i64) hx36)) <|
          (TR.l (r := i64 v71) rfl rfl (LOp.move rfl rfl) <|
          (TR.l (r := oref 1 2 0 r57.length) rfl rfl (LOp.move rfl rfl) <|
          (TR.l (r := i64 v66) rfl rfl (LOp.move rfl rfl) <|
          (TR.d (r := optr 1 2 v66.toNat) (fs := []) rfl rfl (TOp.ixo und22 siz2 rfl rfl rfl (at_in he37 rfl) rfl) <|
          (TR.d (r := i64 e74) (fs := []) rfl rfl (TOp.load1_o rfl (at_cell he37) agg2 rfl rfl) <|
          (TR.d (r := f32 r75) (fs := []) rfl rfl (TOp.callB (CallAs.func ent65 rfl rfl) (Bors.cons (Bor.optr rfl (Bors.p (Bors.cons (Bor.pure rfl) (Bors.cons (Bor.pure rfl) (Bors.cons (Bor.own (f := f32) (fun _ => rfl) rfl hl55) Bors.nil)))) rfl) (Bors.cons (Bor.pure rfl) (Bors.cons (Bor.pure rfl) Bors.nil))) rfl rfl (s_l02At_ok r6 r7 L45 v71 e74 r75 hf38)) <|
          (TR.d (r := optr 6 (u54 + 1) x73.toNat) (fs := []) rfl rfl (TOp.ixo und23 siz26 rfl rfl rfl (set_in he39 hl70) rfl) <|
          TR.nil)))))))))))))) rfl (by kernel_rfl) rfl fills_nil rfl ?_
         iterate 14 refine ROps.dropS ?_
         refine ROps.drop0 ?_
         refine ROps.st (f := f32) (i := x73) (Γ' := [⟨1, some [i64 0, i64 0, nilsl]⟩, ⟨2, some (r57.map i64)⟩, ⟨(u61 + 1), some ((L63 ++ ([e68] : List F)).map f32)⟩, ⟨1, some (L45.map f32)⟩, ⟨1, some [i64 r6, i64 r7, oref 3 1 0 r8.length]⟩, ⟨u53, some (L56.map f32)⟩, ⟨(u54 + 1), some (L76.map f32)⟩, ⟨1, some [i64 r58, i64 r59, oref 6 (u54 + 1) 0 r60.length]⟩, ⟨(u62 + 1), none⟩]) rfl siz26 rfl rfl rfl aR rfl rfl rfl he39 rfl ?_
         refine zN ?_
         refine RunC.wl (τ' := [(5, optr 0 1 0), (7, i64 a0), (9, optr 4 1 0), (16, oref 5 u53 0 L56.length), (18, oref 1 2 0 r57.length), (19, oref 2 (u61 + 1) 0 (L63.length + 1)), (20, optr 7 1 0), (21, i64 v66), (22, i64 v71)]) (Γ' := [⟨1, some [i64 0, i64 0, nilsl]⟩, ⟨2, some (r57.map i64)⟩, ⟨(u61 + 1), some ((L63 ++ ([e68] : List F)).map f32)⟩, ⟨1, some (L45.map f32)⟩, ⟨1, some [i64 r6, i64 r7, oref 3 1 0 r8.length]⟩, ⟨u53, some (L56.map f32)⟩, ⟨(u54 + 1), some (L76.map f32)⟩, ⟨1, some [i64 r58, i64 r59, oref 6 (u54 + 1) 0 r60.length]⟩, ⟨(u62 + 1), none⟩]) ⟨aR, aR, aR, aR, aR, aR, aR, aR, aR, trivial⟩ ⟨⟨rfl, .inr rfl⟩, ⟨rfl, .inr rfl⟩, ⟨rfl, .inr rfl⟩, ⟨rfl, .inr rfl⟩, ⟨rfl, .inr rfl⟩, ⟨rfl, .inr rfl⟩, ⟨rfl, .inr rfl⟩, ⟨rfl, .inr rfl⟩, ⟨rfl, .inl rfl⟩, trivial⟩ ?_
         obtain ⟨x77, hx40, h30_⟩ := olet_some h30_
         refine RunC.regionW ?_
         refine zM (r := i64 v71) rfl rfl rfl rfl rfl ?_
         refine zL (r := i64 x77) rfl rfl rfl (LOp.eqr (LOp.add rfl rfl rfl) (congrArg (ik .i64) hx40)) ?_
         refine zA (r := i64 x77) rfl rfl rfl rfl rfl ?_
         refine zN ?_
         cases Option.some.inj h30_
         exact ⟨_, rfl, ((setAt?_len he39).trans hl70), ⟨aR, aR, aR, aR, aR, aR, aR, aR, aR, trivial⟩, ⟨⟨rfl, .inr rfl⟩, ⟨rfl, .inr rfl⟩, ⟨rfl, .inr rfl⟩, ⟨rfl, .inr rfl⟩, ⟨rfl, .inr rfl⟩, ⟨rfl, .inr rfl⟩, ⟨rfl, .inr rfl⟩, ⟨rfl, .inr rfl⟩, ⟨rfl, .inl rfl⟩, trivial⟩⟩
        ·refine RunC.regionW ?_
         refine zM (r := i64 v71) rfl rfl rfl rfl rfl ?_
         refine zM (r := i64 a0) rfl rfl rfl rfl rfl ?_
         refine zL (r := b false) rfl rfl rfl (LOp.eqb (LOp.lss rfl rfl rfl) hc34) ?_
         refine zN ?_
         refine RunC.cond_false rfl rfl ?_
         refine RunC.exit ?_
         cases Option.some.inj h30_
         have hx := ho30 _ rfl
         exact ⟨L69, (app_len rfl rfl), hl55, hl70, ⟨aR, aR, aR, aR, aR, aR, aR, aR, trivial⟩, ⟨⟨rfl, .inr rfl⟩, ⟨rfl, .inr rfl⟩, ⟨rfl, .inr rfl⟩, ⟨rfl, .inr rfl⟩, ⟨rfl, .inr rfl⟩, ⟨rfl, .inr rfl⟩, ⟨rfl, .inr rfl⟩, ⟨rfl, .inr rfl⟩, ⟨rfl, .inl rfl⟩, trivial⟩, hx⟩
       ·rintro τ31 Γ31 ⟨L80, hl78, hl79, hl81, hw31, hd31, rfl⟩
        refine RunC.wl hw31 hd31 ?_
        replace h29_ : s_TurnValues_k10 L63 v66 e68 L80 = some y29_ := h29_
        unfold s_TurnValues_k10 at h29_
        obtain ⟨x82, hx41, h29_⟩ := olet_some h29_
        refine RunC.regionW ?_
        refine zM (r := i64 v66) rfl rfl rfl rfl rfl ?_
        refine zL (r := i64 x82) rfl rfl rfl (LOp.eqr (LOp.add rfl rfl rfl) (congrArg (ik .i64) hx41)) ?_
        refine zA (r := i64 x82) rfl rfl rfl rfl rfl ?_
        refine zN ?_
        cases Option.some.inj h29_
        exact ⟨_, rfl, (u61 + 1), (u62 + 1), hl81, ⟨aR, aR, aR, aR, aR, (ALe.eq (by rw [hl78] <;> rfl)), aR, aR, trivial⟩, ⟨⟨rfl, .inr rfl⟩, ⟨rfl, .inr rfl⟩, ⟨rfl, .inr rfl⟩, ⟨rfl, .inr rfl⟩, ⟨rfl, .inr rfl⟩, ⟨rfl, .inr rfl⟩, ⟨rfl, .inr rfl⟩, ⟨rfl, .inr rfl⟩, ⟨rfl, .inl rfl⟩, trivial⟩⟩
      ·refine RunC.regionW ?_
       refine zM (r := i64 v66) rfl rfl rfl rfl rfl ?_
       refine zM (r := i64 a0) rfl rfl rfl rfl rfl ?_
       refine zL (r := b false) rfl rfl rfl (LOp.eqb (LOp.lss rfl rfl rfl) hc30) ?_
       refine zN ?_
       refine RunC.cond_false rfl rfl ?_
       refine RunC.exit ?_
       cases Option.some.inj h29_
       have hx := ho29 _ rfl
       exact ⟨L63, L64, u61, u62, hl65, ⟨aR, aR, aR, trivial⟩, ⟨⟨rfl, .inr rfl⟩, ⟨rfl, .inl rfl⟩, ⟨rfl, .inr rfl⟩, ⟨rfl, .inl rfl⟩, ⟨rfl, .inl rfl⟩, ⟨rfl, .inl rfl⟩, ⟨rfl, .inr rfl⟩, ⟨rfl, .inr rfl⟩, ⟨rfl, .inl rfl⟩, trivial⟩, hx⟩
     ·rintro τ32 Γ32 ⟨L85, L86, u83, u84, hl87, hw32, hd32, rfl⟩
      refine RunC.wl hw32 hd32 ?_
      replace h : s_TurnValues_k11 r58 r59 L85 L86 = some (q0, q1, q2, q3, q4) := h
      unfold s_TurnValues_k11 at h
      refine RunC.seq ?_
      refine RunC.region_draw (Γ' := [⟨1, some [i64 0, i64 0, nilsl]⟩, ⟨2, none⟩, ⟨u83, some (L85.map f32)⟩, ⟨1, none⟩, ⟨1, none⟩, ⟨u53, none⟩, ⟨(u54 + 1), some (L86.map f32)⟩, ⟨1, some [i64 r58, i64 r59, oref 6 (u54 + 1) 0 r60.length]⟩, ⟨u84, none⟩]) 3 mixed 
       (TR.l (r := oref 2 u83 0 L85.length) rfl rfl (LOp.move rfl rfl) <|
       (TR.d (r := agg [i64 r58, i64 r59, oref 6 (u54 + 1) 0 r60.length]) (fs := []) rfl rfl (TOp.loadAgg_o rfl agg45 siz45 rfl rfl rfl rfl) <|
       (TR.l (r := oref 2 u83 0 L85.length) rfl rfl (LOp.assign rfl rfl) <|
       TR.nil))) rfl (by kernel_rfl) rfl fills_nil rfl ?_
      iterate 3 refine ROps.dropS ?_
      refine ROps.drop0 ?_
      refine ROps.store_le (r := agg [i64 r58, i64 r59, oref 6 (u54 + 1) 0 r60.length]) (l' := [i64 r58, i64 r59, oref 6 (u54 + 1) 0 r60.length]) (Γ' := [⟨1, some [i64 r58, i64 r59, oref 6 (u54 + 1) 0 r60.length]⟩, ⟨2, none⟩, ⟨u83, some (L85.map f32)⟩, ⟨1, none⟩, ⟨1, none⟩, ⟨u53, none⟩, ⟨(u54 + 1), some (L86.map f32)⟩, ⟨1, some [i64 r58, i64 r59, oref 6 (u54 + 1) 0 r60.length]⟩, ⟨u84, none⟩]) rfl siz45 rfl rfl rfl aR rfl rfl rfl rfl (Nat.le_of_ble_eq_true rfl) rfl rfl ?_
      refine zA (r := b true) rfl rfl rfl rfl rfl ?_
      refine zN ?_
      refine RunC.ret ?_
      have hq := Option.some.inj h
      obtain ⟨hq0, hq⟩ := Prod.mk.inj hq
      obtain ⟨hq1, hq⟩ := Prod.mk.inj hq
      obtain ⟨hq2, hq⟩ := Prod.mk.inj hq
      obtain ⟨hq3, hq⟩ := Prod.mk.inj hq
      subst q0
      subst q1
      subst q2
      subst q3
      subst q4
      exact bodyQ.mk (r' := tup [oref 2 u83 0 L85.length, agg [i64 r58, i64 r59, oref 6 (u54 + 1) 0 L86.length], b true]) [(2, u83), (6, (u54 + 1))] (.inr rfl) rfl (show List.Nodup [2, 6] from by decide) (by simp [ren, rens, sigma]) rfl (Res.eq (Res.three rfl (RV.tmp rfl) (RV.cell agg45 siz45 rfl rfl rfl rfl) (RV.tmp rfl)) (by rw [(show L86.length = r60.length from hl87)] <;> rfl)) (SelL.arr0 (f := f32) (fun _ => rfl) rfl (SelL.arr0 (f := f32) (fun _ => rfl) rfl trivial))
  ·refine RunC.regionW ?_
   refine ROps.d (r := b true) (fs := []) (Γ' := [⟨1, some [i64 0, i64 0, nilsl]⟩, ⟨0, none⟩, ⟨0, none⟩, ⟨0, none⟩, ⟨0, none⟩, ⟨0, none⟩, ⟨0, none⟩, ⟨0, none⟩, ⟨0, none⟩]) rfl rfl rfl (TOp.eqb (TOp.callB (CallAs.func ent57 rfl rfl) (Bors.cons (Bor.ptr (Bors.cons (Bor.pure rfl) (Bors.cons (Bor.pure rfl) (Bors.cons (Bor.sl (fun _ => rfl)) Bors.nil)))) Bors.nil) rfl rfl (s_l04Symmetric_ok a0 a1 a2 r1 hf1)) hc2) rfl ?_
   refine zL (r := b false) rfl rfl rfl (LOp.eqb (LOp.not rfl rfl) rfl) ?_
   refine zM (r := b false) rfl rfl rfl rfl rfl ?_
   refine zM (r := i64 a3) rfl rfl rfl rfl rfl ?_
   refine ROps.d (r := b false) (fs := []) (Γ' := [⟨1, some [i64 0, i64 0, nilsl]⟩, ⟨0, none⟩, ⟨0, none⟩, ⟨0, none⟩, ⟨0, none⟩, ⟨0, none⟩, ⟨0, none⟩, ⟨0, none⟩, ⟨0, none⟩]) rfl rfl rfl (TOp.eqb (TOp.callB (CallAs.func ent58 rfl rfl) (Bors.cons (Bor.pure rfl) Bors.nil) rfl rfl (s_l04Rounds_ok a3 r2 hf3)) hc4) rfl ?_
   refine zL (r := b true) rfl rfl rfl (LOp.eqb (LOp.not rfl rfl) rfl) ?_
   refine zL (r := b true) rfl rfl rfl (LOp.pick_false rfl rfl rfl) ?_
   refine zN ?_
   refine RunC.cond_true rfl rfl ?_
   refine zQ ?_
   refine zL (r := agg [i64 0, i64 0, nilsl]) rfl rfl rfl (LOp.build (qs := []) zer45 zok45 und45 plc45 rfl trivial rfl) ?_
   refine zA (r := nilsl) rfl rfl rfl rfl rfl ?_
   refine ROps.store_le (r := agg [i64 0, i64 0, nilsl]) (l' := [i64 0, i64 0, nilsl]) (Γ' := [⟨1, some [i64 0, i64 0, nilsl]⟩, ⟨0, none⟩, ⟨0, none⟩, ⟨0, none⟩, ⟨0, none⟩, ⟨0, none⟩, ⟨0, none⟩, ⟨0, none⟩, ⟨0, none⟩]) rfl siz45 rfl rfl rfl aR rfl rfl rfl rfl (Nat.le_of_ble_eq_true rfl) rfl rfl ?_
   refine zA (r := b false) rfl rfl rfl rfl rfl ?_
   refine zN ?_
   refine RunC.nil_slot (Γ' := [⟨1, some [i64 0, i64 0, nilsl]⟩, ⟨1, some (([] : List F).map f32)⟩, ⟨0, none⟩, ⟨0, none⟩, ⟨0, none⟩, ⟨0, none⟩, ⟨0, none⟩, ⟨0, none⟩, ⟨0, none⟩]) 4 1 rfl rfl rfl ?_
   refine RunC.nil_cell (l' := [i64 0, i64 0, oref 2 1 0 0]) (Γ' := [⟨1, some [i64 0, i64 0, oref 2 1 0 0]⟩, ⟨1, some (([] : List F).map f32)⟩, ⟨1, some (([] : List F).map f32)⟩, ⟨0, none⟩, ⟨0, none⟩, ⟨0, none⟩, ⟨0, none⟩, ⟨0, none⟩, ⟨0, none⟩]) 0 2 2 rfl rfl rfl rfl rfl ?_
   refine RunC.ret ?_
   have hq := Option.some.inj h
   obtain ⟨hq0, hq⟩ := Prod.mk.inj hq
   obtain ⟨hq1, hq⟩ := Prod.mk.inj hq
   obtain ⟨hq2, hq⟩ := Prod.mk.inj hq
   obtain ⟨hq3, hq⟩ := Prod.mk.inj hq
   subst q0
   subst q1
   subst q2
   subst q3
   subst q4
   exact bodyQ.mk (r' := tup [oref 1 1 0 (([] : List F).length), agg [i64 0, i64 0, oref 2 1 0 (([] : List F).length)], b false]) [(1, 1), (2, 1)] (.inr rfl) rfl (show List.Nodup [1, 2] from by decide) rfl rfl (Res.eq (Res.three rfl (RV.tmp rfl) (RV.cell agg45 siz45 rfl rfl rfl rfl) (RV.tmp rfl)) (by rw [(show ([] : List F).length = 0 from rfl)] <;> rfl)) (SelL.arr0 (f := f32) (fun _ => rfl) rfl (SelL.arr0 (f := f32) (fun _ => rfl) rfl trivial))
 ·refine RunC.regionW ?_
  refine ROps.d (r := b false) (fs := []) (Γ' := [⟨1, some [i64 0, i64 0, nilsl]⟩, ⟨0, none⟩, ⟨0, none⟩, ⟨0, none⟩, ⟨0, none⟩, ⟨0, none⟩, ⟨0, none⟩, ⟨0, none⟩, ⟨0, none⟩]) rfl rfl rfl (TOp.eqb (TOp.callB (CallAs.func ent57 rfl rfl) (Bors.cons (Bor.ptr (Bors.cons (Bor.pure rfl) (Bors.cons (Bor.pure rfl) (Bors.cons (Bor.sl (fun _ => rfl)) Bors.nil)))) Bors.nil) rfl rfl (s_l04Symmetric_ok a0 a1 a2 r1 hf1)) hc2) rfl ?_
  refine zL (r := b true) rfl rfl rfl (LOp.eqb (LOp.not rfl rfl) rfl) ?_
  refine zM (r := b true) rfl rfl rfl rfl rfl ?_
  refine ROps.s rfl rfl rfl ?_
  refine ROps.s rfl rfl rfl ?_
  refine ROps.s rfl rfl rfl ?_
  refine zL (r := b true) rfl rfl rfl (LOp.pick_true rfl rfl rfl) ?_
  refine zN ?_
  refine RunC.cond_true rfl rfl ?_
  refine zQ ?_
  refine zL (r := agg [i64 0, i64 0, nilsl]) rfl rfl rfl (LOp.build (qs := []) zer45 zok45 und45 plc45 rfl trivial rfl) ?_
  refine zA (r := nilsl) rfl rfl rfl rfl rfl ?_
  refine ROps.store_le (r := agg [i64 0, i64 0, nilsl]) (l' := [i64 0, i64 0, nilsl]) (Γ' := [⟨1, some [i64 0, i64 0, nilsl]⟩, ⟨0, none⟩, ⟨0, none⟩, ⟨0, none⟩, ⟨0, none⟩, ⟨0, none⟩, ⟨0, none⟩, ⟨0, none⟩, ⟨0, none⟩]) rfl siz45 rfl rfl rfl aR rfl rfl rfl rfl (Nat.le_of_ble_eq_true rfl) rfl rfl ?_
  refine zA (r := b false) rfl rfl rfl rfl rfl ?_
  refine zN ?_
  refine RunC.nil_slot (Γ' := [⟨1, some [i64 0, i64 0, nilsl]⟩, ⟨1, some (([] : List F).map f32)⟩, ⟨0, none⟩, ⟨0, none⟩, ⟨0, none⟩, ⟨0, none⟩, ⟨0, none⟩, ⟨0, none⟩, ⟨0, none⟩]) 4 1 rfl rfl rfl ?_
  refine RunC.nil_cell (l' := [i64 0, i64 0, oref 2 1 0 0]) (Γ' := [⟨1, some [i64 0, i64 0, oref 2 1 0 0]⟩, ⟨1, some (([] : List F).map f32)⟩, ⟨1, some (([] : List F).map f32)⟩, ⟨0, none⟩, ⟨0, none⟩, ⟨0, none⟩, ⟨0, none⟩, ⟨0, none⟩, ⟨0, none⟩]) 0 2 2 rfl rfl rfl rfl rfl ?_
  refine RunC.ret ?_
  have hq := Option.some.inj h
  obtain ⟨hq0, hq⟩ := Prod.mk.inj hq
  obtain ⟨hq1, hq⟩ := Prod.mk.inj hq
  obtain ⟨hq2, hq⟩ := Prod.mk.inj hq
  obtain ⟨hq3, hq⟩ := Prod.mk.inj hq
  subst q0
  subst q1
  subst q2
  subst q3
  subst q4
  exact bodyQ.mk (r' := tup [oref 1 1 0 (([] : List F).length), agg [i64 0, i64 0, oref 2 1 0 (([] : List F).length)], b false]) [(1, 1), (2, 1)] (.inr rfl) rfl (show List.Nodup [1, 2] from by decide) rfl rfl (Res.eq (Res.three rfl (RV.tmp rfl) (RV.cell agg45 siz45 rfl rfl rfl rfl) (RV.tmp rfl)) (by rw [(show ([] : List F).length = 0 from rfl)] <;> rfl)) (SelL.arr0 (f := f32) (fun _ => rfl) rfl (SelL.arr0 (f := f32) (fun _ => rfl) rfl trivial))
noncomputable def i_inRange (a0 : Int) (a1 : Int) (a2 : Int) : Option (Bool) :=
 bsel (decide (a1 ≤ a0)) (
  some (decide (a0 ≤ a2))) (
  some false)
theorem i_inRange_ok (a0 : Int) (a1 : Int) (a2 : Int) (q0 : Bool) (h : i_inRange a0 a1 a2 = some q0) : Ev Try.prog 86 [i64 a0, i64 a1, i64 a2] [] (b q0) [] := by
 refine Ev.start Try.func86 rfl rfl 0 (τ := [(0, i64 a0), (1, i64 a1), (2, i64 a2)]) rfl (Γ' := []) rfl (n := 31) rfl (g := 0) rfl (fun _ => rfl) ?_
 unfold i_inRange at h
 refine zQ ?_
 refine zA (r := b false) rfl rfl rfl rfl rfl ?_
 refine zN ?_
 refine RunC.seq ?_
 rcases bsel_some h with ⟨hc1, h⟩ | ⟨hc1, h⟩
 ·refine RunC.regionW ?_
  refine zM (r := i64 a1) rfl rfl rfl rfl rfl ?_
  refine zM (r := i64 a0) rfl rfl rfl rfl rfl ?_
  refine zL (r := b true) rfl rfl rfl (LOp.eqb (LOp.leq rfl rfl rfl) hc1) ?_
  refine zM (r := b true) rfl rfl rfl rfl rfl ?_
  refine zM (r := i64 a0) rfl rfl rfl rfl rfl ?_
  refine zM (r := i64 a2) rfl rfl rfl rfl rfl ?_
  refine zL (r := b (decide (a0 ≤ a2))) rfl rfl rfl (LOp.leq rfl rfl rfl) ?_
  refine zL (r := b (decide (a0 ≤ a2))) rfl rfl rfl (LOp.pick_true rfl rfl rfl) ?_
  refine zA (r := b (decide (a0 ≤ a2))) rfl rfl rfl rfl rfl ?_
  refine zN ?_
  refine RunC.ret ?_
  have hq := Option.some.inj h
  subst q0
  exact bodyQ.pure (.inr rfl) rfl (Res.one rfl (RV.tmp rfl))
 ·refine RunC.regionW ?_
  refine zM (r := i64 a1) rfl rfl rfl rfl rfl ?_
  refine zM (r := i64 a0) rfl rfl rfl rfl rfl ?_
  refine zL (r := b false) rfl rfl rfl (LOp.eqb (LOp.leq rfl rfl rfl) hc1) ?_
  refine zM (r := b false) rfl rfl rfl rfl rfl ?_
  refine ROps.s rfl rfl rfl ?_
  refine ROps.s rfl rfl rfl ?_
  refine ROps.s rfl rfl rfl ?_
  refine zL (r := b false) rfl rfl rfl (LOp.pick_false rfl rfl rfl) ?_
  refine zA (r := b false) rfl rfl rfl rfl rfl ?_
  refine zN ?_
  refine RunC.ret ?_
  have hq := Option.some.inj h
  subst q0
  exact bodyQ.pure (.inr rfl) rfl (Res.one rfl (RV.tmp rfl))
noncomputable def i_isSide (a0 : Int) : Option (Bool) :=
 obind (i_inRange a0 1 12) fun (r1 : Bool) =>
 some r1
theorem i_isSide_ok (a0 : Int) (q0 : Bool) (h : i_isSide a0 = some q0) : Ev Try.prog 131 [i64 a0] [] (b q0) [] := by
 refine Ev.start Try.func131 rfl rfl 0 (τ := [(0, i64 a0)]) rfl (Γ' := []) rfl (n := 11) rfl (g := 0) rfl (fun _ => rfl) ?_
 unfold i_isSide at h
 refine zQ ?_
 refine zA (r := b false) rfl rfl rfl rfl rfl ?_
 refine zN ?_
 refine RunC.seq ?_
 obtain ⟨r1, hf1, h⟩ := obind_some h
 refine RunC.regionW ?_
 refine zM (r := i64 a0) rfl rfl rfl rfl rfl ?_
 refine ROps.d (r := b r1) (fs := []) (Γ' := []) rfl rfl rfl (TOp.callB (CallAs.func ent86 rfl rfl) (Bors.cons (Bor.pure rfl) (Bors.cons (Bor.pure rfl) (Bors.cons (Bor.pure rfl) Bors.nil))) rfl rfl (i_inRange_ok a0 1 12 r1 hf1)) rfl ?_
 refine zA (r := b r1) rfl rfl rfl rfl rfl ?_
 refine zN ?_
 refine RunC.ret ?_
 have hq := Option.some.inj h
 subst q0
 exact bodyQ.pure (.inr rfl) rfl (Res.one rfl (RV.tmp rfl))
noncomputable def i_length_float32 (a0 : List F) : Option (Int) :=
 some (a0.length : Int)
theorem i_length_float32_ok (a0 : List F) (q0 : Int) (h : i_length_float32 a0 = some q0) : Ev Try.prog 122 [sl a0.length (a0.map f32)] [] (i64 q0) [] := by
 refine Ev.start Try.func122 rfl rfl 0 (τ := [(0, sl a0.length (a0.map f32))]) rfl (Γ' := []) rfl (n := 11) rfl (g := 0) rfl (fun _ => rfl) ?_
 unfold i_length_float32 at h
 refine zQ ?_
 refine zA (r := i64 0) rfl rfl rfl rfl rfl ?_
 refine zN ?_
 refine zQ ?_
 refine zM (r := sl a0.length (a0.map f32)) rfl rfl rfl rfl rfl ?_
 refine zL (r := i64 (a0.length : Int)) rfl rfl rfl (LOp.len_sl und23 rfl rfl) ?_
 refine zA (r := i64 (a0.length : Int)) rfl rfl rfl rfl rfl ?_
 refine zN ?_
 refine RunC.ret ?_
 have hq := Option.some.inj h
 subst q0
 exact bodyQ.pure (.inr rfl) rfl (Res.one rfl (RV.tmp rfl))
noncomputable def x_math_IsNaN (a0 : F) : Option (Bool) :=
 some (!feq .f64 a0 a0)
theorem x_math_IsNaN_ok (a0 : F) (q0 : Bool) (h : x_math_IsNaN a0 = some q0) : Ev Try.prog 140 [f64 a0] [] (b q0) [] := by
 refine Ev.start Try.func140 rfl rfl 0 (τ := [(0, f64 a0)]) rfl (Γ' := []) rfl (n := 13) rfl (g := 0) rfl (fun _ => rfl) ?_
 unfold x_math_IsNaN at h
 refine zQ ?_
 refine zA (r := b false) rfl rfl rfl rfl rfl ?_
 refine zN ?_
 refine zQ ?_
 refine zM (r := f64 a0) rfl rfl rfl rfl rfl ?_
 refine zM (r := f64 a0) rfl rfl rfl rfl rfl ?_
 refine zL (r := b (!feq .f64 a0 a0)) rfl rfl rfl (LOp.fne rfl (OpF.tmp rfl) (OpF.tmp rfl)) ?_
 refine zA (r := b (!feq .f64 a0 a0)) rfl rfl rfl rfl rfl ?_
 refine zN ?_
 refine RunC.ret ?_
 have hq := Option.some.inj h
 subst q0
 exact bodyQ.pure (.inr rfl) rfl (Res.one rfl (RV.tmp rfl))
noncomputable def x_math_Abs (a0 : F) : Option (F) :=
 olet (fabs a0) fun (x1 : F) =>
 some x1
theorem x_math_Abs_ok (a0 : F) (q0 : F) (h : x_math_Abs a0 = some q0) : Ev Try.prog 143 [f64 a0] [] (f64 q0) [] := by
 refine Ev.start Try.func143 rfl rfl 0 (τ := [(0, f64 a0)]) rfl (Γ' := []) rfl (n := 15) rfl (g := 0) rfl (fun _ => rfl) ?_
 unfold x_math_Abs at h
 refine zQ ?_
 refine zL (r := f64 (some 0)) rfl rfl rfl (LOp.le (LOp.assign rfl rfl) (ALe.fl (by kernel_rfl) (by kernel_rfl))) ?_
 refine zN ?_
 refine RunC.seq ?_
 obtain ⟨x1, hx1, h⟩ := olet_some h
 refine RunC.regionW ?_
 refine zM (r := f64 a0) rfl rfl rfl rfl rfl ?_
 refine zL (r := bt .f64 .u64 a0) rfl rfl rfl (LOp.fbits ext151 rfl (OpF.tmp rfl)) ?_
 refine zL (r := bt .f64 .u64 x1) rfl rfl rfl (LOp.eqr (LOp.andNot_bt rfl rfl rfl) (congrArg (bt .f64 .u64) hx1)) ?_
 refine zL (r := f64 x1) rfl rfl rfl (LOp.ffrom ext150 rfl rfl) ?_
 refine zA (r := f64 x1) rfl rfl rfl rfl rfl ?_
 refine zN ?_
 refine RunC.ret ?_
 have hq := Option.some.inj h
 subst q0
 exact bodyQ.pure (.inr rfl) rfl (Res.one rfl (RV.tmp rfl))
noncomputable def x_math_IsInf_k1 (y3 : F) : Option (Bool) :=
 some (flt .f64 (some 9218868437227405311) y3)
noncomputable def x_math_IsInf (a0 : F) (a1 : Int) : Option (Bool) :=
 bsel (decide (a1 = 0)) (
  obind (x_math_Abs a0) fun (r1 : F) =>
  x_math_IsInf_k1 r1) (
  bsel (decide (a1 < 0)) (
   olet (fneg .f64 a0) fun (x2 : F) =>
   x_math_IsInf_k1 x2) (
   x_math_IsInf_k1 a0))
theorem x_math_IsInf_ok (a0 : F) (a1 : Int) (q0 : Bool) (h : x_math_IsInf a0 a1 = some q0) : Ev Try.prog 141 [f64 a0, i64 a1] [] (b q0) [] := by
 refine Ev.start Try.func141 rfl rfl 0 (τ := [(0, f64 a0), (1, i64 a1)]) rfl (Γ' := []) rfl (n := 31) rfl (g := 0) rfl (fun _ => rfl) ?_
 unfold x_math_IsInf at h
 refine zQ ?_
 refine zA (r := b false) rfl rfl rfl rfl rfl ?_
 refine zN ?_
 refine RunC.seq ?_
 refine RunC.cutN (fun τ Γ => ∃ (y3 : F), WeakLe τ [(0, f64 y3)] ∧ DeadLe Γ [] ∧ x_math_IsInf_k1 y3 = some q0) ?_ ?_
 ·refine RunC.seq ?_
  rcases bsel_some h with ⟨hc1, h⟩ | ⟨hc1, h⟩
  ·refine RunC.regionW ?_
   refine zM (r := i64 a1) rfl rfl rfl rfl rfl ?_
   refine zL (r := b true) rfl rfl rfl (LOp.eqb (LOp.eql rfl rfl rfl) hc1) ?_
   refine zN ?_
   refine RunC.cond_true rfl rfl ?_
   obtain ⟨r1, hf2, h⟩ := obind_some h
   refine RunC.regionW ?_
   refine zM (r := f64 a0) rfl rfl rfl rfl rfl ?_
   refine ROps.d (r := f64 r1) (fs := []) (Γ' := []) rfl rfl rfl (TOp.callB (CallAs.func ent143 rfl rfl) (Bors.cons (Bor.pure rfl) Bors.nil) rfl rfl (x_math_Abs_ok a0 r1 hf2)) rfl ?_
   refine zA (r := f64 r1) rfl rfl rfl rfl rfl ?_
   refine zN ?_
   exact ⟨r1, ⟨aR, trivial⟩, trivial, h⟩
  ·refine RunC.regionW ?_
   refine zM (r := i64 a1) rfl rfl rfl rfl rfl ?_
   refine zL (r := b false) rfl rfl rfl (LOp.eqb (LOp.eql rfl rfl rfl) hc1) ?_
   refine zN ?_
   refine RunC.cond_false rfl rfl ?_
   refine RunC.seq ?_
   rcases bsel_some h with ⟨hc3, h⟩ | ⟨hc3, h⟩
   ·refine RunC.regionW ?_
    refine zM (r := i64 a1) rfl rfl rfl rfl rfl ?_
    refine zL (r := b true) rfl rfl rfl (LOp.eqb (LOp.lss rfl rfl rfl) hc3) ?_
    refine zN ?_
    refine RunC.cond_true rfl rfl ?_
    obtain ⟨x2, hx4, h⟩ := olet_some h
    refine RunC.regionW ?_
    refine zM (r := f64 a0) rfl rfl rfl rfl rfl ?_
    refine zL (r := f64 x2) rfl rfl rfl (LOp.eqr (LOp.fneg rfl (OpF.tmp rfl)) (congrArg (f .f64) hx4)) ?_
    refine zA (r := f64 x2) rfl rfl rfl rfl rfl ?_
    refine zN ?_
    exact ⟨x2, ⟨aR, trivial⟩, trivial, h⟩
   ·refine RunC.regionW ?_
    refine zM (r := i64 a1) rfl rfl rfl rfl rfl ?_
    refine zL (r := b false) rfl rfl rfl (LOp.eqb (LOp.lss rfl rfl rfl) hc3) ?_
    refine zN ?_
    refine RunC.cond_false rfl rfl ?_
    refine RunC.skip ?_
    exact ⟨a0, ⟨aR, trivial⟩, trivial, h⟩
 ·rintro τ2 Γ2 ⟨y3, hw2, hd2, h⟩
  refine RunC.wl hw2 hd2 ?_
  unfold x_math_IsInf_k1 at h
  refine zQ ?_
  refine zM (r := f64 y3) rfl rfl rfl rfl rfl ?_
  refine zL (r := b (flt .f64 (some 9218868437227405311) y3)) rfl rfl rfl (LOp.fgt rfl (OpF.tmp rfl) (OpF.const rfl (by kernel_rfl) (by kernel_rfl))) ?_
  refine zA (r := b (flt .f64 (some 9218868437227405311) y3)) rfl rfl rfl rfl rfl ?_
  refine zN ?_
  refine RunC.ret ?_
  have hq := Option.some.inj h
  subst q0
  exact bodyQ.pure (.inr rfl) rfl (Res.one rfl (RV.tmp rfl))
noncomputable def i_isFinite64 (a0 : F) : Option (Bool) :=
 obind (x_math_IsNaN a0) fun (r1 : Bool) =>
 bsel r1 (
  some false) (
  obind (x_math_IsInf a0 0) fun (r2 : Bool) =>
  some (!r2))
theorem i_isFinite64_ok (a0 : F) (q0 : Bool) (h : i_isFinite64 a0 = some q0) : Ev Try.prog 123 [f64 a0] [] (b q0) [] := by
 refine Ev.start Try.func123 rfl rfl 0 (τ := [(0, f64 a0)]) rfl (Γ' := []) rfl (n := 23) rfl (g := 0) rfl (fun _ => rfl) ?_
 unfold i_isFinite64 at h
 refine zQ ?_
 refine zA (r := b false) rfl rfl rfl rfl rfl ?_
 refine zN ?_
 refine RunC.seq ?_
 obtain ⟨r1, hf1, h⟩ := obind_some h
 rcases bsel_some h with ⟨hc2, h⟩ | ⟨hc2, h⟩
 ·refine RunC.regionW ?_
  refine zM (r := f64 a0) rfl rfl rfl rfl rfl ?_
  refine ROps.d (r := b true) (fs := []) (Γ' := []) rfl rfl rfl (TOp.eqb (TOp.callB (CallAs.func ent140 rfl rfl) (Bors.cons (Bor.pure rfl) Bors.nil) rfl rfl (x_math_IsNaN_ok a0 r1 hf1)) hc2) rfl ?_
  refine zL (r := b false) rfl rfl rfl (LOp.eqb (LOp.not rfl rfl) rfl) ?_
  refine zM (r := b false) rfl rfl rfl rfl rfl ?_
  refine ROps.s rfl rfl rfl ?_
  refine ROps.s rfl rfl rfl ?_
  refine ROps.s rfl rfl rfl ?_
  refine zL (r := b false) rfl rfl rfl (LOp.pick_false rfl rfl rfl) ?_
  refine zA (r := b false) rfl rfl rfl rfl rfl ?_
  refine zN ?_
  refine RunC.ret ?_
  have hq := Option.some.inj h
  subst q0
  exact bodyQ.pure (.inr rfl) rfl (Res.one rfl (RV.tmp rfl))
 ·obtain ⟨r2, hf3, h⟩ := obind_some h
  refine RunC.regionW ?_
  refine zM (r := f64 a0) rfl rfl rfl rfl rfl ?_
  refine ROps.d (r := b false) (fs := []) (Γ' := []) rfl rfl rfl (TOp.eqb (TOp.callB (CallAs.func ent140 rfl rfl) (Bors.cons (Bor.pure rfl) Bors.nil) rfl rfl (x_math_IsNaN_ok a0 r1 hf1)) hc2) rfl ?_
  refine zL (r := b true) rfl rfl rfl (LOp.eqb (LOp.not rfl rfl) rfl) ?_
  refine zM (r := b true) rfl rfl rfl rfl rfl ?_
  refine zM (r := f64 a0) rfl rfl rfl rfl rfl ?_
  refine ROps.d (r := b r2) (fs := []) (Γ' := []) rfl rfl rfl (TOp.callB (CallAs.func ent141 rfl rfl) (Bors.cons (Bor.pure rfl) (Bors.cons (Bor.pure rfl) Bors.nil)) rfl rfl (x_math_IsInf_ok a0 0 r2 hf3)) rfl ?_
  refine zL (r := b (!r2)) rfl rfl rfl (LOp.not rfl rfl) ?_
  refine zL (r := b (!r2)) rfl rfl rfl (LOp.pick_true rfl rfl rfl) ?_
  refine zA (r := b (!r2)) rfl rfl rfl rfl rfl ?_
  refine zN ?_
  refine RunC.ret ?_
  have hq := Option.some.inj h
  subst q0
  exact bodyQ.pure (.inr rfl) rfl (Res.one rfl (RV.tmp rfl))
noncomputable def i_IsFinite (a0 : F) : Option (Bool) :=
 olet (fwiden a0) fun (x1 : F) =>
 obind (i_isFinite64 x1) fun (r2 : Bool) =>
 some r2
theorem i_IsFinite_ok (a0 : F) (q0 : Bool) (h : i_IsFinite a0 = some q0) : Ev Try.prog 85 [f32 a0] [] (b q0) [] := by
 refine Ev.start Try.func85 rfl rfl 0 (τ := [(0, f32 a0)]) rfl (Γ' := []) rfl (n := 13) rfl (g := 0) rfl (fun _ => rfl) ?_
 unfold i_IsFinite at h
 refine zQ ?_
 refine zA (r := b false) rfl rfl rfl rfl rfl ?_
 refine zN ?_
 refine RunC.seq ?_
 obtain ⟨x1, hx1, h⟩ := olet_some h
 obtain ⟨r2, hf2, h⟩ := obind_some h
 refine RunC.regionW ?_
 refine zM (r := f32 a0) rfl rfl rfl rfl rfl ?_
 refine ROps.d (r := f64 x1) (fs := []) (Γ' := []) rfl rfl rfl (TOp.eqr (TOp.widen (src := 26) (dst := 62) ⟨_, pun26⟩ pun62 rfl (OpF.tmp rfl)) (congrArg (f .f64) hx1)) rfl ?_
 refine ROps.d (r := b r2) (fs := []) (Γ' := []) rfl rfl rfl (TOp.callB (CallAs.func ent123 rfl rfl) (Bors.cons (Bor.pure rfl) Bors.nil) rfl rfl (i_isFinite64_ok x1 r2 hf2)) rfl ?_
 refine zA (r := b r2) rfl rfl rfl rfl rfl ?_
 refine zN ?_
 refine RunC.ret ?_
 have hq := Option.some.inj h
 subst q0
 exact bodyQ.pure (.inr rfl) rfl (Res.one rfl (RV.tmp rfl))
noncomputable def i_areFinite_1 (a0 : F) : Option (Bool) :=
 obind (i_IsFinite a0) fun (r1 : Bool) =>
 some (!r1)
theorem i_areFinite_1_ok (a0 : F) (q0 : Bool) (h : i_areFinite_1 a0 = some q0) : Ev Try.prog 126 [f32 a0] [] (b q0) [] := by
 refine Ev.start Try.func126 rfl rfl 0 (τ := [(0, f32 a0)]) rfl (Γ' := []) rfl (n := 13) rfl (g := 0) rfl (fun _ => rfl) ?_
 unfold i_areFinite_1 at h
 refine zQ ?_
 refine zA (r := b false) rfl rfl rfl rfl rfl ?_
 refine zN ?_
 refine RunC.seq ?_
 obtain ⟨r1, hf1, h⟩ := obind_some h
 refine RunC.regionW ?_
 refine zM (r := f32 a0) rfl rfl rfl rfl rfl ?_
 refine ROps.d (r := b r1) (fs := []) (Γ' := []) rfl rfl rfl (TOp.callB (CallAs.func ent85 rfl rfl) (Bors.cons (Bor.pure rfl) Bors.nil) rfl rfl (i_IsFinite_ok a0 r1 hf1)) rfl ?_
 refine zL (r := b (!r1)) rfl rfl rfl (LOp.not rfl rfl) ?_
 refine zA (r := b (!r1)) rfl rfl rfl rfl rfl ?_
 refine zN ?_
 refine RunC.ret ?_
 have hq := Option.some.inj h
 subst q0
 exact bodyQ.pure (.inr rfl) rfl (Res.one rfl (RV.tmp rfl))
noncomputable def x_slices_IndexFunc_float32_float32_1Fi_areFinite_1_b1 (a0 : List F) (v1 : Int) : Option (LR (Int) (Unit) (Int)) :=
 bsel (decide (v1 < (a0.length : Int))) (
  obind (at? a0 v1) fun (e2 : F) =>
  obind (i_areFinite_1 e2) fun (r3 : Bool) =>
  bsel r3 (
   some (LR.ret v1)) (
   olet (IntKind.i64.wrap (v1 + 1)) fun (x4 : Int) =>
   some (LR.next x4))) (
  some (LR.out ()))
noncomputable def x_slices_IndexFunc_float32_float32_1Fi_areFinite_1_s1 (a0 : List F) : (Int) → Option (LR (Int) (Unit) (Int)) := fun s => x_slices_IndexFunc_float32_float32_1Fi_areFinite_1_b1 a0 s
noncomputable def x_slices_IndexFunc_float32_float32_1Fi_areFinite_1_k1  : Option (Int) :=
 some (-1)
noncomputable def x_slices_IndexFunc_float32_float32_1Fi_areFinite_1 (a0 : List F) : Option (Int) :=
 obind (loopM (x_slices_IndexFunc_float32_float32_1Fi_areFinite_1_s1 a0) 0) fun z => osum z (fun _ => x_slices_IndexFunc_float32_float32_1Fi_areFinite_1_k1) (fun r => some r)
theorem x_slices_IndexFunc_float32_float32_1Fi_areFinite_1_ok (a0 : List F) (q0 : Int) (h : x_slices_IndexFunc_float32_float32_1Fi_areFinite_1 a0 = some q0) : Ev Try.prog 142 [sl a0.length (a0.map f32), fn (.func 126) [] []] [] (i64 q0) [] := by
 refine Ev.start Try.func142 rfl rfl 0 (τ := [(0, sl a0.length (a0.map f32)), (1, fn (.func 126) [] [])]) rfl (Γ' := []) rfl (n := 39) rfl (g := 0) rfl (fun _ => rfl) ?_
 unfold x_slices_IndexFunc_float32_float32_1Fi_areFinite_1 at h
 refine zQ ?_
 refine zA (r := i64 0) rfl rfl rfl rfl rfl ?_
 refine zN ?_
 refine RunC.seq ?_
 refine zQ ?_
 refine zM (r := sl a0.length (a0.map f32)) rfl rfl rfl rfl rfl ?_
 refine zL (r := i64 (a0.length : Int)) rfl rfl rfl (LOp.len_sl und23 rfl rfl) ?_
 refine zM (r := i64 0) rfl rfl rfl rfl rfl ?_
 refine zN ?_
 obtain ⟨z2, hz_2, h⟩ := obind_some h
 refine RunC.cutN (fun τ Γ => WeakLe τ [] ∧ DeadLe Γ [] ∧ z2 = .inl ()) ?_ ?_
 ·refine RunC.block (RunC.loop (RunL.loopM (x := z2) (x_slices_IndexFunc_float32_float32_1Fi_areFinite_1_s1 a0) (fun (s : Int) τ Γ => WeakLe τ [(0, sl a0.length (a0.map f32)), (1, fn (.func 126) [] []), (7, i64 (a0.length : Int)), (8, i64 s)] ∧ DeadLe Γ []) ?_ _ _ _ hz_2 ⟨⟨aR, aR, aR, aR, trivial⟩, trivial⟩))
  rintro v1 τ2 Γ2 y2_ ⟨hw2, hd2⟩ h2_ ho2 hr2
  refine RunC.wl (τ' := [(0, sl a0.length (a0.map f32)), (1, fn (.func 126) [] []), (7, i64 (a0.length : Int)), (8, i64 v1)]) (Γ' := []) hw2 hd2 ?_
  replace h2_ : x_slices_IndexFunc_float32_float32_1Fi_areFinite_1_b1 a0 v1 = some y2_ := h2_
  unfold x_slices_IndexFunc_float32_float32_1Fi_areFinite_1_b1 at h2_
  refine RunC.seq ?_
  rcases bsel_some h2_ with ⟨hc1, h2_⟩ | ⟨hc1, h2_⟩
  ·refine RunC.regionW ?_
   refine zL (r := b true) rfl rfl rfl (LOp.eqb (LOp.lss rfl rfl rfl) hc1) ?_
   refine zN ?_
   refine RunC.seq ?_
   refine RunC.cond_true rfl rfl ?_
   refine RunC.skip ?_
   refine RunC.seq ?_
   refine RunC.block ?_
   refine zQ ?_
   refine zM (r := i64 v1) rfl rfl rfl rfl rfl ?_
   refine zA (r := i64 v1) rfl rfl rfl rfl rfl ?_
   refine zN ?_
   refine RunC.seq ?_
   obtain ⟨e2, he2, h2_⟩ := obind_some h2_
   obtain ⟨r3, hf3, h2_⟩ := obind_some h2_
   rcases bsel_some h2_ with ⟨hc4, h2_⟩ | ⟨hc4, h2_⟩
   ·refine RunC.regionW ?_
    refine zM (r := fn (.func 126) [] []) rfl rfl rfl rfl rfl ?_
    refine zM (r := sl a0.length (a0.map f32)) rfl rfl rfl rfl rfl ?_
    refine zM (r := i64 v1) rfl rfl rfl rfl rfl ?_
    refine zL (r := ptr [f32 e2]) rfl rfl rfl (LOp.le (LOp.ix (f := f32) und23 siz26 rfl rfl rfl rfl he2) ALe.ptr) ?_
    refine zL (r := f32 e2) rfl rfl rfl (LOp.load1 agg26 rfl rfl) ?_
    refine ROps.d (r := b true) (fs := []) (Γ' := []) rfl rfl rfl (TOp.eqb (TOp.callB (CallAs.fn ent126 rfl rfl rfl rfl) (Bors.cons (Bor.pure rfl) Bors.nil) rfl rfl (i_areFinite_1_ok e2 r3 hf3)) hc4) rfl ?_
    refine zN ?_
    refine RunC.cond_true rfl rfl ?_
    refine zQ ?_
    refine zM (r := i64 v1) rfl rfl rfl rfl rfl ?_
    refine zA (r := i64 v1) rfl rfl rfl rfl rfl ?_
    refine zN ?_
    refine RunC.ret ?_
    cases Option.some.inj h2_
    have hx3_ := hr2 _ rfl
    subst hx3_
    have hq := Option.some.inj h
    subst q0
    exact bodyQ.pure (.inr rfl) rfl (Res.one rfl (RV.tmp rfl))
   ·refine RunC.regionW ?_
    refine zM (r := fn (.func 126) [] []) rfl rfl rfl rfl rfl ?_
    refine zM (r := sl a0.length (a0.map f32)) rfl rfl rfl rfl rfl ?_
    refine zM (r := i64 v1) rfl rfl rfl rfl rfl ?_
    refine zL (r := ptr [f32 e2]) rfl rfl rfl (LOp.le (LOp.ix (f := f32) und23 siz26 rfl rfl rfl rfl he2) ALe.ptr) ?_
    refine zL (r := f32 e2) rfl rfl rfl (LOp.load1 agg26 rfl rfl) ?_
    refine ROps.d (r := b false) (fs := []) (Γ' := []) rfl rfl rfl (TOp.eqb (TOp.callB (CallAs.fn ent126 rfl rfl rfl rfl) (Bors.cons (Bor.pure rfl) Bors.nil) rfl rfl (i_areFinite_1_ok e2 r3 hf3)) hc4) rfl ?_
    refine zN ?_
    refine RunC.cond_false rfl rfl ?_
    refine RunC.skip ?_
    obtain ⟨x4, hx5, h2_⟩ := olet_some h2_
    refine RunC.regionW ?_
    refine zL (r := i64 x4) rfl rfl rfl (LOp.eqr (LOp.add rfl rfl rfl) (congrArg (ik .i64) hx5)) ?_
    refine zM (r := i64 x4) rfl rfl rfl rfl rfl ?_
    refine zN ?_
    cases Option.some.inj h2_
    exact ⟨_, rfl, ⟨aR, aR, aR, aR, trivial⟩, trivial⟩
  ·refine RunC.regionW ?_
   refine zL (r := b false) rfl rfl rfl (LOp.eqb (LOp.lss rfl rfl rfl) hc1) ?_
   refine zN ?_
   refine RunC.seq ?_
   refine RunC.cond_false rfl rfl ?_
   refine RunC.exit ?_
   cases Option.some.inj h2_
   have hx := ho2 _ rfl
   exact ⟨trivial, trivial, hx⟩
 ·rintro τ4 Γ4 ⟨hw4, hd4, rfl⟩
  refine RunC.wl hw4 hd4 ?_
  replace h : x_slices_IndexFunc_float32_float32_1Fi_areFinite_1_k1 = some q0 := h
  unfold x_slices_IndexFunc_float32_float32_1Fi_areFinite_1_k1 at h
  refine zQ ?_
  refine zA (r := i64 (-1)) rfl rfl rfl rfl rfl ?_
  refine zN ?_
  refine RunC.ret ?_
  have hq := Option.some.inj h
  subst q0
  exact bodyQ.pure (.inr rfl) rfl (Res.one rfl (RV.tmp rfl))
end Go.Proofs.Ytcoookgeialmnaa
