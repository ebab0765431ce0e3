/- The plain law of FnRefined. -/
import Derived.Test.YtcifbefhglffhaaGreatPa
namespace Go.Proofs.YtcifbefhglffhaaGreat
set_option linter.unusedSimpArgs false
set_option linter.unusedVariables false
open Go Go.AM
theorem long_row {n i : Nat} {L x b : List F} (m : Mat n n L) (n5 : n ≤ 5) (hi : i < n) (fe : ∀ i k, i < n → k < n → Fv (gm none L n i k) ∧ Ab (vl (gm none L n i k)) 8) (lx : x.length = n) (fx : ∀ i, i < n → Fv (x.getD i none) ∧ Ab (vl (x.getD i none)) (21 / 10)) (fb : Fv (b.getD i none) ∧ Ab (vl (b.getD i none)) 4) :
    ∃ y g, loopM (K22_s2 (n : Int) (n : Int) L x (i : Int)) (fwiden (b.getD i none), 0) = some (.inl y) ∧ Rv .f64 g y ∧ Ab (g - (vl (b.getD i none) - rs (fun k => vl (gm none L n i k) * vl (x.getD k none)) n)) (1 / 100000000) := by
  have pr : ∀ k, k < n → Ab (vl (gm none L n i k) * vl (x.getD k none)) (168 / 10) := fun k hk => ((fe i k hi hk).2.mul (fx k hk).2).mono (by decide +kernel)
  have key : ∀ (d j : Nat) (y : F) (g : Rat), j + d = n → Rv .f64 g y → Ab (g - (vl (b.getD i none) - rs (fun k => vl (gm none L n i k) * vl (x.getD k none)) j)) ((j : Rat) * (2 / 1000000000)) → ∃ y' g', loopM (K22_s2 (n : Int) (n : Int) L x (i : Int)) (y, (j : Int)) = some (.inl y') ∧ Rv .f64 g' y' ∧ Ab (g' - (vl (b.getD i none) - rs (fun k => vl (gm none L n i k) * vl (x.getD k none)) n)) ((n : Rat) * (2 / 1000000000)) := by
    intro d
    induction d with
    | zero =>
      intro j y g hj hy hg
      have hj : j = n := by omega
      subst hj
      refine ⟨y, g, loopM_out ?_, hy, hg⟩
      show K22_b2 _ _ L x (i : Int) y (j : Int) = _
      unfold K22_b2
      rw [lx, dnlt, bsel_false]
    | succ d ih =>
      intro j y g hj hy hg
      have hj' : j < n := by omega
      obtain ⟨f1, _⟩ := fe i j hi hj'
      obtain ⟨f2, _⟩ := fx j hj'
      have p := pr j hj'
      obtain ⟨q, q1, q2⟩ := f1.rv.widen.mul f2.rv.widen p (big60 (by decide +kernel))
      have q2 := q2.mono (e64_le (M := 168 / 10) (by decide +kernel) (by decide +kernel))
      have jr : (j : Rat) ≤ 5 := by exact_mod_cast (show j ≤ 5 by omega)
      have sb := rs_ab (n := j) fun k (hk : k < j) => pr k (by omega)
      have gb : Ab g 100 := ⟨by have := hg.1; have := fb.2.1; have := sb.2; grind, by have := hg.2; have := fb.2.2; have := sb.1; grind⟩
      obtain ⟨s, s1, s2⟩ := hy.sub q1 (M := 150) ⟨by have := gb.1; have := p.2; have := q2.2; grind, by have := gb.2; have := p.1; have := q2.1; grind⟩ (big60 (by decide +kernel))
      have s2 := s2.mono (e64_le (M := 150) (by decide +kernel) (by decide +kernel))
      have ej : ((j + 1 : Nat) : Rat) = (j : Rat) + 1 := by push_cast; rfl
      obtain ⟨y', g', e1, e2, e3⟩ := ih (j + 1) _ s (by omega) s1 (by
        show Ab (s - (vl (b.getD i none) - (rs (fun k => vl (gm none L n i k) * vl (x.getD k none)) j + vl (gm none L n i j) * vl (x.getD j none)))) _
        rw [ej]
        exact ⟨by have := s2.1; have := q2.2; have := hg.1; grind, by have := s2.2; have := q2.1; have := hg.2; grind⟩)
      refine ⟨y', g', ?_, e2, e3⟩
      rw [loopM_next (s' := (fop .sub .f64 y (fop .mul .f64 (fwiden (gm none L n i j)) (fwiden (x.getD j none))), ((j + 1 : Nat) : Int))), e1]
      show K22_b2 _ _ L x (i : Int) y (j : Int) = _
      unfold K22_b2 K21
      rw [lx, dlt hj', bsel_true, at?_n none (by omega), obind_eq, K0p_eq _ m hi hj', obind_eq, olet_eq, olet_eq, olet_eq, obind_eq, olet_eq, wsucc (by omega), olet_eq]
  obtain ⟨y, g, e1, e2, e3⟩ := key n 0 (fwiden (b.getD i none)) (vl (b.getD i none)) (by omega) fb.1.rv.widen (by simp only [rs]; exact ⟨by simp; grind, by simp; grind⟩)
  have nr : (n : Rat) ≤ 5 := by exact_mod_cast n5
  exact ⟨y, g, e1, e2, e3.mono (by grind)⟩
theorem long_ok {n : Nat} {L x b : List F} (m : Mat n n L) (n0 : 0 < n) (n5 : n ≤ 5) (fe : ∀ i k, i < n → k < n → Fv (gm none L n i k) ∧ Ab (vl (gm none L n i k)) 8) (lx : x.length = n) (lb : b.length = n) (fx : ∀ i, i < n → Fv (x.getD i none) ∧ Ab (vl (x.getD i none)) (21 / 10)) (fb : ∀ i, i < n → Fv (b.getD i none) ∧ Ab (vl (b.getD i none)) 4)
    (hr : ∀ i, i < n → Ab (rs (fun k => vl (gm none L n i k) * vl (x.getD k none)) n - vl (b.getD i none)) (429 / 1000000)) :
    ∃ R, K23 (n : Int) (n : Int) L x b = some (true, R) ∧ R.length = n ∧ ∀ i, i < n → Fv (R.getD i none) ∧ Ab (vl (R.getD i none)) (43 / 100000) ∧ Ab (vl (R.getD i none) + (rs (fun k => vl (gm none L n i k) * vl (x.getD k none)) n - vl (b.getD i none))) (2 / 100000000) := by
  have row : ∀ i, i < n → ∃ y z, loopM (K22_s2 (n : Int) (n : Int) L x (i : Int)) (fwiden (b.getD i none), 0) = some (.inl y) ∧ fnarrow y = some z ∧ Fv z ∧ Ab (vl z) (43 / 100000) ∧ Ab (vl z + (rs (fun k => vl (gm none L n i k) * vl (x.getD k none)) n - vl (b.getD i none))) (2 / 100000000) := fun i hi => by
    obtain ⟨y, g, e1, e2, e3⟩ := long_row m n5 hi fe lx fx (fb i hi)
    have r := hr i hi
    obtain ⟨w, z, z1, z2, z3⟩ := e2.narrow (M := 4295 / 10000000) ⟨by have := e3.1; have := r.2; grind, by have := e3.2; have := r.1; grind⟩ (big60 (by decide +kernel))
    have z3 := z3.mono (Rat.le_trans (er_le _) (show e32 (4295 / 10000000) ≤ 1 / 1000000000 by decide +kernel))
    refine ⟨y, z, e1, z1, z2.fv, ?_, ?_⟩
    · rw [z2.vl]; exact ⟨by have := z3.1; have := e3.1; have := r.2; grind, by have := z3.2; have := e3.2; have := r.1; grind⟩
    · rw [z2.vl]; exact ⟨by have := z3.1; have := e3.1; grind, by have := z3.2; have := e3.2; grind⟩
  have chs : ∀ i, ∃ z : F, i < n → ∃ y, loopM (K22_s2 (n : Int) (n : Int) L x (i : Int)) (fwiden (b.getD i none), 0) = some (.inl y) ∧ fnarrow y = some z ∧ Fv z ∧ Ab (vl z) (43 / 100000) ∧ Ab (vl z + (rs (fun k => vl (gm none L n i k) * vl (x.getD k none)) n - vl (b.getD i none))) (2 / 100000000) := fun i => by
    by_cases hi : i < n
    · obtain ⟨y, z, h⟩ := row i hi; exact ⟨z, fun _ => ⟨y, h⟩⟩
    · exact ⟨none, fun h => absurd h hi⟩
  obtain ⟨r, hrr⟩ := Classical.axiomOfChoice chs
  have lR : ((List.range n).map r).length = n := by simp
  have gR : ∀ i, i < n → ((List.range n).map r).getD i none = r i := fun i hi => getD_mapR _ hi
  have fR : ∀ i, i < n → Fv (((List.range n).map r).getD i none) := fun i hi => by rw [gR i hi]; obtain ⟨y, _, _, h, _⟩ := hrr i hi; exact h
  have e : loopM (K22_s3 (n : Int) (n : Int) L x b) ([], 0) = some (.inl ((List.range n).map r)) := by
    refine loop_go (step := K22_s3 (n : Int) (n : Int) L x b) (fun j : Nat => ((List.range j).map r, (j : Int))) n 0 (fun j _ hj => ?_) ?_
    · have hj : j < n := by omega
      obtain ⟨y, y1, y2, _⟩ := hrr j hj
      show K22_b3 _ _ L x b _ (j : Int) = _
      unfold K22_b3
      rw [dlt hj, bsel_true, at?_n none (by omega), obind_eq, olet_eq, y1, obind_eq, osum_inl]
      unfold K22_k2
      rw [y2, obind_eq, show apok 4 ((List.range j).map r).length 1 = true from by simp [apok]; omega, need_true, wsucc (by omega), olet_eq, List.range_succ, List.map_append]
      rfl
    · show K22_b3 _ _ L x b _ ((0 + n : Nat) : Int) = _
      unfold K22_b3
      rw [Nat.zero_add, dnlt, bsel_false]
  have aL : ∀ z ∈ L, Fv z := fun z hz => by
    obtain ⟨i, k, hi, hk, rfl⟩ := mem_gm m hz
    exact (fe i k hi hk).1
  have ax := all_of_getD lx fun i hi => (fx i hi).1
  have ab := all_of_getD lb fun i hi => (fb i hi).1
  have vec : ∀ y : List F, y.length = n → (∀ z ∈ y, Fv z) → K1x y = some true := fun y ly fy => by
    rw [K1x_eq (fun z hz => (fy z hz).fok) (by omega)]
    unfold vecB
    rw [ly, decide_eq_true (by omega), decide_eq_true (by omega), List.all_eq_true.2 fun z hz => (fy z hz).fin]; rfl
  refine ⟨(List.range n).map r, ?_, lR, fun i hi => ?_⟩
  · unfold K23 K0a K22
    rw [K0k_eq _ _ (fun z hz => (aL z hz).fok) m.le, mat_valid m n0 n0, List.all_eq_true.2 fun z hz => (aL z hz).fin, obind_eq, bsel_true, vec x lx ax, obind_eq, bsel_true, vec b lb ab, obind_eq, bsel_true, lb, obind_eq, decide_eq_true rfl, Bool.not_true, bsel_false, lx, obind_eq, decide_eq_true rfl, Bool.not_true, bsel_false, e, obind_eq, osum_inl]
    unfold K22_k3
    rw [obind_eq, allFinite_fv (by omega) (all_of_getD lR fR), obind_eq, osum_inl, obind2_eq, decide_eq_true rfl, need_true]
  · rw [gR i hi]
    obtain ⟨y, _, _, h1, h2, h3⟩ := hrr i hi
    exact ⟨h1, h2, h3⟩
structure RfI (n : Nat) (L b x : List F) (N : List F) (j : Nat) : Prop where
  lx : x.length = n
  fx : ∀ i, i < n → Fv (x.getD i none) ∧ Ab (vl (x.getD i none)) (21 / 10)
  hr : ∀ i, i < n → Ab (rs (fun k => vl (gm none L n i k) * vl (x.getD k none)) n - vl (b.getD i none)) (429 / 1000000)
  lN : N.length = j
  fN : ∀ y ∈ N, Fv y ∧ 0 ≤ vl y ∧ vl y ≤ 99 / 100000
theorem refine_step {n : Nat} {L M b x N : List F} {j t : Nat} (hL : SqM n L) (n0 : 0 < n) (H : TrF n (fun i k => vl (gm none L n i k)) M) (HT : LuT n (fun i k => vl (gm none L n i k)) n M) (T : LTab n (fun i k => vl (gm none L n i k)))
    (lb : b.length = n) (fb : ∀ i, i < n → Fv (b.getD i none) ∧ Ab (vl (b.getD i none)) 4) (h : RfI n L b x N j) (hj : j < t) (ht : t ≤ 8) (r9 : List F) (l9 : r9.length = n) :
    ∃ x' N', RfI n L b x' N' (j + 1) ∧ K28_s3 (n : Int) (n : Int) L b (t : Int) (n : Int) (n : Int) M (upTo n) r9 (x, N, (j : Int)) = some (.next (x', N', ((j + 1 : Nat) : Int))) := by
  have n5 := T.n5
  have fe : ∀ i k, i < n → k < n → Fv (gm none L n i k) ∧ Ab (vl (gm none L n i k)) 8 := fun i k hi hk => by
    obtain ⟨f1, f2, f3⟩ := sqE_fv (hL.e i k hi hk)
    refine ⟨f1, ?_⟩
    by_cases e : i = k
    · obtain ⟨a, b⟩ := f2 e; exact ⟨by grind, b⟩
    · exact (f3 e).mono (by decide)
  obtain ⟨R, eR, lR, hR⟩ := long_ok hL.m n0 n5 fe h.lx lb h.fx fb h.hr
  have fR4 : ∀ i, i < n → Fv (R.getD i none) ∧ Ab (vl (R.getD i none)) 4 := fun i hi => ⟨(hR i hi).1, (hR i hi).2.1.mono (by decide +kernel)⟩
  obtain ⟨x1, x2, x3⟩ := solve_fine H HT T n0 lR fR4
  have es := K20_fv H n0 lR (all_of_getD lR fun i hi => (hR i hi).1) x1
  generalize upL (upH n M) n (lowL (rowH n M) R n) = Y at *
  obtain ⟨y, ey, fy, y0, y1⟩ := norm_ok lR n5 fun i hi => ⟨(hR i hi).1, (hR i hi).2.1⟩
  have fY : ∀ i, i < n → Fv (Y.getD i none) := fun i hi => x1 _ (getD_mem (by omega))
  have nw : ∀ i, i < n → Fv (fop .add .f32 (x.getD i none) (Y.getD i none)) ∧ Ab (vl (fop .add .f32 (x.getD i none) (Y.getD i none)) - (vl (x.getD i none) + vl (Y.getD i none))) (5 / 10000000) := fun i hi => by
    have s := (h.fx i hi).2.add (x3 i hi).1
    obtain ⟨a1, a2⟩ := fv_add (h.fx i hi).1 (fY i hi) s (by decide +kernel)
    exact ⟨a1, a2.mono (by decide +kernel)⟩
  have lX : ((List.range n).map fun i => fop .add .f32 (x.getD i none) (Y.getD i none)).length = n := by simp
  have gX : ∀ i, i < n → ((List.range n).map fun i => fop .add .f32 (x.getD i none) (Y.getD i none)).getD i none = fop .add .f32 (x.getD i none) (Y.getD i none) := fun i hi => getD_mapR _ hi
  have eL := setLoop (step := K28_s2 r9 Y) (g := fun i z => fop .add .f32 z (Y.getD i none)) h.lx (fun q M' hq hM => by
    show K28_b2 r9 Y M' (q : Int) = _
    unfold K28_b2
    rw [l9, dlt hq, bsel_true, at?_n none (by omega), obind_eq, at?_n none (by omega), obind_eq, olet_eq, setAt?_n _ (by omega), obind_eq, wsucc (by omega), olet_eq]) (fun M' hM => by
    show K28_b2 r9 Y M' (n : Int) = _
    unfold K28_b2
    rw [l9, dnlt, bsel_false])
  generalize ((List.range n).map fun i => fop .add .f32 (x.getD i none) (Y.getD i none)) = X at *
  have res : ∀ i, i < n → Ab (rs (fun k => vl (gm none L n i k) * vl (X.getD k none)) n - vl (b.getD i none)) (429 / 1000000) := fun i hi => by
    have d := rs_ab (n := n) (f := fun k => vl (gm none L n i k) * (vl (X.getD k none) - (vl (x.getD k none) + vl (Y.getD k none)))) (e := 8 * (5 / 10000000)) fun k hk => by
      have := (nw k hk).2
      rw [← gX k hk] at this
      exact (fe i k hi hk).2.mul this
    have d2 : Ab (rs (fun k => vl (gm none L n i k) * (vl (X.getD k none) - (vl (x.getD k none) + vl (Y.getD k none)))) n) (6 / 1000000 + 0) := by
      -- one great entry and the small ones
      have rb := row_bound (p := fun k => vl (gm none L n i k)) (g := fun k => vl (X.getD k none) - (vl (x.getD k none) + vl (Y.getD k none))) (d := 8) (β := 1) (e := 5 / 10000000) hi n5 (fe i i hi hi).2 (fun k hk hne => (sqE_fv (hL.e i k hi hk)).2.2 fun e => hne e.symm) (fun k hk => by
        have := (nw k hk).2
        rw [← gX k hk] at this; exact this) (by decide)
      exact rb.mono (by decide +kernel)
    have e1 : rs (fun k => vl (gm none L n i k) * vl (X.getD k none)) n = rs (fun k => vl (gm none L n i k) * vl (x.getD k none)) n + rs (fun k => vl (gm none L n i k) * vl (Y.getD k none)) n + rs (fun k => vl (gm none L n i k) * (vl (X.getD k none) - (vl (x.getD k none) + vl (Y.getD k none)))) n := by
      rw [← rs_add, ← rs_add]
      exact rs_congr fun k _ => by grind
    have r1 := (hR i hi).2.2
    have r2 := (x3 i hi).2
    rw [e1]
    exact ⟨by have := d2.1; have := r1.1; have := r2.1; grind, by have := d2.2; have := r1.2; have := r2.2; grind⟩
  have xb := dom (a := fun i k => vl (gm none L n i k)) (x := fun k => vl (X.getD k none)) (b := fun i => vl (b.getD i none)) (δ := 6) (γ := 1) (C := 4) (ρ := 429 / 1000000) (M := 21 / 10) n0 (fun i hi => (T.dia i hi).1) (fun i k hi hk hne => T.off i k hi hk hne) (by decide) (fun i hi => (fb i hi).2) res (by
    have : ((n - 1 : Nat) : Rat) ≤ 4 := by exact_mod_cast (show n - 1 ≤ 4 by omega)
    grind) (by
    have : ((n - 1 : Nat) : Rat) ≤ 4 := by exact_mod_cast (show n - 1 ≤ 4 by omega)
    grind)
  have fX : ∀ i, i < n → Fv (X.getD i none) := fun i hi => by rw [gX i hi]; exact (nw i hi).1
  have hN : ∀ z ∈ N ++ [y], Fv z ∧ 0 ≤ vl z ∧ vl z ≤ 99 / 100000 := fun z hz => by
    rcases List.mem_append.1 hz with hz | hz
    · exact h.fN z hz
    · rw [List.mem_singleton.1 hz]; exact ⟨fy, y0, y1⟩
  refine ⟨X, N ++ [y], ⟨lX, fun i hi => ⟨fX i hi, xb i hi⟩, res, by simp [h.lN], hN⟩, ?_⟩
  show K28_b3 _ _ L b _ _ _ M (upTo n) r9 x N (j : Int) = _
  unfold K28_b3
  have lN := h.lN
  rw [dlt hj, bsel_true, eR, obind2_eq, bsel_true, es, obind2_eq, bsel_true, ey, obind_eq, show apok 4 N.length 1 = true from by simp [apok]; omega, need_true, eL, obind_eq, osum_inl]
  unfold K28_k2
  rw [areFin_fv lX (by omega) fX, obind_eq, bsel_true, K0j_eq (fun z hz => (hN z hz).1.fok) (by simp; omega), List.all_eq_true.2 fun z hz => (hN z hz).1.fin, obind_eq, bsel_true, wsucc (by omega), olet_eq]
theorem refined_ok {n : Nat} {L M b : List F} {t : Nat} (hL : SqM n L) (n0 : 0 < n) (H : TrF n (fun i k => vl (gm none L n i k)) M) (HT : LuT n (fun i k => vl (gm none L n i k)) n M) (T : LTab n (fun i k => vl (gm none L n i k)))
    (eM : K0w (n : Int) (n : Int) L = some ((n : Int), (n : Int), true, M, upTo n)) (lb : b.length = n) (fb : ∀ i, i < n → Fv (b.getD i none) ∧ Ab (vl (b.getD i none)) 4) (ht : t ≤ 8) :
    ∃ x N, K28 (n : Int) (n : Int) L b (t : Int) = some (true, x, N) ∧ RfI n L b x N t := by
  have n5 := T.n5
  obtain ⟨x1, x2, x3⟩ := solve_fine H HT T n0 lb fb
  have fbm := all_of_getD lb fun i hi => (fb i hi).1
  have es := K20_fv H n0 lb fbm x1
  generalize upL (upH n M) n (lowL (rowH n M) b n) = X at *
  have h0 : RfI n L b X [] 0 := ⟨x2, fun i hi => ⟨x1 _ (getD_mem (by omega)), (x3 i hi).1.mono (by decide +kernel)⟩, fun i hi => (x3 i hi).2.mono (by decide +kernel), rfl, fun y hy => by simp at hy⟩
  have run : ∀ (d j : Nat) (x N : List F), j + d = t → RfI n L b x N j → ∃ x' N', loopM (K28_s3 (n : Int) (n : Int) L b (t : Int) (n : Int) (n : Int) M (upTo n) X) (x, N, (j : Int)) = some (.inl (x', N')) ∧ RfI n L b x' N' t := by
    intro d
    induction d with
    | zero =>
      intro j x N hj h
      have hj : j = t := by omega
      subst hj
      refine ⟨x, N, loopM_out ?_, h⟩
      show K28_b3 _ _ L b _ _ _ M (upTo n) X x N (j : Int) = _
      unfold K28_b3
      rw [dnlt, bsel_false]
    | succ d ih =>
      intro j x N hj h
      obtain ⟨x', N', h1, e1⟩ := refine_step hL n0 H HT T lb fb h (t := t) (by omega) ht X x2
      obtain ⟨x'', N'', e2, h2⟩ := ih (j + 1) x' N' (by omega) h1
      exact ⟨x'', N'', by rw [loopM_next e1, e2], h2⟩
  obtain ⟨x, N, e1, h1⟩ := run t 0 X [] (by omega) h0
  have e1 : loopM (K28_s3 (n : Int) (n : Int) L b (t : Int) (n : Int) (n : Int) M (upTo n) X) (X, [], 0) = _ := e1
  refine ⟨x, N, ?_, h1⟩
  have tk : K1y (n : Int) (n : Int) M (upTo n) b = some true := by
    have vb : K1x b = some true := by
      rw [K1x_eq (fun z hz => (fbm z hz).fok) (by omega)]
      unfold vecB
      rw [lb, decide_eq_true (by omega), decide_eq_true (by omega), List.all_eq_true.2 fun z hz => (fbm z hz).fin]; rfl
    unfold K1y K0a
    rw [K1e_eq _ _ _ (tr_oks H) H.m.le, tr_fac H n0, obind_eq, bsel_true, vb, obind_eq, bsel_true, lb, obind_eq, decide_eq_true rfl]
  unfold K28
  rw [eM, obind5_eq, bsel_true, tk, obind_eq, bsel_true, K08_eq, decide_eq_true (by omega), decide_eq_true (by omega), Bool.and_self, obind_eq, bsel_true, es, obind2_eq, bsel_true, e1, obind_eq, osum_inl]
  rfl
theorem row_abs {n i : Nat} {P : List F} {S : Rat} (m : Mat n n P) (n5 : n ≤ 5) (hi : i < n) (fe : ∀ k, k < n → Fv (gm none P n i k)) (hS : ∀ j, j ≤ n → rs (fun k => vl (fabs32 (gm none P n i k))) j ≤ S) (S13 : S ≤ 13) :
    ∃ y, loopM (K1t_s2 (n : Int) (n : Int) P (i : Int)) (some 0, 0) = some (.inl y) ∧ Fv y ∧ Ab (vl y - rs (fun k => vl (fabs32 (gm none P n i k))) n) (4 / 1000000) := by
  have a0 : ∀ j, j ≤ n → 0 ≤ rs (fun k => vl (fabs32 (gm none P n i k))) j := fun j hj => by
    have := (rs_abw (f := fun _ => 0) (g := fun k => vl (fabs32 (gm none P n i k))) (n := j) fun k hk => by
      have := (fv_abs (fe k (by omega))).2.2
      exact ⟨by grind, this⟩).nonneg
    exact this
  have key : ∀ (d j : Nat) (y : F), j + d = n → Fv y → Ab (vl y - rs (fun k => vl (fabs32 (gm none P n i k))) j) ((j : Rat) * (8 / 10000000)) → ∃ y', loopM (K1t_s2 (n : Int) (n : Int) P (i : Int)) (y, (j : Int)) = some (.inl y') ∧ Fv y' ∧ Ab (vl y' - rs (fun k => vl (fabs32 (gm none P n i k))) n) ((n : Rat) * (8 / 10000000)) := by
    intro d
    induction d with
    | zero =>
      intro j y hj hy hg
      have hj : j = n := by omega
      subst hj
      refine ⟨y, loopM_out ?_, hy, hg⟩
      show K1t_b2 _ _ P (i : Int) y (j : Int) = _
      unfold K1t_b2
      rw [dnlt, bsel_false]
    | succ d ih =>
      intro j y hj hy hg
      have hj' : j < n := by omega
      obtain ⟨f1, _, f3⟩ := fv_abs (fe j hj')
      have jr : (j : Rat) ≤ 5 := by exact_mod_cast (show j ≤ 5 by omega)
      have s1 := hS (j + 1) (by omega)
      have s1 : rs (fun k => vl (fabs32 (gm none P n i k))) j + vl (fabs32 (gm none P n i j)) ≤ S := s1
      have s0 := a0 j (by omega)
      obtain ⟨b1, b2⟩ := fv_addh hy f1 (M := 13001 / 1000) ⟨by have := hg.1; grind, by have := hg.2; grind⟩ (by decide +kernel)
      have b2 := b2.mono (show h32 (13001 / 1000) ≤ 8 / 10000000 by decide +kernel)
      have ej : ((j + 1 : Nat) : Rat) = (j : Rat) + 1 := by push_cast; rfl
      obtain ⟨y', e1, e2, e3⟩ := ih (j + 1) _ (by omega) b1 (by
        show Ab (vl _ - (rs (fun k => vl (fabs32 (gm none P n i k))) j + vl (fabs32 (gm none P n i j)))) _
        rw [ej]
        exact ⟨by have := b2.1; have := hg.1; grind, by have := b2.2; have := hg.2; grind⟩)
      refine ⟨y', ?_, e2, e3⟩
      rw [loopM_next (s' := (fop .add .f32 y (fabs32 (gm none P n i j)), ((j + 1 : Nat) : Int))), e1]
      show K1t_b2 _ _ P (i : Int) y (j : Int) = _
      unfold K1t_b2
      rw [dlt hj', bsel_true, K0p_eq _ m hi hj', obind_eq, K0q_eq (fe j hj').fok, obind_eq, olet_eq, wsucc (by have := m.A1; omega), olet_eq]
  obtain ⟨y, e1, e2, e3⟩ := key n 0 (some 0) (by omega) fv_zero.1 (by rw [fv_zero.2]; simp only [rs]; exact ⟨by simp; grind, by simp; grind⟩)
  have nr : (n : Rat) ≤ 5 := by exact_mod_cast n5
  exact ⟨y, e1, e2, e3.mono (by grind)⟩
theorem rowNorm_fv {n : Nat} {P : List F} {S : Rat} (m : Mat n n P) (n5 : n ≤ 5) (fe : ∀ i k, i < n → k < n → Fv (gm none P n i k)) (hS : ∀ i j, i < n → j ≤ n → rs (fun k => vl (fabs32 (gm none P n i k))) j ≤ S) (S13 : S ≤ 13) (S0 : 0 ≤ S) :
    ∃ y, K1t (n : Int) (n : Int) P = some y ∧ Fv y ∧ 0 ≤ vl y ∧ vl y ≤ S + 4 / 1000000 ∧ ∀ i, i < n → rs (fun k => vl (fabs32 (gm none P n i k))) n ≤ vl y + 4 / 1000000 := by
  have key : ∀ (d i : Nat) (y : F), i + d = n → Fv y → 0 ≤ vl y → vl y ≤ S + 4 / 1000000 → (∀ q, q < i → rs (fun k => vl (fabs32 (gm none P n q k))) n ≤ vl y + 4 / 1000000) → ∃ y', loopM (K1t_s3 (n : Int) (n : Int) P) (y, (i : Int)) = some (.inl y') ∧ Fv y' ∧ 0 ≤ vl y' ∧ vl y' ≤ S + 4 / 1000000 ∧ ∀ i, i < n → rs (fun k => vl (fabs32 (gm none P n i k))) n ≤ vl y' + 4 / 1000000 := by
    intro d
    induction d with
    | zero =>
      intro i y hi hy y0 y1 hq
      have hi : i = n := by omega
      subst hi
      refine ⟨y, loopM_out ?_, hy, y0, y1, hq⟩
      show K1t_b3 _ _ P y (i : Int) = _
      unfold K1t_b3
      rw [dnlt, bsel_false]
    | succ d ih =>
      intro i y hi hy y0 y1 hq
      have hi' : i < n := by omega
      obtain ⟨s, e1, f1, g1⟩ := row_abs m n5 hi' (fun k hk => fe i k hi' hk) (fun j hj => hS i j hi' hj) S13
      obtain ⟨z, z1, z2, z3, z4, z5⟩ := fmaxN_fv hy f1
      have sS := hS i n hi' (Nat.le_refl _)
      obtain ⟨y', e2, r⟩ := ih (i + 1) z (by omega) z2 (by grind) (by
        rcases z5 with h | h
        · rw [h]; exact y1
        · rw [h]; have := g1.2; grind) (fun q hq' => by
        by_cases e : q = i
        · rw [e]; have := g1.1; grind
        · have := hq q (by omega); grind)
      refine ⟨y', ?_, r⟩
      rw [loopM_next (s' := (z, ((i + 1 : Nat) : Int))), e2]
      show K1t_b3 _ _ P y (i : Int) = _
      unfold K1t_b3
      rw [dlt hi', bsel_true, e1, obind_eq, osum_inl]
      unfold K1t_k2
      rw [z1, obind_eq, wsucc (by have := m.A1; omega), olet_eq]
  obtain ⟨y, e, r⟩ := key n 0 (some 0) (by omega) fv_zero.1 (by rw [fv_zero.2]; exact Rat.le_refl) (by rw [fv_zero.2]; grind) (fun q hq => by omega)
  refine ⟨y, ?_, r⟩
  unfold K1t
  have e : loopM (K1t_s3 (n : Int) (n : Int) P) (some 0, 0) = _ := e
  rw [e, obind_eq, osum_inl]; rfl
theorem colNorm_fv {n : Nat} {P : List F} {S : Rat} (m : Mat n n P) (n0 : 0 < n) (n5 : n ≤ 5) (fe : ∀ i k, i < n → k < n → Fv (gm none P n i k)) (hS : ∀ i j, i < n → j ≤ n → rs (fun k => vl (fabs32 (gm none P n k i))) j ≤ S) (S13 : S ≤ 13) (S0 : 0 ≤ S) :
    ∃ y, K1v (n : Int) (n : Int) P = some (y, true) ∧ Fv y ∧ 0 ≤ vl y ∧ vl y ≤ S + 4 / 1000000 ∧ ∀ i, i < n → rs (fun k => vl (fabs32 (gm none P n k i))) n ≤ vl y + 4 / 1000000 := by
  have hn := m.A1
  have g : ∀ i k, i < n → k < n → gm none (flipM n P) n i k = gm none P n k i := fun i k hi hk => flipM_gm hn hi hk
  have cg : ∀ i j, i < n → j ≤ n → rs (fun k => vl (fabs32 (gm none (flipM n P) n i k))) j = rs (fun k => vl (fabs32 (gm none P n k i))) j := fun i j hi hj => rs_congr fun k hk => by rw [g i k hi (by omega)]
  obtain ⟨y, e1, e2, e3, e4, e5⟩ := rowNorm_fv (flipM_mat (P := P) hn) n5 (fun i k hi hk => by rw [g i k hi hk]; exact fe k i hk hi) (fun i j hi hj => by rw [cg i j hi hj]; exact hS i j hi hj) S13 S0
  refine ⟨y, ?_, e2, e3, e4, fun i hi => by rw [← cg i n hi (Nat.le_refl _)]; exact e5 i hi⟩
  have aP : ∀ z ∈ P, Fv z := fun z hz => by
    obtain ⟨i, k, hi, hk, rfl⟩ := mem_gm m hz
    exact fe i k hi hk
  unfold K1v K1u
  rw [K0k_eq _ _ (fun z hz => (aP z hz).fok) m.le, mat_valid m n0 n0, List.all_eq_true.2 fun z hz => (aP z hz).fin, obind_eq, bsel_true, K1s_eq m, obind3_eq, e1, obind_eq, K0f_eq e2.fok, e2.fin, obind_eq, bsel_true, obind2_eq]
theorem one_of_sum {f : Nat → Rat} {n : Nat} : ∀ {k : Nat}, k < n → (∀ j, j < n → 0 ≤ f j) → f k ≤ rs f n
  | k, hk, h => by
    have e := rs_delta f k n
    rw [if_pos hk] at e
    have d := rs_sub f (fun j => f j * (if j = k then 1 else 0)) n
    have p := (rs_abw (f := fun _ => 0) (g := fun j => f j - f j * (if j = k then 1 else 0)) (n := n) fun j hj => by
      have := h j hj
      by_cases e : j = k
      · rw [if_pos e]; exact ⟨by grind, by grind⟩
      · rw [if_neg e]; exact ⟨by grind, by grind⟩).nonneg
    rw [d, e] at p
    grind
theorem cond_ok {n : Nat} {L M : List F} (hL : SqM n L) (n0 : 0 < n) (H : TrF n (fun i k => vl (gm none L n i k)) M) (HT : LuT n (fun i k => vl (gm none L n i k)) n M) (T : LTab n (fun i k => vl (gm none L n i k)))
    (eM : K0w (n : Int) (n : Int) L = some ((n : Int), (n : Int), true, M, upTo n)) : ∃ y, K1w (n : Int) (n : Int) L = some (y, true) ∧ Fv y ∧ 9991 / 10000 ≤ vl y := by
  have n5 := T.n5
  have hn := H.m.A1
  obtain ⟨eI, mI, fI, _⟩ := inv_near hL n0 H T
  have sp : ∀ k, k < n → solP n M (upTo n) k = upL (upH n M) n (lowL (rowH n M) (unitC n k) n) := fun k hk => by unfold solP; rw [ordC_upTo unitC_len]
  have S : ∀ k, k < n → _ := fun k hk => solve_fine H HT T n0 (b := unitC n k) unitC_len (fun i hi => by rw [unitC_at hk hi]; exact unitF_fv i k)
  have gI : ∀ i k, i < n → k < n → gm none (invM n M (upTo n)) n i k = (upL (upH n M) n (lowL (rowH n M) (unitC n k) n)).getD i none := fun i k hi hk => by rw [invM_gm hn i k hi hk, sp k hk]
  have feI : ∀ i k, i < n → k < n → Fv (gm none (invM n M (upTo n)) n i k) := fun i k hi hk => by
    obtain ⟨s1, s2, _⟩ := S k hk
    rw [gI i k hi hk]; exact s1 _ (getD_mem (by omega))
  have feL : ∀ i k, i < n → k < n → Fv (gm none L n i k) := fun i k hi hk => (sqE_fv (hL.e i k hi hk)).1
  have absb : ∀ (x : F) (c : Rat), Fv x → Ab (vl x) c → vl (fabs32 x) ≤ c := fun x c hx hc => by
    obtain ⟨_, f2, _⟩ := fv_abs hx
    rcases f2 with e | e
    · rw [e]; exact hc.2
    · rw [e]; have := hc.1; grind
  have absg : ∀ (x : F), Fv x → Ab (vl x) (vl (fabs32 x)) := fun x hx => by
    obtain ⟨_, f2, f3⟩ := fv_abs hx
    rcases f2 with e | e
    · rw [e] at f3 ⊢; exact ⟨by grind, Rat.le_refl⟩
    · rw [e] at f3 ⊢; exact ⟨by grind, by grind⟩
  have nr : (n : Rat) ≤ 5 := by exact_mod_cast n5
  -- the sums of columns
  have sL : ∀ i j, i < n → j ≤ n → rs (fun k => vl (fabs32 (gm none L n k i))) j ≤ 12 := fun i j hi hj => by
    have h : ∀ k, k < j → Ab (vl (fabs32 (gm none L n k i))) (1 + 7 * (if k = i then 1 else 0)) := fun k hk => by
      obtain ⟨f1, f2, f3⟩ := sqE_fv (hL.e k i (by omega) hi)
      have p := (fv_abs f1).2.2
      by_cases e : k = i
      · rw [if_pos e]
        obtain ⟨a, b⟩ := f2 e
        have := absb _ 8 f1 ⟨by grind, b⟩
        exact ⟨by grind, by grind⟩
      · rw [if_neg e]
        have := absb _ 1 f1 (f3 e)
        exact ⟨by grind, by grind⟩
    have r := (rs_abw h).2
    have e1 := rs_delta (fun _ => 7) i j
    rw [rs_add, rs_const, e1] at r
    have jr : (j : Rat) ≤ 5 := by exact_mod_cast (show j ≤ 5 by omega)
    have : (if i < j then (7 : Rat) else 0) ≤ 7 := by split <;> decide
    grind
  have sI : ∀ i j, i < n → j ≤ n → rs (fun k => vl (fabs32 (gm none (invM n M (upTo n)) n k i))) j ≤ 1005 / 100 := fun i j hi hj => by
    have r := (rs_ab (n := j) (f := fun k => vl (fabs32 (gm none (invM n M (upTo n)) n k i))) (e := 201 / 100) fun k hk => by
      have p := (fv_abs (feI k i (by omega) hi)).2.2
      have q := absb _ (201 / 100) (feI k i (by omega) hi) (by rw [gI k i (by omega) hi]; exact ((S i hi).2.2 k (by omega)).1)
      exact ⟨by grind, q⟩).2
    have jr : (j : Rat) ≤ 5 := by exact_mod_cast (show j ≤ 5 by omega)
    grind
  obtain ⟨c1, a1, a2, a3, a4, a5⟩ := colNorm_fv hL.m n0 n5 feL sL (by decide) (by decide)
  obtain ⟨c2, b1, b2, b3, b4, b5⟩ := colNorm_fv mI n0 n5 feI sI (by decide +kernel) (by decide +kernel)
  -- the first column of the inverse
  have r0 := ((S 0 n0).2.2 0 n0).2
  rw [unitC_at n0 n0] at r0
  have u00 : vl (unitF 0 0) = 1 := by
    have : unitF 0 0 = some 1065353216 := rfl
    rw [this]; exact one_f32.2
  rw [u00] at r0
  rw [rs_congr (g := fun k => vl (gm none L n 0 k) * vl (gm none (invM n M (upTo n)) n k 0)) fun k hk => by rw [gI k 0 hk n0]] at r0
  have entry : ∀ k, k < n → Ab (vl (gm none L n 0 k)) (vl c1 + 4 / 1000000) := fun k hk => by
    have o := one_of_sum (f := fun i => vl (fabs32 (gm none L n i k))) (k := 0) n0 fun j hj => (fv_abs (feL j k hj hk)).2.2
    have := a5 k hk
    exact (absg _ (feL 0 k n0 hk)).mono (by grind)
  have prodb : Ab (rs (fun k => vl (gm none L n 0 k) * vl (gm none (invM n M (upTo n)) n k 0)) n) ((vl c1 + 4 / 1000000) * (vl c2 + 4 / 1000000)) := by
    have p := rs_abw (n := n) (f := fun k => vl (gm none L n 0 k) * vl (gm none (invM n M (upTo n)) n k 0)) (g := fun k => (vl c1 + 4 / 1000000) * vl (fabs32 (gm none (invM n M (upTo n)) n k 0))) fun k hk => (entry k hk).mul (absg _ (feI k 0 hk n0))
    rw [rs_mul] at p
    exact p.mono (Rat.mul_le_mul_of_nonneg_left (b5 0 n0) (by grind))
  have low : 9993 / 10000 ≤ vl c1 * vl c2 := by
    have := prodb.2
    have := r0.1
    grind
  have up := Rat.mul_le_mul_of_nonneg_right a4 b3
  obtain ⟨m1, m2⟩ := fv_mul a2 b2 (M := 200) ⟨by grind, by
    have := Rat.mul_le_mul_of_nonneg_left b4 (show (0 : Rat) ≤ 12 + 4 / 1000000 by decide +kernel)
    grind⟩ (by decide +kernel)
  have m2 := m2.mono (show e32 200 ≤ 3 / 100000 by decide +kernel)
  refine ⟨_, ?_, m1, by have := m2.1; grind⟩
  unfold K1w K0u K1u
  rw [eM, obind5_eq, bsel_true, eI, obind4_eq, bsel_true, a1, obind2_eq, bsel_true, b1, obind2_eq, bsel_true, olet_eq, obind_eq, K0f_eq m1.fok, m1.fin, obind_eq, bsel_true, obind2_eq]
theorem ord_1 : ordB [(0 : Int)] = true := by decide +kernel
theorem ord_2 : ∀ a : Nat, a < 2 → ∀ b : Nat, b < 2 → a ≠ b → ordB [(a : Int), (b : Int)] = true := by decide +kernel
theorem ord_3 : ∀ a : Nat, a < 3 → ∀ b : Nat, b < 3 → ∀ c : Nat, c < 3 → (a ≠ b ∧ a ≠ c ∧ b ≠ c) → ordB [(a : Int), (b : Int), (c : Int)] = true := by decide +kernel
def ordC4 : Bool := (List.range 4).all fun a => (List.range 4).all fun b => (List.range 4).all fun c => (List.range 4).all fun d => (a == b || (a == c || (a == d || (b == c || (b == d || c == d))))) || ordB [(a : Int), (b : Int), (c : Int), (d : Int)]
theorem ordC4_ok : ordC4 = true := by decide +kernel
theorem ord_4 (a : Nat) (ha : a < 4) (b : Nat) (hb : b < 4) (c : Nat) (hc : c < 4) (d : Nat) (hd : d < 4) (h : a ≠ b ∧ a ≠ c ∧ a ≠ d ∧ b ≠ c ∧ b ≠ d ∧ c ≠ d) : ordB [(a : Int), (b : Int), (c : Int), (d : Int)] = true := by
  have t := List.all_eq_true.1 (List.all_eq_true.1 (List.all_eq_true.1 (List.all_eq_true.1 ordC4_ok a (List.mem_range.2 ha)) b (List.mem_range.2 hb)) c (List.mem_range.2 hc)) d (List.mem_range.2 hd)
  simp only [Bool.or_eq_true, beq_iff_eq] at t
  rcases t with t | t
  · omega
  · exact t
def ordC5 : Bool := (List.range 5).all fun a => (List.range 5).all fun b => (List.range 5).all fun c => (List.range 5).all fun d => (List.range 5).all fun e => (a == b || (a == c || (a == d || (a == e || (b == c || (b == d || (b == e || (c == d || (c == e || d == e))))))))) || ordB [(a : Int), (b : Int), (c : Int), (d : Int), (e : Int)]
theorem ordC5_ok : ordC5 = true := by decide +kernel
theorem ord_5 (a : Nat) (ha : a < 5) (b : Nat) (hb : b < 5) (c : Nat) (hc : c < 5) (d : Nat) (hd : d < 5) (e : Nat) (he : e < 5) (h : a ≠ b ∧ a ≠ c ∧ a ≠ d ∧ a ≠ e ∧ b ≠ c ∧ b ≠ d ∧ b ≠ e ∧ c ≠ d ∧ c ≠ e ∧ d ≠ e) : ordB [(a : Int), (b : Int), (c : Int), (d : Int), (e : Int)] = true := by
  have t := List.all_eq_true.1 (List.all_eq_true.1 (List.all_eq_true.1 (List.all_eq_true.1 (List.all_eq_true.1 ordC5_ok a (List.mem_range.2 ha)) b (List.mem_range.2 hb)) c (List.mem_range.2 hc)) d (List.mem_range.2 hd)) e (List.mem_range.2 he)
  simp only [Bool.or_eq_true, beq_iff_eq] at t
  rcases t with t | t
  · omega
  · exact t
theorem ord_perm {n : Nat} {o : List Int} (n0 : 0 < n) (n5 : n ≤ 5) (hl : o.length = n) (nn : ∀ i, i < n → 0 ≤ o.getD i 0) (lt : ∀ i, i < n → oat o i < n) (inj : ∀ i j, i < n → j < n → oat o i = oat o j → i = j) : ordB o = true := by
  have ne : ∀ i j, i < n → j < n → i ≠ j → oat o i ≠ oat o j := fun i j hi hj hne e => hne (inj i j hi hj e)
  match o, hl with
  | [], hl => simp at hl; omega
  | [a], hl =>
    have hn : n = 1 := by simpa using hl.symm
    subst hn
    have a0 : 0 ≤ a := nn 0 (by decide)
    have a1 : a.toNat < 1 := lt 0 (by decide)
    have : a = 0 := by omega
    rw [this]; exact ord_1
  | [a, b], hl =>
    have hn : n = 2 := by simpa using hl.symm
    subst hn
    have a0 : 0 ≤ a := nn 0 (by decide)
    have b0 : 0 ≤ b := nn 1 (by decide)
    have := ord_2 a.toNat (lt 0 (by decide)) b.toNat (lt 1 (by decide)) (ne 0 1 (by decide) (by decide) (by decide))
    rw [show ((a.toNat : Nat) : Int) = a from by omega, show ((b.toNat : Nat) : Int) = b from by omega] at this
    exact this
  | [a, b, c], hl =>
    have hn : n = 3 := by simpa using hl.symm
    subst hn
    have a0 : 0 ≤ a := nn 0 (by decide)
    have b0 : 0 ≤ b := nn 1 (by decide)
    have c0 : 0 ≤ c := nn 2 (by decide)
    have := ord_3 a.toNat (lt 0 (by decide)) b.toNat (lt 1 (by decide)) c.toNat (lt 2 (by decide)) ⟨ne 0 1 (by decide) (by decide) (by decide), ne 0 2 (by decide) (by decide) (by decide), ne 1 2 (by decide) (by decide) (by decide)⟩
    rw [show ((a.toNat : Nat) : Int) = a from by omega, show ((b.toNat : Nat) : Int) = b from by omega, show ((c.toNat : Nat) : Int) = c from by omega] at this
    exact this
  | [a, b, c, d], hl =>
    have hn : n = 4 := by simpa using hl.symm
    subst hn
    have a0 : 0 ≤ a := nn 0 (by decide)
    have b0 : 0 ≤ b := nn 1 (by decide)
    have c0 : 0 ≤ c := nn 2 (by decide)
    have d0 : 0 ≤ d := nn 3 (by decide)
    have := ord_4 a.toNat (lt 0 (by decide)) b.toNat (lt 1 (by decide)) c.toNat (lt 2 (by decide)) d.toNat (lt 3 (by decide)) ⟨ne 0 1 (by decide) (by decide) (by decide), ne 0 2 (by decide) (by decide) (by decide), ne 0 3 (by decide) (by decide) (by decide), ne 1 2 (by decide) (by decide) (by decide), ne 1 3 (by decide) (by decide) (by decide), ne 2 3 (by decide) (by decide) (by decide)⟩
    rw [show ((a.toNat : Nat) : Int) = a from by omega, show ((b.toNat : Nat) : Int) = b from by omega, show ((c.toNat : Nat) : Int) = c from by omega, show ((d.toNat : Nat) : Int) = d from by omega] at this
    exact this
  | [a, b, c, d, e], hl =>
    have hn : n = 5 := by simpa using hl.symm
    subst hn
    have a0 : 0 ≤ a := nn 0 (by decide)
    have b0 : 0 ≤ b := nn 1 (by decide)
    have c0 : 0 ≤ c := nn 2 (by decide)
    have d0 : 0 ≤ d := nn 3 (by decide)
    have e0 : 0 ≤ e := nn 4 (by decide)
    have := ord_5 a.toNat (lt 0 (by decide)) b.toNat (lt 1 (by decide)) c.toNat (lt 2 (by decide)) d.toNat (lt 3 (by decide)) e.toNat (lt 4 (by decide)) ⟨ne 0 1 (by decide) (by decide) (by decide), ne 0 2 (by decide) (by decide) (by decide), ne 0 3 (by decide) (by decide) (by decide), ne 0 4 (by decide) (by decide) (by decide), ne 1 2 (by decide) (by decide) (by decide), ne 1 3 (by decide) (by decide) (by decide), ne 1 4 (by decide) (by decide) (by decide), ne 2 3 (by decide) (by decide) (by decide), ne 2 4 (by decide) (by decide) (by decide), ne 3 4 (by decide) (by decide) (by decide)⟩
    rw [show ((a.toNat : Nat) : Int) = a from by omega, show ((b.toNat : Nat) : Int) = b from by omega, show ((c.toNat : Nat) : Int) = c from by omega, show ((d.toNat : Nat) : Int) = d from by omega, show ((e.toNat : Nat) : Int) = e from by omega] at this
    exact this
  | a :: b :: c :: d :: e :: f :: l, hl => simp at hl; omega
theorem K2v_fv {n : Nat} {L : List F} {o : List Int} (m : Mat n n L) (n0 : 0 < n) (h5 : n ≤ 5) (fL : ∀ x ∈ L, Fv x) (ol : o.length = n) (nn : ∀ i, i < n → 0 ≤ o.getD i 0) (lt : ∀ i, i < n → oat o i < n) (ho : ordB o = true) :
    ∃ R, K2v (n : Int) (n : Int) L o = some ((n : Int), (n : Int), true, R) ∧ Mat n n R ∧ ∀ i k, i < n → k < n → gm none R n i k = gm none L n (oat o i) k := by
  have aL : L.all fin32 = true := List.all_eq_true.2 fun y hy => (fL y hy).fin
  have hl : L.length = n * n := m.len
  have hnn : n * n ≤ 25 := Nat.mul_le_mul h5 h5
  have key : ∀ (d i : Nat) (A : List F), i + d = n → A.length = i * n → (∀ q k, q < i → k < n → A.getD (q * n + k) none = gm none L n (oat o q) k) → ∃ R, loopM (K2v_s1 (n : Int) L o) (A, (i : Int)) = some (.inl R) ∧ R.length = n * n ∧ ∀ q k, q < n → k < n → R.getD (q * n + k) none = gm none L n (oat o q) k := by
    intro d
    induction d with
    | zero =>
      intro i A hi hA h
      have hi : i = n := by omega
      subst hi
      refine ⟨A, loopM_out ?_, hA, h⟩
      show K2v_b1 _ L o A (i : Int) = _
      unfold K2v_b1
      rw [ol, dnlt, bsel_false]
    | succ d ih =>
      intro i A hi hA h
      have hi' : i < n := by omega
      have q1 := lt i hi'
      have o1 : o.getD i 0 = ((oat o i : Nat) : Int) := by unfold oat; have := nn i hi'; omega
      generalize hq : oat o i = q at *
      have h1 : (q + 1) * n ≤ n * n := Nat.mul_le_mul_right _ (by omega)
      have h2 : q * n ≤ (q + 1) * n := Nat.mul_le_mul_right _ (by omega)
      have h3 : i * n ≤ n * n := Nat.mul_le_mul_right _ (by omega)
      have h4 : (q + 1) * n = q * n + n := by rw [Nat.add_mul, Nat.one_mul]
      have sl : sub? L ((q * n : Nat) : Int) (((q + 1) * n : Nat) : Int) = some ((L.take ((q + 1) * n)).drop (q * n)) := sub?_n h2 (by omega)
      have ll : ((L.take ((q + 1) * n)).drop (q * n)).length = n := by rw [List.length_drop, List.length_take, hl]; omega
      have ap : apok 4 A.length ((L.take ((q + 1) * n)).drop (q * n)).length = true := by
        rw [ll, hA]; simp only [apok, Bool.and_eq_true, decide_eq_true_eq]; omega
      obtain ⟨R, e, r1, r2⟩ := ih (i + 1) (A ++ (L.take ((q + 1) * n)).drop (q * n)) (by omega) (by rw [List.length_append, ll, hA, Nat.add_mul, Nat.one_mul]) (fun p k hp hk => by
        by_cases e : p = i
        · subst e
          rw [List.getD_eq_getElem?_getD, List.getElem?_append_right (by omega), hA, show p * n + k - p * n = k from by omega, ← List.getD_eq_getElem?_getD, sub_getD (by omega), hq]
          try rfl
        · have hp' : p < i := by omega
          have : p * n + k < i * n := Nat.lt_of_lt_of_le (show p * n + k < (p + 1) * n by rw [Nat.add_mul, Nat.one_mul]; omega) (Nat.mul_le_mul_right n hp')
          rw [List.getD_eq_getElem?_getD, List.getElem?_append_left (by omega), ← List.getD_eq_getElem?_getD]
          exact h p k hp' hk)
      refine ⟨R, ?_, r1, r2⟩
      rw [loopM_next (s' := (A ++ (L.take ((q + 1) * n)).drop (q * n), ((i + 1 : Nat) : Int))), e]
      show K2v_b1 _ L o A (i : Int) = _
      unfold K2v_b1
      rw [ol, dlt hi', bsel_true, at?_n 0 (by omega), obind_eq, o1, ← Int.natCast_mul, wn (by omega), olet_eq, obind_eq, wsucc (by omega), olet_eq, ← Int.natCast_mul, wn (by omega), olet_eq, sl, obind_eq, ap, need_true, wsucc (by omega), olet_eq]
  obtain ⟨R, e, r1, r2⟩ := key n 0 [] (by omega) (by simp) (fun q k hq => by omega)
  refine ⟨R, ?_, ⟨m.A1, m.C1, r1⟩, fun i k hi hk => r2 i k hi hk⟩
  have e : loopM (K2v_s1 (n : Int) L o) ([], 0) = _ := e
  unfold K2v K03
  rw [K2j_eq _ _ (fun y hy => (fL y hy).fok) m.le, mat_valid m n0 n0, aL, obind_eq, bsel_true, K2e_eq, ho, obind_eq, bsel_true, ol, decide_eq_true rfl, Bool.not_true, bsel_false, obind3_eq, e, obind_eq, osum_inl]
  rfl
theorem i_both_run {n : Nat} {near : F} {L : List F} {o : List Int} (h : FbInv n (L, o, o)) : loopM (K2c_s23 (n : Int) near (n : Int) (n : Int) L o o) (L, o, o, 0, 0) = some (runL (fbStep n near) (fun s => (s.1, s.2.1, s.2.2, (n : Int))) 0 (n - 0) (L, o, o)) :=
  loop_runL (step := K2c_s23 (n : Int) near (n : Int) (n : Int) L o o) fbMk (fbStep n near) (fun s => (s.1, s.2.1, s.2.2, (n : Int))) (fun _ s => FbInv n s) (lo := 0) (n := n) (Nat.zero_le _) h
    (fun k s _ hk hI => ⟨K2c_step L o o h.m.len h.o h.o hk hI, fun s' e => fbStep_inv hI e⟩)
    (fun s _ => by
      show K2c_b23 _ _ _ _ _ _ _ _ _ _ _ _ = _
      unfold K2c_b23
      rw [dnlt, bsel_false])
theorem both_start {n : Nat} {L : List F} {near : F} (m : Mat n n L) (n0 : 0 < n) (fL : ∀ x ∈ L, Fv x) (fn : Fv near) (hn : 0 ≤ vl near) {r : List F × List Int × List Int × Int} (e : runL (fbStep n near) (fun s => (s.1, s.2.1, s.2.2, (n : Int))) 0 n (L, upTo n, upTo n) = .inl r) :
    K2c (n : Int) (n : Int) L near = some ((n : Int), (n : Int), r.2.2.2, true, r.1, r.2.1, r.2.2.1) := by
  have g : FOks L := fun y hy => (fL y hy).fok
  have al : L.all fin32 = true := List.all_eq_true.2 fun y hy => (fL y hy).fin
  have e3 := i_both_run (near := near) (L := L) (o := upTo n) ⟨m, g, al, upTo_len n, upTo_len n⟩
  rw [Nat.sub_zero, e] at e3
  unfold K2c
  rw [K0l_eq _ _ g m.le, mat_valid m n0 n0, al, decide_eq_true rfl, Bool.and_self, obind_eq, bsel_true, K0f_eq fn.fok, fn.fin, obind_eq, bsel_true, fv_lt fn fv_zero.1, fv_zero.2, decide_eq_false (by grind), bsel_false, K0n_eq _ _ m.le, obind3_eq, K0o_eq m.A1, obind_eq, obind_eq, e3, obind_eq, osum_inl]
  rfl
theorem tr_facO {n : Nat} {a : Nat → Nat → Rat} {M : List F} {o : List Int} (H : TrF n a M) (n0 : 0 < n) (ol : o.length = n) (ho : ordB o = true) : facB (n : Int) (n : Int) M o = true := by
  unfold facB
  rw [mat_valid H.m n0 n0, tr_fin H, ho, ol, Int.toNat_natCast, tr_mid H]
  simp
theorem K2y_fo {n : Nat} {a : Nat → Nat → Rat} {M : List F} {o : List Int} (H : TrF n a M) (n0 : 0 < n) (hf : facB (n : Int) (n : Int) M o = true) : K2y (n : Int) (n : Int) M o = some ((n : Int), (n : Int), true, tabM n n (trLo n M)) := by
  have hn := H.m.A1
  unfold K2y
  rw [K1e_eq _ _ _ (tr_oks H) H.m.le, hf, obind_eq, bsel_true, K2x_mk hn hn _ _ _ _ (K := trLo n M) (fun i k hi hk => by
    unfold K2w trLo
    by_cases e : i = k
    · rw [if_pos e, decide_eq_true (by omega), bsel_true]
    · rw [if_neg e, decide_eq_false (by omega), bsel_false]
      by_cases e2 : i < k
      · rw [if_pos e2, decide_eq_true (by omega), bsel_true]
      · rw [if_neg e2, decide_eq_false (by omega), bsel_false, K0p_eq _ H.m hi hk, obind_eq]), obind3_eq]
theorem K32_fo {n : Nat} {a : Nat → Nat → Rat} {M : List F} {o : List Int} (H : TrF n a M) (hf : facB (n : Int) (n : Int) M o = true) : K32 (n : Int) (n : Int) M o = some ((n : Int), (n : Int), true, tabM n n (trUp n M)) := by
  unfold K32
  rw [K1e_eq _ _ _ (tr_oks H) H.m.le, hf, obind_eq, bsel_true, i_upper_fv H.m, obind3_eq]
theorem same_fv {L : List F} {x y : Int} (hl : L.length ≤ 1000) (h : ∀ z ∈ L, Fv z) : K2s x y L x y L = some true := by
  unfold K2s K2r K2q
  rw [decide_eq_true rfl, bsel_true, decide_eq_true rfl, bsel_true, decide_eq_true rfl, Bool.not_true, bsel_false]
  have e : loopM (K2q_s1 L L) 0 = some (.inl ()) := by
    refine loop_go (step := K2q_s1 L L) (fun j : Nat => (j : Int)) L.length 0 (fun j _ hj => ?_) ?_
    · have hj : j < L.length := by omega
      have f := h (L.getD j none) (List.mem_of_getElem? (getD_of_lt none hj))
      have same : K2p (L.getD j none) (L.getD j none) = some true := by
        unfold K2p K2o
        rw [fv_eq f f, decide_eq_true rfl, Bool.not_true, bsel_false]
        obtain ⟨q, n, ⟨b, hb, _⟩, _⟩ := f
        rw [hb, obind_eq, olet_eq, obind_eq, obind_eq, decide_eq_true rfl]
      show K2q_b1 L L (j : Int) = _
      unfold K2q_b1
      rw [dlt hj, bsel_true, at?_n none hj, obind_eq, obind_eq, same, obind_eq, bsel_true, wsucc (by omega), olet_eq]
    · show K2q_b1 L L ((0 + L.length : Nat) : Int) = _
      unfold K2q_b1
      rw [Nat.zero_add, dnlt, bsel_false]
  rw [e, obind_eq, osum_inl]
  rfl
theorem c999 : ∃ q, Rv .f64 q (some 4607173411600762667) ∧ q ≤ 99901 / 100000 := by
  have h : Dy .f64 1074 (fval .f64 4607173411600762667) (some 4607173411600762667) := ⟨_, rfl, by decide +kernel, by decide +kernel, by decide, by rw [show lpn .f64 - 1074 = 0 from by decide]; simp⟩
  exact ⟨_, Rv.of_dy h, by decide +kernel⟩
theorem m001 : Fv (some 981668463) ∧ 999 / 1000000 ≤ vl (some 981668463) := by
  have d : Dy .f32 149 (fval .f32 981668463) (some 981668463) := ⟨_, rfl, by decide +kernel, by decide +kernel, by decide, by rw [show lpn .f32 - 149 = 0 from by decide]; simp⟩
  have := d.fv
  exact ⟨this.1, by rw [this.2]; decide +kernel⟩
theorem thousand : Fv (some 1148846080) ∧ vl (some 1148846080) = 1000 := by
  have d : Dy .f32 0 1000 (some 1148846080) := ⟨_, rfl, by decide +kernel, by decide +kernel, by decide, by decide +kernel⟩
  have := d.fv
  exact ⟨this.1, by rw [this.2]; decide +kernel⟩
theorem refined_last {n : Nat} {L M : List F} {o : List Int} (hL : SqM n L) (n0 : 0 < n) (n5 : n ≤ 5) (ol : o.length = n) (nn : ∀ i, i < n → 0 ≤ o.getD i 0) (lt : ∀ i, i < n → oat o i < n) (ho : ordB o = true) (H : TrF n (fun i j => vl (gm none L n (oat o i) (oat o j))) M) :
    K38_k9 (n : Int) (n : Int) L (n : Int) (n : Int) M o o = some true := by
  have hn : n ≤ 12 := by omega
  have fL : ∀ x ∈ L, Fv x := hL.oks
  have fe : ∀ i k, i < n → k < n → Fv (gm none L n i k) := fun i k hi hk => (sqE_fv (hL.e i k hi hk)).1
  have mF : Mat n n (flipM n L) := flipM_mat hn
  have fF : ∀ x ∈ flipM n L, Fv x := fun x hx => by
    obtain ⟨i, k, hi, hk, rfl⟩ := mem_gm mF hx
    rw [flipM_gm hn hi hk]; exact fe k i hk hi
  obtain ⟨R1, e1, m1, g1⟩ := K2v_fv mF n0 n5 fF ol nn lt ho
  have h1 : ∀ i k, i < n → k < n → gm none R1 n i k = gm none L n k (oat o i) := fun i k hi hk => by rw [g1 i k hi hk, flipM_gm hn (lt i hi) hk]
  have f1 : ∀ x ∈ R1, Fv x := fun x hx => by
    obtain ⟨i, k, hi, hk, rfl⟩ := mem_gm m1 hx
    rw [h1 i k hi hk]; exact fe k _ hk (lt i hi)
  have mB : Mat n n (flipM n R1) := flipM_mat hn
  have h2 : ∀ i k, i < n → k < n → gm none (flipM n R1) n i k = gm none L n i (oat o k) := fun i k hi hk => by rw [flipM_gm hn hi hk, h1 k i hk hi]
  have f2 : ∀ x ∈ flipM n R1, Fv x := fun x hx => by
    obtain ⟨i, k, hi, hk, rfl⟩ := mem_gm mB hx
    rw [h2 i k hi hk]; exact fe i _ hi (lt k hk)
  obtain ⟨R2, e2, m2, g2⟩ := K2v_fv mB n0 n5 f2 ol nn lt ho
  have h3 : ∀ i k, i < n → k < n → gm none R2 n i k = gm none L n (oat o i) (oat o k) := fun i k hi hk => by rw [g2 i k hi hk, h2 _ k (lt i hi) hk]
  have hf := tr_facO H n0 ol ho
  have mLo : Mat n n (tabM n n (trLo n M)) := tabM_mat hn hn
  have mUp : Mat n n (tabM n n (trUp n M)) := tabM_mat hn hn
  have fLo : ∀ x ∈ tabM n n (trLo n M), Fv x := fun x hx => by
    obtain ⟨i, k, hi, hk, rfl⟩ := mem_gm mLo hx
    rw [tabM_gm hn hn hi hk]; exact (trLo_fv H hi hk).1
  have fUp : ∀ x ∈ tabM n n (trUp n M), Fv x := fun x hx => by
    obtain ⟨i, k, hi, hk, rfl⟩ := mem_gm mUp hx
    rw [tabM_gm hn hn hi hk]; exact (trUp_fv H hi hk).1
  unfold K38_k9
  rw [s_flip_fv hL.m n0 fL, obind4_eq, bsel_true, e1, obind4_eq, s_flip_fv m1 n0 f1, obind4_eq, bsel_true, bsel_true]
  unfold K38_k13
  rw [e2, obind4_eq, K2y_fo H n0 hf, obind4_eq, K32_fo H hf, obind4_eq, s_mul_fv mLo mUp fLo fUp n0 n0 n0 fun i k hi hk => (tr_mul H hi hk).1, obind4_eq, bsel_true, bsel_true, bsel_true, bsel_true,
    farM_no (tabM_mat hn hn) m2 n0 (fun i k hi hk => by
      rw [tabM_gm hn hn hi hk, h3 i k hi hk]
      obtain ⟨p1, p2⟩ := tr_mul H hi hk
      exact ⟨p1, fe _ _ (lt i hi) (lt k hk), p2.mono (by decide +kernel)⟩), obind_eq]
  rfl
theorem K38_true (a0 a1 : List Int) (t0 : Small a0) (t1 : Small a1) (g0 : ∀ z ∈ a0, (Lit.int .u8 z).wf = true) (g1 : ∀ z ∈ a1, (Lit.int .u8 z).wf = true) : K38 a0 a1 = some true := by
  have b0 := byt_of g0
  have b1 := byt_of g1
  unfold K38
  obtain ⟨r, hr⟩ := b10long (a := a0) (b := a1)
  rw [hr, obind_eq]
  cases r with
  | true => rw [bsel_true]
  | false =>
    rw [bsel_false]
    obtain ⟨v, hv, ev⟩ := b10at b1 (k := 0) (n := 5) (by decide) (by decide)
    have ev : K01 a1 0 5 = some (v : Int) := ev
    obtain ⟨t, ht, et⟩ := b10at b1 (k := 1) (n := 5) (by decide) (by decide)
    have et : K01 a1 1 5 = some (t : Int) := et
    rw [ev, obind_eq, wi64 (by omega) (by omega), olet_eq, show (1 : Int) + (v : Int) = ((1 + v : Nat) : Int) from by omega]
    have n0 : 0 < 1 + v := by omega
    have n5 : 1 + v ≤ 5 := by omega
    generalize 1 + v = n at *
    obtain ⟨L, hL, eL⟩ := b10square b0 (n := n) (by omega)
    obtain ⟨b, lb, qb, eb⟩ := b10vector b1 (n := n) (by omega)
    have fL : ∀ x ∈ L, Fv x := hL.oks
    have fe : ∀ i k, i < n → k < n → Fv (gm none L n i k) := fun i k hi hk => (sqE_fv (hL.e i k hi hk)).1
    have T : LTab n (fun i k => vl (gm none L n i k)) := ⟨n5, fun i k hi hk hne => (sqE_fv (hL.e i k hi hk)).2.2 hne, fun i hi => (sqE_fv (hL.e i i hi hi)).2.1 rfl⟩
    obtain ⟨M, eR, hM, hT⟩ := lu_allT T hL.m fe (fun i j _ _ => rfl)
    have eM := K0w_run T n0 hL.m fe (fun i j _ _ => rfl) eR
    have H := tr_facts T hM
    have fb : ∀ i, i < n → Fv (b.getD i none) ∧ Ab (vl (b.getD i none)) 4 := fun i hi => qd_fv (qb _ (getD_mem (by omega)))
    obtain ⟨y, ey, fy, hy⟩ := cond_ok hL n0 H hT T eM
    obtain ⟨x, N, ex, hx⟩ := refined_ok hL n0 H hT T eM lb fb (t := t) (by omega)
    obtain ⟨q, q1, q2⟩ := c999
    have l1 := hx.lN
    have l2 := hx.lx
    rw [eL, obind3_eq, eb, obind_eq, et, obind_eq, ey, obind2_eq, ex, obind3_eq, bsel_true, bsel_true, olet_eq, (fy.rv.widen.ord q1).1, decide_eq_false (by grind), bsel_false, l1, decide_eq_true rfl, Bool.not_true, bsel_false, l2, decide_eq_true rfl, Bool.not_true, bsel_false]
    unfold K38_k4
    have fe8 : ∀ i k, i < n → k < n → Fv (gm none L n i k) ∧ Ab (vl (gm none L n i k)) 8 := fun i k hi hk => by
      obtain ⟨f1, f2, f3⟩ := sqE_fv (hL.e i k hi hk)
      refine ⟨f1, ?_⟩
      by_cases e : i = k
      · obtain ⟨a, b⟩ := f2 e; exact ⟨by grind, b⟩
      · exact (f3 e).mono (by decide)
    obtain ⟨R, eRR, lR, hR⟩ := long_ok hL.m n0 n5 fe8 hx.lx lb hx.fx fb hx.hr
    have mk : mkok 4 (n : Int) = true := by simp only [mkok, Bool.and_eq_true, decide_eq_true_eq]; omega
    rw [eRR, obind2_eq, bsel_true, mk, need_true, Int.toNat_natCast, far_no (by simp [lR]) (by omega) (fun i hi => by
      have hi : i < n := by omega
      have z : (List.replicate n (some 0 : F)).getD i none = some 0 := by simp [List.getD, List.getElem?_replicate, hi]
      rw [z]
      exact ⟨(hR i hi).1, fv_zero.1, by rw [fv_zero.2, show ∀ w : Rat, w - 0 = w from fun w => by grind]; exact (hR i hi).2.1.mono (by decide +kernel)⟩), obind_eq, bsel_false]
    have en : loopM (K38_s5 N) 0 = some (.inl ()) := by
      refine loop_go (step := K38_s5 N) (fun j : Nat => (j : Int)) N.length 0 (fun j _ hj => ?_) ?_
      · have hj : j < N.length := by omega
        obtain ⟨f, c1, c2⟩ := hx.fN (N.getD j none) (List.mem_of_getElem? (getD_of_lt none hj))
        obtain ⟨g, gv⟩ := m001
        show K38_b5 N (j : Int) = _
        unfold K38_b5
        rw [dlt hj, bsel_true, at?_n none hj, obind_eq, fv_lt f fv_zero.1, fv_zero.2, decide_eq_false (by grind), bsel_false, obind_eq, fv_lt g f, decide_eq_false (by grind), bsel_false, wsucc (by omega), olet_eq]
      · show K38_b5 N ((0 + N.length : Nat) : Int) = _
        unfold K38_b5
        rw [Nat.zero_add, dnlt, bsel_false]
    rw [en, obind_eq, osum_inl]
    unfold K38_k5
    have st := fb_start (a := fun i k => vl (gm none L n i k)) hL.m fe (fun i j _ _ => rfl)
    obtain ⟨s, es, hs⟩ := fb_run T n 0 _ (by omega) st
    have f0 := both_start hL.m n0 fL fv_zero.1 (by rw [fv_zero.2]; exact Rat.le_refl) es
    obtain ⟨th, tv⟩ := thousand
    have en2 : runL (fbStep n (some 1148846080)) (fun s => (s.1, s.2.1, s.2.2, (n : Int))) 0 n (L, upTo n, upTo n) = .inl (L, upTo n, upTo n, 0) := by
      obtain ⟨d, rfl⟩ : ∃ d, n = d + 1 := ⟨n - 1, by omega⟩
      unfold runL
      rw [fb_none T n0 st th (by rw [tv]; decide)]
    have f2 := both_start hL.m n0 fL th (by rw [tv]; decide) en2
    have oB := ord_perm n0 n5 hs.len hs.nn hs.lt hs.inj
    have Hs := tr_facts (T.perm hs.lt hs.inj) hs.lu
    have hf := tr_facO Hs n0 hs.len oB
    have hnn : n * n ≤ 25 := Nat.mul_le_mul n5 n5
    rw [f0, obind7_eq, f2, obind7_eq, bsel_true, bsel_true, decide_eq_true rfl, Bool.not_true, bsel_false, show (!decide ((0 : Int) = 0)) = false from rfl, bsel_false]
    have oc : s.2.2 = s.2.1 := hs.oc.symm
    rw [show (s.1, s.2.1, s.2.2, (n : Int)).2.2.1 = s.2.1 from oc]
    show obind (K2f s.2.1) _ = _
    have io : K2f s.2.1 = some true := by unfold K2f; rw [K2e_eq, oB, obind_eq]
    have iu : K2f (upTo n) = some true := by unfold K2f; rw [K2e_eq, ordB_upTo n0 n5, obind_eq]
    have vf : K2n (n : Int) (n : Int) s.1 s.2.1 = some true := by unfold K2n; rw [K2m_eq _ _ _ (tr_oks Hs) Hs.m.le, hf, obind_eq]
    rw [io, obind_eq, bsel_true]
    show obind (K2f (upTo n)) _ = _
    rw [iu, obind_eq, bsel_true]
    show obind (K2n (n : Int) (n : Int) s.1 s.2.1) _ = _
    rw [vf, obind_eq, bsel_true, hs.len, decide_eq_true rfl, Bool.not_true, bsel_false]
    show obind (K2s (n : Int) (n : Int) L (n : Int) (n : Int) L) _ = _
    rw [same_fv (by rw [hL.m.len]; omega) fL, obind_eq, bsel_true, bsel_false]
    exact refined_last hL n0 n5 hs.len hs.nn hs.lt oB Hs

end Go.Proofs.YtcifbefhglffhaaGreat
