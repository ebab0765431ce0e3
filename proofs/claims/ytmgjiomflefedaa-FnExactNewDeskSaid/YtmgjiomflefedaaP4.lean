/- The plain law of FnExactNewDesk. -/
import Derived.Test.YtmgjiomflefedaaG4p1
import Derived.Test.YtmgjiomflefedaaAmPureG
namespace Go.Proofs.Ytmgjiomflefedaa
set_option linter.unusedSimpArgs false
set_option linter.unusedVariables false
open Go Go.AM
theorem f93_refl (c : F) : f93 c c = some true := by
  unfold f93
  cases h : feq .f64 c c <;> simp [f93_k1, h, bsel_if]
theorem f48_refl (a : List F) (h : a.length ≤ 1048576) : f48 a a = some true := by
  unfold f48
  rw [loop_eq (l := a) (m := a) rfl ?_ ?_]
  · simp [bsel_if, f48_k1]
  · intro v x y h0 hv hx hy
    rw [hx] at hy; cases hy
    show f48_b1 a a v = _
    unfold f48_b1
    rw [at?_of h0 hx, wrap_succ h0 hv (by omega)]
    simp [bsel_if, hv, f93_refl]
  · show f48_b1 a a (a.length : Int) = _
    unfold f48_b1
    simp [bsel_if]
theorem f94_refl (a : List Int) (h : a.length ≤ 1048576) : f94 a a = some true := by
  unfold f94
  rw [loop_eq (l := a) (m := a) rfl ?_ ?_]
  · simp [bsel_if, f94_k1]
  · intro v x y h0 hv hx hy
    rw [hx] at hy; cases hy
    show f94_b1 a a v = _
    unfold f94_b1
    rw [at?_of h0 hx, wrap_succ h0 hv (by omega)]
    simp [bsel_if, hv]
  · show f94_b1 a a (a.length : Int) = _
    unfold f94_b1
    simp [bsel_if]
theorem f21_refl (a0 a1 : Int) (a2 a3 a4 a5 : List F) (a6 a7 : Int) (a8 : List Int) (s2 : a2.length ≤ 1048576) (s3 : a3.length ≤ 1048576) (s4 : a4.length ≤ 1048576) (s5 : a5.length ≤ 1048576) (s8 : a8.length ≤ 1048576) :
    f21 a0 a1 a2 a3 a4 a5 a6 a7 a8 a0 a1 a2 a3 a4 a5 a6 a7 a8 = some true := by
  unfold f21 f28 f49 f50
  rw [f48_refl a2 s2, f48_refl a3 s3, f48_refl a4 s4, f48_refl a5 s5, f94_refl a8 s8]
  simp
theorem fint_ok (n : Int) : FOk .f32 (fint .f32 n) := ⟨_, encode_FR .f32 (d := .number (n < 0) n.natAbs 0) rfl⟩
theorem feq_fint (n : Int) : feq .f32 (fint .f32 n) (fint .f32 n) = true := feq_refl (fint_ok n)
/-- The marks k, k + 1, .. -/
def marks (k : Int) (n : Nat) : List F := (List.range n).map fun (i : Nat) => fint .f32 (k + (i : Int))
def marksI (k : Int) (n : Nat) : List Int := (List.range n).map fun (i : Nat) => k + (i : Int)
theorem marks_len (k : Int) (n : Nat) : (marks k n).length = n := by simp [marks]
theorem marksI_len (k : Int) (n : Nat) : (marksI k n).length = n := by simp [marksI]
/-- Marking, for any kind of element. -/
theorem loop_mark {α ρ : Type} (mk : Int → α) (k : Int) (n : Nat) {step : List α × Int × Int → Option (LR (List α × Int × Int) (List α × Int) ρ)}
    (hstep : ∀ (L : List α) (i : Nat), i < n → L.length = n → step (L, k + (i : Int), (i : Int)) = some (.next (L.set i (mk (k + (i : Int))), k + ((i + 1 : Nat) : Int), ((i + 1 : Nat) : Int))))
    (hend : ∀ L : List α, L.length = n → step (L, k + (n : Int), (n : Int)) = some (.out (L, k + (n : Int)))) (a : List α) (ha : a.length = n) :
    loopM step (a, k, 0) = some (.inl ((List.range n).map (fun (i : Nat) => mk (k + (i : Int))), k + (n : Int))) := by
  have key : ∀ (m i : Nat) (L : List α), m + i = n → L.length = n → L.take i = (List.range i).map (fun (i : Nat) => mk (k + (i : Int))) → loopM step (L, k + (i : Int), (i : Int)) = some (.inl ((List.range n).map (fun (i : Nat) => mk (k + (i : Int))), k + (n : Int))) := by
    intro m
    induction m with
    | zero =>
      intro i L hi hL ht
      have : i = n := by omega
      subst this
      rw [loopM_out (hend L hL), ← ht, ← hL, List.take_length]
    | succ m ih =>
      intro i L hi hL ht
      rw [loopM_next (hstep L i (by omega) hL)]
      refine ih (i + 1) _ (by omega) (by simpa using hL) ?_
      rw [List.take_succ_eq_append_getElem (by simp; omega), List.take_set_of_le (Nat.le_refl _), ht, List.range_succ, List.map_append]
      simp
  have := key n 0 a (by omega) ha (by simp)
  simpa using this
theorem f51_1_eq (k : Int) (a : List F) (h0 : -1000000000 ≤ k) (h1 : k ≤ 1000000000) (ha : a.length ≤ 1048576) : f51_1 k a = some (k + (a.length : Int), marks k a.length) := by
  unfold f51_1
  rw [loop_mark (fun n => fint .f32 n) k a.length (step := f51_1_s1 a) ?_ ?_ a rfl]
  · rfl
  · intro L i hi hL
    show f51_1_b1 a L (k + (i : Int)) (i : Int) = _
    unfold f51_1_b1
    have hs := setAt?_of (l := L) (v := (i : Int)) (x := fint .f32 (k + (i : Int))) (by omega) (by omega)
    have e1 : IntKind.i64.wrap (k + (i : Int) + 1) = k + ((i + 1 : Nat) : Int) := by rw [wrap_i64 (by omega) (by omega)]; omega
    have e2 : IntKind.i64.wrap ((i : Int) + 1) = ((i + 1 : Nat) : Int) := by rw [wrap_i64 (by omega) (by omega)]; omega
    simp only [olet_eq, hs, obind_eq, e1, e2, bsel_if, decide_eq_true_eq]
    rw [if_pos (by omega)]
    rfl
  · intro L hL
    show f51_1_b1 a L (k + (a.length : Int)) (a.length : Int) = _
    unfold f51_1_b1
    simp [bsel_if]
theorem f95_1_eq (k : Int) (a : List Int) (h0 : -1000000000 ≤ k) (h1 : k ≤ 1000000000) (ha : a.length ≤ 1048576) : f95_1 k a = some (k + (a.length : Int), marksI k a.length) := by
  unfold f95_1
  rw [loop_mark (fun n => n) k a.length (step := f95_1_s1 a) ?_ ?_ a rfl]
  · rfl
  · intro L i hi hL
    show f95_1_b1 a L (k + (i : Int)) (i : Int) = _
    unfold f95_1_b1
    have hs := setAt?_of (l := L) (v := (i : Int)) (x := k + (i : Int)) (by omega) (by omega)
    have e1 : IntKind.i64.wrap (k + (i : Int) + 1) = k + ((i + 1 : Nat) : Int) := by rw [wrap_i64 (by omega) (by omega)]; omega
    have e2 : IntKind.i64.wrap ((i : Int) + 1) = ((i + 1 : Nat) : Int) := by rw [wrap_i64 (by omega) (by omega)]; omega
    simp only [olet_eq, hs, obind_eq, e1, e2, bsel_if, decide_eq_true_eq]
    rw [if_pos (by omega)]
    rfl
  · intro L hL
    show f95_1_b1 a L (k + (a.length : Int)) (a.length : Int) = _
    unfold f95_1_b1
    simp [bsel_if]
/-- Marks that are looked for are found. -/
theorem loop_held {k : Int} {n : Nat} {step : Int × Int → Option (LR (Int × Int) Int Int)}
    (hstep : ∀ i : Nat, i < n → step (k + (i : Int), (i : Int)) = some (.next (k + ((i + 1 : Nat) : Int), ((i + 1 : Nat) : Int)))) (hend : step (k + (n : Int), (n : Int)) = some (.out (k + (n : Int)))) :
    loopM step (k, 0) = some (.inl (k + (n : Int))) := by
  have key : ∀ (m i : Nat), m + i = n → loopM step (k + (i : Int), (i : Int)) = some (.inl (k + (n : Int))) := by
    intro m
    induction m with
    | zero => intro i hi; have : i = n := by omega
              subst this; exact loopM_out hend
    | succ m ih => intro i hi; rw [loopM_next (hstep i (by omega))]; exact ih (i + 1) (by omega)
  have := key n 0 (by omega)
  simpa using this
theorem f54_eq (k : Int) (n : Nat) (h0 : -1000000000 ≤ k) (h1 : k ≤ 1000000000) (hn : n ≤ 1048576) : f54 (marks k n) k = some (k + (n : Int)) := by
  unfold f54
  rw [loop_held (k := k) (n := n) (step := f54_s1 (marks k n)) ?_ ?_]
  · rfl
  · intro i hi
    show f54_b1 (marks k n) (k + (i : Int)) (i : Int) = _
    unfold f54_b1
    have hx : (marks k n)[(i : Int).toNat]? = some (fint .f32 (k + (i : Int))) := by simp [marks, hi]
    have e1 : IntKind.i64.wrap (k + (i : Int) + 1) = k + ((i + 1 : Nat) : Int) := by rw [wrap_i64 (by omega) (by omega)]; omega
    have e2 : IntKind.i64.wrap ((i : Int) + 1) = ((i + 1 : Nat) : Int) := by rw [wrap_i64 (by omega) (by omega)]; omega
    rw [at?_of (by omega) hx]
    simp only [olet_eq, obind_eq, e1, e2, bsel_if, decide_eq_true_eq, marks_len, feq_fint]
    rw [if_pos (by omega)]
    simp
  · show f54_b1 (marks k n) (k + (n : Int)) (n : Int) = _
    unfold f54_b1
    simp [bsel_if, marks_len]
theorem f96_eq (k : Int) (n : Nat) (h0 : -1000000000 ≤ k) (h1 : k ≤ 1000000000) (hn : n ≤ 1048576) : f96 (marksI k n) k = some (k + (n : Int)) := by
  unfold f96
  rw [loop_held (k := k) (n := n) (step := f96_s1 (marksI k n)) ?_ ?_]
  · rfl
  · intro i hi
    show f96_b1 (marksI k n) (k + (i : Int)) (i : Int) = _
    unfold f96_b1
    have hx : (marksI k n)[(i : Int).toNat]? = some (k + (i : Int)) := by simp [marksI, hi]
    have e1 : IntKind.i64.wrap (k + (i : Int) + 1) = k + ((i + 1 : Nat) : Int) := by rw [wrap_i64 (by omega) (by omega)]; omega
    have e2 : IntKind.i64.wrap ((i : Int) + 1) = ((i + 1 : Nat) : Int) := by rw [wrap_i64 (by omega) (by omega)]; omega
    rw [at?_of (by omega) hx]
    simp only [olet_eq, obind_eq, e1, e2, bsel_if, decide_eq_true_eq, marksI_len]
    rw [if_pos (by omega)]
    simp
  · show f96_b1 (marksI k n) (k + (n : Int)) (n : Int) = _
    unfold f96_b1
    simp [bsel_if, marksI_len]
theorem f29_1_eq (x y k : Int) (a : List F) (h0 : -1000000000 ≤ k) (h1 : k ≤ 1000000000) (ha : a.length ≤ 1048576) : f29_1 x y k a = some (k + (a.length : Int), marks k a.length) := by
  unfold f29_1
  rw [f51_1_eq k a h0 h1 ha]
  simp [marks_len]
theorem f30_eq (x y k : Int) (n : Nat) (h0 : 0 ≤ k) (h1 : k ≤ 1000000000) (hn : n ≤ 1048576) : f30 x y (marks k n) k = some (k + (n : Int)) := by
  unfold f30
  rw [f54_eq k n (by omega) h1 hn]
  simp only [obind_eq, bsel_if, decide_eq_true_eq]
  rw [if_neg (by omega)]
abbrev q1 : List F := [some 1073741824, some 1065353216, some 1065353216, some 1073741824]
abbrev q2 : List F := [some 1065353216, some 0]
abbrev q3 : List F := [some 1073741824, some 1073741824]
abbrev q4 : List F := [some 1065353216]
abbrev q5 : List Int := [2, 4, 6, 8]
theorem f20_is : f20 = some (2, 2, 2, 2, q1, q2, q3, q4, q5) := rfl
theorem f19_is : f19 = some (2, 2, 2, 2, q1, q2, q3, q4, q5) := rfl
theorem f22_gen (x y z u : Int) (a b c d : List F) (e : List Int) (ha : a.length ≤ 1000) (hb : b.length ≤ 1000) (hc : c.length ≤ 1000) (hd : d.length ≤ 1000) (he : e.length ≤ 1000) :
    f22_1 x y z u 1 a b c d e = some (1 + (a.length : Int) + (b.length : Int) + (c.length : Int) + (d.length : Int) + (e.length : Int), marks 1 a.length, marks (1 + (a.length : Int)) b.length, marks (1 + (a.length : Int) + (b.length : Int)) c.length, marks (1 + (a.length : Int) + (b.length : Int) + (c.length : Int)) d.length, marksI (1 + (a.length : Int) + (b.length : Int) + (c.length : Int) + (d.length : Int)) e.length) := by
  unfold f22_1 f52_1 f53_1
  rw [f29_1_eq _ _ 1 _ (by omega) (by omega) (by omega)]
  simp only [obind2_eq, marks_len, decide_true, need_true]
  rw [f51_1_eq _ b (by omega) (by omega) (by omega)]
  simp only [obind2_eq, marks_len, decide_true, need_true]
  rw [f51_1_eq _ c (by omega) (by omega) (by omega)]
  simp only [obind2_eq, marks_len, decide_true, need_true]
  rw [f51_1_eq _ d (by omega) (by omega) (by omega)]
  simp only [obind2_eq, obind3_eq, marks_len, decide_true, need_true]
  rw [f95_1_eq _ e (by omega) (by omega) (by omega)]
  simp only [obind2_eq, marksI_len, decide_true, need_true]
theorem f23_gen (x y z u : Int) (a b c d e : Nat) (ha : a ≤ 1000) (hb : b ≤ 1000) (hc : c ≤ 1000) (hd : d ≤ 1000) (he : e ≤ 1000) :
    f23 x y (marks 1 a) (marks (1 + (a : Int)) b) (marks (1 + (a : Int) + (b : Int)) c) (marks (1 + (a : Int) + (b : Int) + (c : Int)) d) z u (marksI (1 + (a : Int) + (b : Int) + (c : Int) + (d : Int)) e) 1 = some (1 + (a : Int) + (b : Int) + (c : Int) + (d : Int) + (e : Int)) := by
  unfold f23 f55 f56
  rw [f30_eq _ _ 1 a (by omega) (by omega) (by omega)]
  simp only [obind_eq, bsel_if, decide_eq_true_eq]
  rw [if_neg (by omega), f54_eq _ b (by omega) (by omega) (by omega)]
  simp only [obind_eq]
  rw [if_neg (by omega), f54_eq _ c (by omega) (by omega) (by omega)]
  simp only [obind_eq]
  rw [if_neg (by omega), f54_eq _ d (by omega) (by omega) (by omega)]
  simp only [obind_eq]
  rw [if_neg (by omega)]
  simp only [obind_eq]
  rw [if_neg (by omega), f96_eq _ e (by omega) (by omega) (by omega)]
  simp only [obind_eq]
  rw [if_neg (by omega)]
  simp only [obind_eq]
  rw [if_neg (by omega)]
theorem f4_gen (x y z u : Int) (a b c d : List F) (e : List Int) (h19 : f19 = some (x, y, z, u, a, b, c, d, e)) (h20 : f20 = some (x, y, z, u, a, b, c, d, e)) (ha : a.length ≤ 1000) (hb : b.length ≤ 1000) (hc : c.length ≤ 1000) (hd : d.length ≤ 1000) (he : e.length ≤ 1000) : f4 = some true := by
  unfold f4
  have er := f21_refl x y a b c d z u e (by omega) (by omega) (by omega) (by omega) (by omega)
  have em := f22_gen x y z u a b c d e ha hb hc hd he
  have eh := f23_gen x y z u a.length b.length c.length d.length e.length ha hb hc hd he
  have hneg : decide (1 + (a.length : Int) + (b.length : Int) + (c.length : Int) + (d.length : Int) + (e.length : Int) < 0) = false := by simp; omega
  rw [h19, h20]
  simp only [obind9_eq, er, em, obind_eq, bsel_true, obind6_eq, eh, marks_len, marksI_len, decide_true, need_true, hneg, bsel_false, Bool.not_true]
theorem f4_true : f4 = some true := f4_gen 2 2 2 2 q1 q2 q3 q4 q5 f19_is f20_is (by simp) (by simp) (by simp) (by simp) (by simp)

end Go.Proofs.Ytmgjiomflefedaa
