/- The plain law of FnExactPutMatrix. -/
import Derived.Test.YtmgjiomflefedaaG4p1
import Derived.Test.YtmgjiomflefedaaAmPureG
namespace Go.Proofs.Ytmgjiomflefedaa
set_option linter.unusedSimpArgs false
set_option linter.unusedVariables false
open Go Go.AM
def Small {α : Type} (l : List α) : Prop := l.length ≤ 9223372036854775807
theorem sz_one (n : Nat) (a : Int) (hn : n ≤ 9223372036854775807) (h0 : 0 ≤ a) (h1 : a ≤ 1048576) :
    ∃ r, olet (IntKind.i64.wrap (a - (n : Int))) (fun x1 => bsel (decide (x1 < 0)) (some (-1)) (some x1)) = some r ∧ (0 ≤ r → (n : Int) ≤ a ∧ r ≤ a) := by
  rw [wrap_i64 (by omega) (by omega)]
  simp only [olet_eq, bsel_if, decide_eq_true_eq]
  split
  · exact ⟨_, rfl, fun h => by omega⟩
  · exact ⟨_, rfl, fun h => by omega⟩
theorem f57_ex (l : List F) (a : Int) (hn : Small l) (h0 : 0 ≤ a) (h1 : a ≤ 1048576) : ∃ r, f57 l a = some r ∧ (0 ≤ r → (l.length : Int) ≤ a ∧ r ≤ a) := sz_one l.length a hn h0 h1
theorem f24_ex (x y : Int) (l : List F) (a : Int) (hn : Small l) (h0 : 0 ≤ a) (h1 : a ≤ 1048576) : ∃ r, f24 x y l a = some r ∧ (0 ≤ r → (l.length : Int) ≤ a ∧ r ≤ a) := by
  obtain ⟨r, e, h⟩ := f57_ex l a hn h0 h1
  unfold f24
  rw [e]
  simp only [obind_eq, bsel_if, decide_eq_true_eq]
  split
  · exact ⟨_, rfl, fun h => by omega⟩
  · exact ⟨_, rfl, h⟩
theorem f61_eq (a : List F) (h : a.length ≤ 1048576) : f61 a = some a := by
  unfold f61
  have hm : mkok 4 (a.length : Int) = true := by simp [mkok]; omega
  rw [hm, need_true, loop_copy (a := a) (ρ := List F) ?_ ?_ _ (by simp)]
  · rfl
  · intro L v x h0 hv hx hL
    show f61_b1 a L v = _
    unfold f61_b1
    have hs := setAt?_of (l := L) (x := x) h0 (by omega)
    simp [bsel_if, hv, at?_of h0 hx, hs, wrap_succ h0 hv (by omega : a.length ≤ 9223372036854775807)]
  · intro L hL
    show f61_b1 a L (a.length : Int) = _
    unfold f61_b1
    simp [bsel_if]
theorem f93_refl (c : F) : f93 c c = some true := by
  unfold f93
  cases h : feq .f64 c c <;> simp [f93_k1, h, bsel_if]
theorem f48_refl (a : List F) (h : a.length ≤ 1048576) : f48 a a = some true := by
  unfold f48
  rw [loop_eq (l := a) (m := a) rfl ?_ ?_]
  · simp [bsel_if, f48_k1]
  · intro v x y h0 hv hx hy
    rw [hx] at hy; cases hy
    show f48_b1 a a v = _
    unfold f48_b1
    rw [at?_of h0 hx, wrap_succ h0 hv (by omega)]
    simp [bsel_if, hv, f93_refl]
  · show f48_b1 a a (a.length : Int) = _
    unfold f48_b1
    simp [bsel_if]
def FOks (l : List F) : Prop := ∀ c ∈ l, FOk .f32 c
theorem FOks.at {l : List F} (h : FOks l) {i : Nat} {c : F} (e : l[i]? = some c) : FOk .f32 c := h c (List.mem_of_getElem? e)
theorem f99_eq (n lo hi : Int) : f99 n lo hi = some (decide (lo ≤ n) && decide (n ≤ hi)) := by
  unfold f99; cases decide (lo ≤ n) <;> rfl
theorem f103_eq (n lo hi : Int) : f103 n lo hi = some (decide (lo ≤ n) && decide (n ≤ hi)) := by
  unfold f103; cases decide (lo ≤ n) <;> rfl
theorem f118_eq {c : F} (h : FOk .f32 c) : f118 c = some (fin32 c) := by
  unfold f118; rw [olet_eq, sub_self h]
theorem f98_eq {a : List F} (ha : FOks a) (sa : a.length ≤ 1048576) : f98 a = some (a.all fin32) := by
  unfold f98
  rw [loop_all (l := a) (p := fin32) false ?_ ?_]
  · cases h : a.all fin32 <;> simp [f98_k1]
  · intro v x h0 hv hx
    show f98_b1 a v = _
    unfold f98_b1
    rw [at?_of h0 hx, wrap_succ h0 hv (by omega)]
    simp [bsel_if, hv, f118_eq (ha.at hx)]
  · show f98_b1 a (a.length : Int) = _
    unfold f98_b1
    simp [bsel_if]
theorem f121_eq {c : F} (h : FOk .f32 c) : f121 c = some (fin32 c) := by
  unfold f121 f131 f136 f137 f139 f137_k1
  cases c with
  | none => simp [fwiden, fin32]
  | some b =>
    have hw := feq_refl (k := .f64) (b := FloatKind.f64.encode (FloatKind.f32.decode b)) (fwiden_ok h)
    have hw' : feq .f64 (fwiden (some b)) (fwiden (some b)) = true := hw
    have hm := fabs_max h (by simp)
    simp only [olet_eq, obind_eq, hw', Bool.not_true, bsel_false, decide_true, bsel_true, hm, Bool.not_not]
theorem f120_eq {c : F} (h : FOk .f32 c) : f120 c = some (!fin32 c) := by
  unfold f120; rw [f121_eq h]; rfl
theorem any_not {α : Type} (l : List α) (p : α → Bool) : l.any (fun x => !p x) = !l.all p := by
  induction l with
  | nil => rfl
  | cons a l ih => simp [ih]
theorem f102_eq {a : List F} (ha : FOks a) (sa : a.length ≤ 1048576) : f102 a = some (a.all fin32) := by
  unfold f102 f119 f130
  obtain ⟨r, h1, h2⟩ := loop_find (l := a) (p := fun c => !fin32 c) (step := f130_s1 a) (by
    intro v x h0 hv hx
    show f130_b1 a v = _
    unfold f130_b1
    rw [at?_of h0 hx, wrap_succ h0 hv (by omega)]
    simp [bsel_if, hv, f120_eq (ha.at hx)]) (by
    show f130_b1 a (a.length : Int) = _
    unfold f130_b1
    simp [bsel_if])
  rw [h1, any_not]
  cases h : a.all fin32 <;> simp [f130_k1, h2]
theorem fint_ok (n : Int) : FOk .f32 (fint .f32 n) := ⟨_, encode_FR .f32 (d := .number (n < 0) n.natAbs 0) rfl⟩
theorem feq_fint (n : Int) : feq .f32 (fint .f32 n) (fint .f32 n) = true := feq_refl (fint_ok n)
def marks (k : Int) (n : Nat) : List F := (List.range n).map fun (i : Nat) => fint .f32 (k + (i : Int))
theorem marks_len (k : Int) (n : Nat) : (marks k n).length = n := by simp [marks]
theorem loop_mark {α ρ : Type} (mk : Int → α) (k : Int) (n : Nat) {step : List α × Int × Int → Option (LR (List α × Int × Int) (List α × Int) ρ)}
    (hstep : ∀ (L : List α) (i : Nat), i < n → L.length = n → step (L, k + (i : Int), (i : Int)) = some (.next (L.set i (mk (k + (i : Int))), k + ((i + 1 : Nat) : Int), ((i + 1 : Nat) : Int))))
    (hend : ∀ L : List α, L.length = n → step (L, k + (n : Int), (n : Int)) = some (.out (L, k + (n : Int)))) (a : List α) (ha : a.length = n) :
    loopM step (a, k, 0) = some (.inl ((List.range n).map (fun (i : Nat) => mk (k + (i : Int))), k + (n : Int))) := by
  have key : ∀ (m i : Nat) (L : List α), m + i = n → L.length = n → L.take i = (List.range i).map (fun (i : Nat) => mk (k + (i : Int))) → loopM step (L, k + (i : Int), (i : Int)) = some (.inl ((List.range n).map (fun (i : Nat) => mk (k + (i : Int))), k + (n : Int))) := by
    intro m
    induction m with
    | zero =>
      intro i L hi hL ht
      have : i = n := by omega
      subst this
      rw [loopM_out (hend L hL), ← ht, ← hL, List.take_length]
    | succ m ih =>
      intro i L hi hL ht
      rw [loopM_next (hstep L i (by omega) hL)]
      refine ih (i + 1) _ (by omega) (by simpa using hL) ?_
      rw [List.take_succ_eq_append_getElem (by simp; omega), List.take_set_of_le (Nat.le_refl _), ht, List.range_succ, List.map_append]
      simp
  have := key n 0 a (by omega) ha (by simp)
  simpa using this
theorem f51_1_eq (k : Int) (a : List F) (h0 : -1000000000 ≤ k) (h1 : k ≤ 1000000000) (ha : a.length ≤ 1048576) : f51_1 k a = some (k + (a.length : Int), marks k a.length) := by
  unfold f51_1
  rw [loop_mark (fun n => fint .f32 n) k a.length (step := f51_1_s1 a) ?_ ?_ a rfl]
  · rfl
  · intro L i hi hL
    show f51_1_b1 a L (k + (i : Int)) (i : Int) = _
    unfold f51_1_b1
    have hs := setAt?_of (l := L) (v := (i : Int)) (x := fint .f32 (k + (i : Int))) (by omega) (by omega)
    have e1 : IntKind.i64.wrap (k + (i : Int) + 1) = k + ((i + 1 : Nat) : Int) := by rw [wrap_i64 (by omega) (by omega)]; omega
    have e2 : IntKind.i64.wrap ((i : Int) + 1) = ((i + 1 : Nat) : Int) := by rw [wrap_i64 (by omega) (by omega)]; omega
    simp only [olet_eq, hs, obind_eq, e1, e2, bsel_if, decide_eq_true_eq]
    rw [if_pos (by omega)]
    rfl
  · intro L hL
    show f51_1_b1 a L (k + (a.length : Int)) (a.length : Int) = _
    unfold f51_1_b1
    simp [bsel_if]
theorem loop_held {k : Int} {n : Nat} {step : Int × Int → Option (LR (Int × Int) Int Int)}
    (hstep : ∀ i : Nat, i < n → step (k + (i : Int), (i : Int)) = some (.next (k + ((i + 1 : Nat) : Int), ((i + 1 : Nat) : Int)))) (hend : step (k + (n : Int), (n : Int)) = some (.out (k + (n : Int)))) :
    loopM step (k, 0) = some (.inl (k + (n : Int))) := by
  have key : ∀ (m i : Nat), m + i = n → loopM step (k + (i : Int), (i : Int)) = some (.inl (k + (n : Int))) := by
    intro m
    induction m with
    | zero => intro i hi; have : i = n := by omega
              subst this; exact loopM_out hend
    | succ m ih => intro i hi; rw [loopM_next (hstep i (by omega))]; exact ih (i + 1) (by omega)
  have := key n 0 (by omega)
  simpa using this
theorem f54_eq (k : Int) (n : Nat) (h0 : -1000000000 ≤ k) (h1 : k ≤ 1000000000) (hn : n ≤ 1048576) : f54 (marks k n) k = some (k + (n : Int)) := by
  unfold f54
  rw [loop_held (k := k) (n := n) (step := f54_s1 (marks k n)) ?_ ?_]
  · rfl
  · intro i hi
    show f54_b1 (marks k n) (k + (i : Int)) (i : Int) = _
    unfold f54_b1
    have hx : (marks k n)[(i : Int).toNat]? = some (fint .f32 (k + (i : Int))) := by simp [marks, hi]
    have e1 : IntKind.i64.wrap (k + (i : Int) + 1) = k + ((i + 1 : Nat) : Int) := by rw [wrap_i64 (by omega) (by omega)]; omega
    have e2 : IntKind.i64.wrap ((i : Int) + 1) = ((i + 1 : Nat) : Int) := by rw [wrap_i64 (by omega) (by omega)]; omega
    rw [at?_of (by omega) hx]
    simp only [olet_eq, obind_eq, e1, e2, bsel_if, decide_eq_true_eq, marks_len, feq_fint]
    rw [if_pos (by omega)]
    simp
  · show f54_b1 (marks k n) (k + (n : Int)) (n : Int) = _
    unfold f54_b1
    simp [bsel_if, marks_len]
theorem f29_1_eq (x y k : Int) (a : List F) (h0 : -1000000000 ≤ k) (h1 : k ≤ 1000000000) (ha : a.length ≤ 1048576) : f29_1 x y k a = some (k + (a.length : Int), marks k a.length) := by
  unfold f29_1
  rw [f51_1_eq k a h0 h1 ha]
  simp [marks_len]
theorem f30_eq (x y k : Int) (n : Nat) (h0 : 0 ≤ k) (h1 : k ≤ 1000000000) (hn : n ≤ 1048576) : f30 x y (marks k n) k = some (k + (n : Int)) := by
  unfold f30
  rw [f54_eq k n (by omega) h1 hn]
  simp only [obind_eq, bsel_if, decide_eq_true_eq]
  rw [if_neg (by omega)]
/-! putting a matrix into another -/
/-- What the list is after v numbers have been put. -/
def putG (a part : List F) (R C K c : Nat) : Nat → List F
  | 0 => a
  | v + 1 => (putG a part R C K c v).set ((R + v / c) * C + K + v % c) (part.getD v none)
theorem putG_len (a part : List F) (R C K c v : Nat) : (putG a part R C K c v).length = a.length := by
  induction v with
  | zero => rfl
  | succ v ih => simp [putG, ih]
theorem put_in {A C R K r c i k : Nat} (hR : R + r ≤ A) (hK : K + c ≤ C) (hi : i < r) (hk : k < c) : (R + i) * C + K + k < A * C := by
  have h1 : (R + i + 1) * C ≤ A * C := Nat.mul_le_mul_right C (by omega)
  rw [Nat.add_mul, Nat.one_mul] at h1
  omega
theorem small_mul {x y : Nat} (hx : x ≤ 12) (hy : y ≤ 12) : x * y ≤ 144 := Nat.mul_le_mul hx hy
structure PutOk (A C r c R K : Nat) (a part : List F) : Prop where
  hA : A ≤ 12
  hC : C ≤ 12
  hr : r ≤ 12
  hc : c ≤ 12
  c0 : 0 < c
  ha : a.length = A * C
  hp : part.length = r * c
  hR : R + r ≤ A
  hK : K + c ≤ C
theorem put_idx {A C R K r c i k : Nat} (hA : A ≤ 12) (hC : C ≤ 12) (hR : R + r ≤ A) (hK : K + c ≤ C) (hi : i < r) (hk : k < c) : (R + i) * C ≤ 144 ∧ (R + i) * C + K + k < A * C ∧ A * C ≤ 144 :=
  ⟨Nat.mul_le_mul (show R + i ≤ 12 by omega) hC, put_in hR hK hi hk, small_mul hA hC⟩
theorem f25_loop {A C r c R K : Nat} {a part : List F} (h : PutOk A C r c R K a part) :
    loopM (f25_s1 (C : Int) (r : Int) (c : Int) part (R : Int) (K : Int)) (a, 0) = some (.inl (putG a part R C K c (r * c))) := by
  have hw : IntKind.i64.wrap ((r : Int) * (c : Int)) = ((r * c : Nat) : Int) := by
    have := small_mul h.hr h.hc
    rw [← Int.natCast_mul, wrap_i64 (by omega) (by omega)]
  have key : ∀ (m v : Nat), m + v = r * c → loopM (f25_s1 (C : Int) (r : Int) (c : Int) part (R : Int) (K : Int)) (putG a part R C K c v, (v : Int)) = some (.inl (putG a part R C K c (r * c))) := by
    intro m
    induction m with
    | zero =>
      intro v hv
      have : v = r * c := by omega
      subst this
      refine loopM_out ?_
      show f25_b1 _ _ _ _ _ _ _ _ = _
      unfold f25_b1
      rw [hw]
      simp
    | succ m ih =>
      intro v hv
      have hlt : v < r * c := by omega
      have hi : v / c < r := (Nat.div_lt_iff_lt_mul h.c0).2 hlt
      have hk : v % c < c := Nat.mod_lt _ h.c0
      have hrc := small_mul h.hr h.hc
      have hput : putG a part R C K c (v + 1) = (putG a part R C K c v).set ((R + v / c) * C + K + v % c) (part.getD v none) := rfl
      have e1' : (v : Int).tdiv (c : Int) = ((v / c : Nat) : Int) := by rw [Int.tdiv_eq_ediv_of_nonneg (by omega), Int.natCast_ediv]
      have e5 : (v : Int).tmod (c : Int) = ((v % c : Nat) : Int) := by rw [Int.tmod_eq_emod_of_nonneg (by omega), Int.natCast_emod]
      rw [loopM_next (s' := (putG a part R C K c (v + 1), ((v + 1 : Nat) : Int))) ?_]
      · exact ih (v + 1) (by omega)
      · show f25_b1 _ _ _ _ _ _ _ _ = _
        unfold f25_b1
        rw [hw]
        have c1 : (!decide ((c : Int) = 0)) = true := by have := h.c0; simp; omega
        have hp : v < part.length := by rw [h.hp]; exact hlt
        rw [e1', e5, hput]
        generalize v / c = q at hi
        generalize v % c = m' at hk
        obtain ⟨b1, b2, b3⟩ := put_idx h.hA h.hC h.hR h.hK hi hk
        have hr12 := h.hr
        have hA12 := h.hA
        have hR12 := h.hR
        have hK12 := h.hK
        have hC12 := h.hC
        have e1 : IntKind.i64.wrap (q : Int) = (q : Int) := wrap_i64 (by omega) (by omega)
        have e2 : IntKind.i64.wrap ((R : Int) + (q : Int)) = ((R + q : Nat) : Int) := by rw [wrap_i64 (by omega) (by omega)]; omega
        have e3 : IntKind.i64.wrap (((R + q : Nat) : Int) * (C : Int)) = (((R + q) * C : Nat) : Int) := by rw [← Int.natCast_mul, wrap_i64 (by omega) (by omega)]
        generalize (R + q) * C = t at b1 b2 e3
        have e4 : IntKind.i64.wrap ((t : Int) + (K : Int)) = ((t + K : Nat) : Int) := by rw [wrap_i64 (by omega) (by omega)]; omega
        have e6 : IntKind.i64.wrap (((t + K : Nat) : Int) + (m' : Int)) = ((t + K + m' : Nat) : Int) := by rw [wrap_i64 (by omega) (by omega)]; omega
        have e7 : at? part (v : Int) = some (part.getD v none) := at?_of (by omega) (by simp [List.getD, hp])
        have e8 : setAt? (putG a part R C K c v) ((t + K + m' : Nat) : Int) (part.getD v none) = some ((putG a part R C K c v).set (t + K + m') (part.getD v none)) := by
          have hlen := putG_len a part R C K c v
          have ha := h.ha
          rw [setAt?_of (by omega) (by omega)]
          rfl
        have e9 : IntKind.i64.wrap ((v : Int) + 1) = ((v + 1 : Nat) : Int) := by rw [wrap_i64 (by omega) (by omega)]; omega
        simp only [olet_eq, c1, need_true, e1, e2, e3, e4, e6, e7, obind_eq, e8, e9, bsel_if, decide_eq_true_eq]
        rw [if_pos (by omega)]
  have := key (r * c) 0 (by omega)
  simpa [putG] using this
theorem div_at {i k c : Nat} (hk : k < c) : (i * c + k) / c = i ∧ (i * c + k) % c = k := by
  have hc : 0 < c := by omega
  constructor
  · rw [Nat.mul_comm, Nat.mul_add_div hc, Nat.div_eq_of_lt hk, Nat.add_zero]
  · rw [Nat.mul_comm, Nat.mul_add_mod, Nat.mod_eq_of_lt hk]
theorem f27_inner {A C r c R K : Nat} {a part : List F} (h : PutOk A C r c R K a part) {i : Nat} (hi : i < r) (a0 : Int) (r6 : List F) (h6 : r6.length = a.length) :
    loopM (f27_s2 (r : Int) (c : Int) part (R : Int) (K : Int) a0 (C : Int) r6 (i : Int)) (putG a part R C K c (i * c), 0) = some (.inl (putG a part R C K c ((i + 1) * c))) := by
  have hic : (i + 1) * c ≤ r * c := Nat.mul_le_mul_right c (by omega)
  rw [Nat.add_mul, Nat.one_mul] at hic ⊢
  have hrc := small_mul h.hr h.hc
  have key : ∀ (m k : Nat), m + k = c → loopM (f27_s2 (r : Int) (c : Int) part (R : Int) (K : Int) a0 (C : Int) r6 (i : Int)) (putG a part R C K c (i * c + k), (k : Int)) = some (.inl (putG a part R C K c (i * c + c))) := by
    intro m
    induction m with
    | zero =>
      intro k hk
      have : k = c := by omega
      subst this
      refine loopM_out ?_
      show f27_b2 _ _ _ _ _ _ _ _ _ _ _ = _
      unfold f27_b2
      simp
    | succ m ih =>
      intro k hk
      have hkc : k < c := by omega
      obtain ⟨b1, b2, b3⟩ := put_idx h.hA h.hC h.hR h.hK hi hkc
      obtain ⟨d1, d2⟩ := div_at (i := i) hkc
      have hin : i * c + k < part.length := by rw [h.hp]; omega
      rw [loopM_next (s' := (putG a part R C K c (i * c + (k + 1)), ((k + 1 : Nat) : Int))) ?_]
      · exact ih (k + 1) (by omega)
      · show f27_b2 _ _ _ _ _ _ _ _ _ _ _ = _
        unfold f27_b2 f66 f65_1
        have hput : putG a part R C K c (i * c + (k + 1)) = (putG a part R C K c (i * c + k)).set ((R + i) * C + K + k) (part.getD (i * c + k) none) := by
          rw [← Nat.add_assoc]
          simp only [putG, d1, d2]
        have hlen := putG_len a part R C K c (i * c + k)
        have hlen' := putG_len a part R C K c (i * c + (k + 1))
        rw [hput] at hlen' ⊢
        generalize putG a part R C K c (i * c + k) = L at hlen hlen'
        have hA12 := h.hA
        have hR12 := h.hR
        have hK12 := h.hK
        have hC12 := h.hC
        have hr12 := h.hr
        have ha := h.ha
        have e1 : IntKind.i64.wrap ((R : Int) + (i : Int)) = ((R + i : Nat) : Int) := by rw [wrap_i64 (by omega) (by omega)]; omega
        have e2 : IntKind.i64.wrap ((K : Int) + (k : Int)) = ((K + k : Nat) : Int) := by rw [wrap_i64 (by omega) (by omega)]; omega
        have e3 : IntKind.i64.wrap ((i : Int) * (c : Int)) = ((i * c : Nat) : Int) := by rw [← Int.natCast_mul, wrap_i64 (by omega) (by omega)]
        have e6 : IntKind.i64.wrap (((R + i : Nat) : Int) * (C : Int)) = (((R + i) * C : Nat) : Int) := by rw [← Int.natCast_mul, wrap_i64 (by omega) (by omega)]
        generalize (R + i) * C = t at b1 b2 e6 hlen'
        generalize i * c = u at e3 hin hic
        have e4 : IntKind.i64.wrap ((u : Int) + (k : Int)) = ((u + k : Nat) : Int) := by rw [wrap_i64 (by omega) (by omega)]; omega
        have e5 : at? part ((u + k : Nat) : Int) = some (part.getD (u + k) none) := at?_of (by omega) (by
          have e : ((u + k : Nat) : Int).toNat = u + k := by omega
          rw [e]; simp [List.getD, hin])
        have e7 : IntKind.i64.wrap ((t : Int) + ((K + k : Nat) : Int)) = ((t + K + k : Nat) : Int) := by rw [wrap_i64 (by omega) (by omega)]; omega
        have e8 : setAt? L ((t + K + k : Nat) : Int) (part.getD (u + k) none) = some (L.set (t + K + k) (part.getD (u + k) none)) := by
          rw [setAt?_of (by omega) (by omega)]
          rfl
        have e9 : IntKind.i64.wrap ((k : Int) + 1) = ((k + 1 : Nat) : Int) := by rw [wrap_i64 (by omega) (by omega)]; omega
        have e10 : decide ((L.set (t + K + k) (part.getD (u + k) none)).length = r6.length) = true := by simp; omega
        simp only [olet_eq, e1, e2, e3, e4, e5, obind_eq, e6, e7, e8, e9, e10, need_true, bsel_if, decide_eq_true_eq]
        rw [if_pos (by omega)]
  have := key c 0 (by omega)
  simpa using this
theorem f27_loop {A C r c R K : Nat} {a part : List F} (h : PutOk A C r c R K a part) (a0 : Int) (r6 : List F) (h6 : r6.length = a.length) :
    loopM (f27_s3 (r : Int) (c : Int) part (R : Int) (K : Int) a0 (C : Int) r6) (a, 0) = some (.inl (putG a part R C K c (r * c))) := by
  have hrc := small_mul h.hr h.hc
  have key : ∀ (m i : Nat), m + i = r → loopM (f27_s3 (r : Int) (c : Int) part (R : Int) (K : Int) a0 (C : Int) r6) (putG a part R C K c (i * c), (i : Int)) = some (.inl (putG a part R C K c (r * c))) := by
    intro m
    induction m with
    | zero =>
      intro i hi
      have : i = r := by omega
      subst this
      refine loopM_out ?_
      show f27_b3 _ _ _ _ _ _ _ _ _ _ = _
      unfold f27_b3
      simp
    | succ m ih =>
      intro i hi
      have hir : i < r := by omega
      rw [loopM_next (s' := (putG a part R C K c ((i + 1) * c), ((i + 1 : Nat) : Int))) ?_]
      · exact ih (i + 1) (by omega)
      · show f27_b3 _ _ _ _ _ _ _ _ _ _ = _
        unfold f27_b3
        rw [f27_inner h hir a0 r6 h6]
        have hr12 := h.hr
        have e9 : IntKind.i64.wrap ((i : Int) + 1) = ((i + 1 : Nat) : Int) := by rw [wrap_i64 (by omega) (by omega)]; omega
        simp only [obind_eq, osum_inl, f27_k2, olet_eq, e9, bsel_if, decide_eq_true_eq]
        rw [if_pos (by omega)]
  have := key r 0 (by omega)
  simpa [putG] using this

def side (n : Int) : Bool := decide (1 ≤ n) && decide (n ≤ 12)
theorem f97_eq (x y : Int) : f97 x y = some (side x && side y) := by
  unfold f97; rw [f99_eq, f99_eq]; unfold side
  cases decide (1 ≤ x) <;> cases decide (x ≤ 12) <;> rfl
theorem f100_eq (x : Int) : f100 x = some (side x) := by
  unfold f100; rw [f103_eq]; rfl
def validM (a0 a1 : Int) (a2 : List F) : Bool := side a0 && side a1 && decide ((a2.length : Int) = IntKind.i64.wrap (a0 * a1)) && a2.all fin32
theorem f58_eq (a0 a1 : Int) {a2 : List F} (g2 : FOks a2) (s2 : a2.length ≤ 1048576) : f58 a0 a1 a2 = some (validM a0 a1 a2) := by
  unfold f58 validM
  rw [f97_eq, f98_eq g2 s2]
  cases side a0 <;> cases side a1 <;> simp [bsel_if] <;> split <;> simp_all
theorem f62_eq (a0 a1 : Int) {a2 : List F} (g2 : FOks a2) (s2 : a2.length ≤ 1048576) : f62 a0 a1 a2 = some (validM a0 a1 a2) := by
  unfold f62 f101 validM
  rw [f100_eq, f100_eq, f102_eq g2 s2]
  cases side a0 <;> cases side a1 <;> simp [bsel_if] <;> split <;> simp_all
def liesM (a0 a1 row col r c : Int) : Bool := side r && side c && (decide (0 ≤ row) && decide (row ≤ IntKind.i64.wrap (a0 - r))) && (decide (0 ≤ col) && decide (col ≤ IntKind.i64.wrap (a1 - c)))
theorem f59_eq (a0 a1 : Int) (a2 : List F) (row col r c : Int) : f59 a0 a1 a2 row col r c = some (liesM a0 a1 row col r c) := by
  unfold f59 liesM
  rw [f97_eq]
  simp only [f99_eq, obind_eq, olet_eq]
  generalize (decide (0 ≤ row) && decide (row ≤ IntKind.i64.wrap (a0 - r))) = p
  generalize (decide (0 ≤ col) && decide (col ≤ IntKind.i64.wrap (a1 - c))) = q
  cases side r <;> cases side c <;> cases p <;> cases q <;> rfl
theorem f63_eq (a0 a1 : Int) (a2 : List F) (row col r c : Int) : f63 a0 a1 a2 row col r c = some (liesM a0 a1 row col r c) := by
  unfold f63 liesM
  rw [f100_eq, f100_eq]
  simp only [f103_eq, obind_eq, olet_eq]
  generalize (decide (0 ≤ row) && decide (row ≤ IntKind.i64.wrap (a0 - r))) = p
  generalize (decide (0 ≤ col) && decide (col ≤ IntKind.i64.wrap (a1 - c))) = q
  cases side r <;> cases side c <;> cases p <;> cases q <;> rfl
theorem side_nat {n : Int} (h : side n = true) : ∃ m : Nat, n = (m : Int) ∧ 0 < m ∧ m ≤ 12 := by
  simp [side] at h
  exact ⟨n.toNat, by omega, by omega, by omega⟩
theorem put_eq (a0 a1 : Int) {a2 : List F} (a3 a4 : Int) {a5 : List F} (a6 a7 : Int) (g2 : FOks a2) (s2 : a2.length ≤ 1048576) (g5 : FOks a5) (s5 : a5.length ≤ 1048576) :
    ∃ x y b L, f25 a0 a1 a2 a3 a4 a5 a6 a7 = some (x, y, b, L) ∧ f27 a0 a1 a2 a3 a4 a5 a6 a7 = some (x, y, b, L) ∧ L.length ≤ 1048576 := by
  unfold f25 f27
  rw [f58_eq a0 a1 g2 s2, f58_eq a3 a4 g5 s5, f62_eq a0 a1 g2 s2, f62_eq a3 a4 g5 s5, f59_eq, f63_eq]
  simp only [obind_eq]
  cases hv : validM a0 a1 a2 with
  | false => exact ⟨_, _, _, _, rfl, rfl, by simp⟩
  | true =>
    cases hv' : validM a3 a4 a5 with
    | false => exact ⟨_, _, _, _, rfl, rfl, by simp⟩
    | true =>
      cases hl : liesM a0 a1 a6 a7 a3 a4 with
      | false => exact ⟨_, _, _, _, rfl, rfl, by simp⟩
      | true =>
        simp only [bsel_true]
        simp only [validM, Bool.and_eq_true, decide_eq_true_eq] at hv hv'
        obtain ⟨⟨⟨v1, v2⟩, v3⟩, _⟩ := hv
        obtain ⟨⟨⟨u1, u2⟩, u3⟩, _⟩ := hv'
        simp only [liesM, Bool.and_eq_true, decide_eq_true_eq] at hl
        obtain ⟨⟨_, ⟨l1, l2⟩⟩, l3, l4⟩ := hl
        obtain ⟨A, rfl, A0, A1⟩ := side_nat v1
        obtain ⟨C, rfl, C0, C1⟩ := side_nat v2
        obtain ⟨r, rfl, r0, r1⟩ := side_nat u1
        obtain ⟨c, rfl, c0, c1⟩ := side_nat u2
        have hAC := small_mul A1 C1
        have hrc := small_mul r1 c1
        rw [← Int.natCast_mul, wrap_i64 (by omega) (by omega)] at v3
        rw [← Int.natCast_mul, wrap_i64 (by omega) (by omega)] at u3
        rw [wrap_i64 (by omega) (by omega)] at l2
        rw [wrap_i64 (by omega) (by omega)] at l4
        obtain ⟨R, rfl⟩ : ∃ R : Nat, a6 = (R : Int) := ⟨a6.toNat, by omega⟩
        obtain ⟨K, rfl⟩ : ∃ K : Nat, a7 = (K : Int) := ⟨a7.toNat, by omega⟩
        have hok : PutOk A C r c R K a2 a5 := ⟨A1, C1, r1, c1, c0, by omega, by omega, by omega, by omega⟩
        have ap : apok 4 0 a2.length = true := by simp [apok]; omega
        have e60 : f60 (A : Int) (C : Int) a2 = some ((A : Int), (C : Int), a2) := by unfold f60; rw [ap]; rfl
        have e64 : f64 (A : Int) (C : Int) a2 = some ((A : Int), (C : Int), a2) := by unfold f64 f104; rw [ap]; rfl
        rw [e60, e64]
        simp only [obind3_eq]
        rw [f25_loop hok, f27_loop hok _ a2 rfl]
        exact ⟨_, _, _, _, rfl, rfl, by rw [putG_len]; exact s2⟩
theorem f28_refl (x y : Int) (l : List F) (h : l.length ≤ 1048576) : f28 x y l x y l = some true := by
  unfold f28
  rw [f48_refl l h]
  simp
theorem f26_eq (x y : Int) (l : List F) (h : l.length ≤ 1048576) : f26 x y l = some (x, y, l) := by
  unfold f26; rw [f61_eq l h]; rfl
theorem f5_true (a0 a1 : Int) (a2 : List F) (a3 a4 : Int) (a5 : List F) (a6 a7 : Int) (s2 : Small a2) (s5 : Small a5) (g2 : FOks a2) (g5 : FOks a5) : f5 a0 a1 a2 a3 a4 a5 a6 a7 = some true := by
  unfold f5
  obtain ⟨r, e, h⟩ := f24_ex a0 a1 a2 1048576 s2 (by omega) (by omega)
  rw [e]
  rw [obind_eq]
  cases hd : decide (r < 0) with
  | true => rfl
  | false =>
  rw [bsel_false]
  simp only [decide_eq_false_iff_not] at hd
  have k := h (by omega)
  obtain ⟨r', e', h'⟩ := f24_ex a3 a4 a5 r s5 (by omega) (by omega)
  rw [e', obind_eq]
  cases hd' : decide (r' < 0) with
  | true => rfl
  | false =>
  rw [bsel_false]
  simp only [decide_eq_false_iff_not] at hd'
  have k' := h' (by omega)
  have t2 : a2.length ≤ 1048576 := by omega
  have t5 : a5.length ≤ 1048576 := by omega
  obtain ⟨x, y, b, L, p1, p2, p3⟩ := put_eq a0 a1 a3 a4 a6 a7 g2 t2 g5 t5
  have hneg : decide (1 + (a2.length : Int) + (a5.length : Int) < 0) = false := by simp; omega
  have hneg2 : decide (1 + (L.length : Int) < 0) = false := by simp; omega
  rw [f26_eq a0 a1 a2 t2, f26_eq a3 a4 a5 t5, obind3_eq, obind3_eq, p1, obind4_eq, obind3_eq, obind3_eq, p2, obind4_eq, f28_refl x y L p3, obind_eq, bsel_true]
  have hb : (!(b == b)) = false := by cases b <;> rfl
  have dn : ∀ n : Nat, decide (n = n) = true := fun n => by simp
  have di : ∀ n : Int, decide (n = n) = true := fun n => by simp
  rw [hb, bsel_false, obind3_eq, f28_refl a0 a1 a2 t2, obind_eq, bsel_true, obind3_eq, f28_refl a3 a4 a5 t5, obind_eq, bsel_true]
  rw [f29_1_eq a0 a1 1 a2 (by omega) (by omega) t2, obind2_eq, marks_len, dn, need_true]
  rw [f29_1_eq a3 a4 (1 + (a2.length : Int)) a5 (by omega) (by omega) t5, obind2_eq, marks_len, dn, need_true, hneg, bsel_false, obind_eq, bsel_true]
  rw [f29_1_eq x y 1 L (by omega) (by omega) p3, obind2_eq, marks_len, dn, need_true, f30_eq x y 1 L.length (by omega) (by omega) p3, obind_eq, hneg2, bsel_false, di, Bool.not_true, bsel_false]
  rw [obind3_eq, obind3_eq, p2, obind4_eq, f28_refl x y L p3, obind_eq, bsel_true, hb, bsel_false, obind_eq, hneg2, bsel_false, di, Bool.not_true, bsel_false]

end Go.Proofs.Ytmgjiomflefedaa
