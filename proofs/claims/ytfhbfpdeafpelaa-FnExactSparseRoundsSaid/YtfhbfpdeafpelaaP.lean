/- The plain law of FnExactSparseRounds. -/
import Derived.Test.YtfhbfpdeafpelaaG1
namespace Go.Proofs.Ytfhbfpdeafpelaa
set_option linter.unusedSimpArgs false
set_option linter.unusedVariables false
open Go Go.AM
def Small {α : Type} (l : List α) : Prop := l.length ≤ 9223372036854775807
theorem sz_one (n : Nat) (a : Int) (hn : n ≤ 9223372036854775807) (h0 : 0 ≤ a) (h1 : a ≤ 1048576) :
    ∃ r, olet (IntKind.i64.wrap (a - (n : Int))) (fun x1 => bsel (decide (x1 < 0)) (some (-1)) (some x1)) = some r ∧ (0 ≤ r → (n : Int) ≤ a ∧ r ≤ a) := by
  rw [wrap_i64 (by omega) (by omega)]
  simp only [olet_eq, bsel_if, decide_eq_true_eq]
  split
  · exact ⟨_, rfl, fun h => by omega⟩
  · exact ⟨_, rfl, fun h => by omega⟩
theorem K01_ex (l : List F) (a : Int) (hn : Small l) (h0 : 0 ≤ a) (h1 : a ≤ 1048576) : ∃ r, K01 l a = some r ∧ (0 ≤ r → (l.length : Int) ≤ a ∧ r ≤ a) := sz_one l.length a hn h0 h1
theorem K00_ex (l : List Int) (a : Int) (hn : Small l) (h0 : 0 ≤ a) (h1 : a ≤ 1048576) : ∃ r, K00 l a = some r ∧ (0 ≤ r → (l.length : Int) ≤ a ∧ r ≤ a) := sz_one l.length a hn h0 h1
theorem K04_eq (a : List F) (h : a.length ≤ 1048576) : K04 a = some a := by
  unfold K04
  have hm : mkok 4 (a.length : Int) = true := by simp [mkok]; omega
  rw [hm, need_true, loop_copy (a := a) (ρ := List F) ?_ ?_ _ (by simp)]
  · rfl
  · intro L v x h0 hv hx hL
    show K04_b1 a L v = _
    unfold K04_b1
    have hs := setAt?_of (l := L) (x := x) h0 (by omega)
    simp [bsel_if, hv, at?_of h0 hx, hs, wrap_succ h0 hv (by omega : a.length ≤ 9223372036854775807)]
  · intro L hL
    show K04_b1 a L (a.length : Int) = _
    unfold K04_b1
    simp [bsel_if]
theorem K03_eq (a : List Int) (h : a.length ≤ 1048576) : K03 a = some a := by
  unfold K03
  have hm : mkok 8 (a.length : Int) = true := by simp [mkok]; omega
  rw [hm, need_true, loop_copy (a := a) (ρ := List Int) ?_ ?_ _ (by simp)]
  · rfl
  · intro L v x h0 hv hx hL
    show K03_b1 a L v = _
    unfold K03_b1
    have hs := setAt?_of (l := L) (x := x) h0 (by omega)
    simp [bsel_if, hv, at?_of h0 hx, hs, wrap_succ h0 hv (by omega : a.length ≤ 9223372036854775807)]
  · intro L hL
    show K03_b1 a L (a.length : Int) = _
    unfold K03_b1
    simp [bsel_if]
theorem K1m_refl (c : F) : K1m c c = some true := by
  unfold K1m
  cases h : feq .f64 c c <;> simp [K1m_k1, h, bsel_if]
theorem K1n_refl (a : List F) (h : a.length ≤ 1048576) : K1n a a = some true := by
  unfold K1n
  rw [loop_eq (l := a) (m := a) rfl ?_ ?_]
  · simp [bsel_if, K1n_k1]
  · intro v x y h0 hv hx hy
    rw [hx] at hy; cases hy
    show K1n_b1 a a v = _
    unfold K1n_b1
    rw [at?_of h0 hx, wrap_succ h0 hv (by omega)]
    simp [bsel_if, hv, K1m_refl]
  · show K1n_b1 a a (a.length : Int) = _
    unfold K1n_b1
    simp [bsel_if]
theorem K1o_refl (a : List Int) (h : a.length ≤ 1048576) : K1o a a = some true := by
  unfold K1o
  rw [loop_eq (l := a) (m := a) rfl ?_ ?_]
  · simp [bsel_if, K1o_k1]
  · intro v x y h0 hv hx hy
    rw [hx] at hy; cases hy
    show K1o_b1 a a v = _
    unfold K1o_b1
    rw [at?_of h0 hx, wrap_succ h0 hv (by omega)]
    simp [bsel_if, hv]
  · show K1o_b1 a a (a.length : Int) = _
    unfold K1o_b1
    simp [bsel_if]
def FOks (l : List F) : Prop := ∀ c ∈ l, FOk .f32 c
theorem FOks.at {l : List F} (h : FOks l) {i : Nat} {c : F} (e : l[i]? = some c) : FOk .f32 c := h c (List.mem_of_getElem? e)
theorem K06_eq (n lo hi : Int) : K06 n lo hi = some (decide (lo ≤ n) && decide (n ≤ hi)) := by
  unfold K06; cases decide (lo ≤ n) <;> rfl
theorem K0n_eq (n lo hi : Int) : K0n n lo hi = some (decide (lo ≤ n) && decide (n ≤ hi)) := by
  unfold K0n; cases decide (lo ≤ n) <;> rfl
theorem K07_eq {c : F} (h : FOk .f32 c) : K07 c = some (fin32 c) := by
  unfold K07; rw [olet_eq, sub_self h]
theorem K08_eq {a : List F} (ha : FOks a) (sa : a.length ≤ 1048576) : K08 a = some (a.all fin32) := by
  unfold K08
  rw [loop_all (l := a) (p := fin32) false ?_ ?_]
  · cases h : a.all fin32 <;> simp [K08_k1]
  · intro v x h0 hv hx
    show K08_b1 a v = _
    unfold K08_b1
    rw [at?_of h0 hx, wrap_succ h0 hv (by omega)]
    simp [bsel_if, hv, K07_eq (ha.at hx)]
  · show K08_b1 a (a.length : Int) = _
    unfold K08_b1
    simp [bsel_if]
theorem K0z_eq {c : F} (h : FOk .f32 c) : K0z c = some (fin32 c) := by
  unfold K0z K0y K0v K0x K0w K0x_k1
  cases c with
  | none => simp [fwiden, fin32]
  | some b =>
    have hw := feq_refl (k := .f64) (b := FloatKind.f64.encode (FloatKind.f32.decode b)) (fwiden_ok h)
    have hw' : feq .f64 (fwiden (some b)) (fwiden (some b)) = true := hw
    have hm := fabs_max h (by simp)
    simp only [olet_eq, obind_eq, hw', Bool.not_true, bsel_false, decide_true, bsel_true, hm, Bool.not_not]
theorem K10_eq {c : F} (h : FOk .f32 c) : K10 c = some (!fin32 c) := by
  unfold K10; rw [K0z_eq h]; rfl
theorem any_not {α : Type} (l : List α) (p : α → Bool) : l.any (fun x => !p x) = !l.all p := by
  induction l with
  | nil => rfl
  | cons a l ih => simp [ih]
theorem K13_eq {a : List F} (ha : FOks a) (sa : a.length ≤ 1048576) : K13 a = some (a.all fin32) := by
  unfold K13 K12 K11
  obtain ⟨r, h1, h2⟩ := loop_find (l := a) (p := fun c => !fin32 c) (step := K11_s1 a) (by
    intro v x h0 hv hx
    show K11_b1 a v = _
    unfold K11_b1
    rw [at?_of h0 hx, wrap_succ h0 hv (by omega)]
    simp [bsel_if, hv, K10_eq (ha.at hx)]) (by
    show K11_b1 a (a.length : Int) = _
    unfold K11_b1
    simp [bsel_if])
  rw [h1, any_not]
  cases h : a.all fin32 <;> simp [K11_k1, h2]
def inR (lo hi n : Int) : Bool := decide (lo ≤ n) && decide (n ≤ hi)
theorem K0u_eq {a : List Int} (sa : a.length ≤ 1048576) (lo hi : Int) : K0u a lo hi = some (a.all (inR lo hi)) := by
  unfold K0u K0t K0s
  obtain ⟨r, h1, h2⟩ := loop_find (l := a) (p := fun c => !inR lo hi c) (step := K0s_s1 a lo hi) (by
    intro v x h0 hv hx
    show K0s_b1 a lo hi v = _
    unfold K0s_b1
    rw [at?_of h0 hx, wrap_succ h0 hv (by omega)]
    simp only [obind_eq, olet_eq, K0r, K0n_eq, hv, decide_true, bsel_if]
    rfl) (by
    show K0s_b1 a lo hi (a.length : Int) = _
    unfold K0s_b1
    simp [bsel_if])
  rw [h1, any_not]
  cases h : a.all (inR lo hi) <;> simp [K0s_k1, h2]
theorem fint_ok (n : Int) : FOk .f32 (fint .f32 n) := ⟨_, encode_FR .f32 (d := .number (n < 0) n.natAbs 0) rfl⟩
theorem feq_fint (n : Int) : feq .f32 (fint .f32 n) (fint .f32 n) = true := feq_refl (fint_ok n)
def marks (k : Int) (n : Nat) : List F := (List.range n).map fun (i : Nat) => fint .f32 (k + (i : Int))
def marksI (k : Int) (n : Nat) : List Int := (List.range n).map fun (i : Nat) => k + (i : Int)
theorem marks_len (k : Int) (n : Nat) : (marks k n).length = n := by simp [marks]
theorem marksI_len (k : Int) (n : Nat) : (marksI k n).length = n := by simp [marksI]
theorem loop_mark {α ρ : Type} (mk : Int → α) (k : Int) (n : Nat) {step : List α × Int × Int → Option (LR (List α × Int × Int) (List α × Int) ρ)}
    (hstep : ∀ (L : List α) (i : Nat), i < n → L.length = n → step (L, k + (i : Int), (i : Int)) = some (.next (L.set i (mk (k + (i : Int))), k + ((i + 1 : Nat) : Int), ((i + 1 : Nat) : Int))))
    (hend : ∀ L : List α, L.length = n → step (L, k + (n : Int), (n : Int)) = some (.out (L, k + (n : Int)))) (a : List α) (ha : a.length = n) :
    loopM step (a, k, 0) = some (.inl ((List.range n).map (fun (i : Nat) => mk (k + (i : Int))), k + (n : Int))) := by
  have key : ∀ (m i : Nat) (L : List α), m + i = n → L.length = n → L.take i = (List.range i).map (fun (i : Nat) => mk (k + (i : Int))) → loopM step (L, k + (i : Int), (i : Int)) = some (.inl ((List.range n).map (fun (i : Nat) => mk (k + (i : Int))), k + (n : Int))) := by
    intro m
    induction m with
    | zero =>
      intro i L hi hL ht
      have : i = n := by omega
      subst this
      rw [loopM_out (hend L hL), ← ht, ← hL, List.take_length]
    | succ m ih =>
      intro i L hi hL ht
      rw [loopM_next (hstep L i (by omega) hL)]
      refine ih (i + 1) _ (by omega) (by simpa using hL) ?_
      rw [List.take_succ_eq_append_getElem (by simp; omega), List.take_set_of_le (Nat.le_refl _), ht, List.range_succ, List.map_append]
      simp
  have := key n 0 a (by omega) ha (by simp)
  simpa using this
theorem K1r_eq (k : Int) (a : List F) (h0 : -1000000000 ≤ k) (h1 : k ≤ 1000000000) (ha : a.length ≤ 1048576) : K1r k a = some (k + (a.length : Int), marks k a.length) := by
  unfold K1r
  rw [loop_mark (fun n => fint .f32 n) k a.length (step := K1r_s1 a) ?_ ?_ a rfl]
  · rfl
  · intro L i hi hL
    show K1r_b1 a L (k + (i : Int)) (i : Int) = _
    unfold K1r_b1
    have hs := setAt?_of (l := L) (v := (i : Int)) (x := fint .f32 (k + (i : Int))) (by omega) (by omega)
    have e1 : IntKind.i64.wrap (k + (i : Int) + 1) = k + ((i + 1 : Nat) : Int) := by rw [wrap_i64 (by omega) (by omega)]; omega
    have e2 : IntKind.i64.wrap ((i : Int) + 1) = ((i + 1 : Nat) : Int) := by rw [wrap_i64 (by omega) (by omega)]; omega
    simp only [olet_eq, hs, obind_eq, e1, e2, bsel_if, decide_eq_true_eq]
    rw [if_pos (by omega)]
    rfl
  · intro L hL
    show K1r_b1 a L (k + (a.length : Int)) (a.length : Int) = _
    unfold K1r_b1
    simp [bsel_if]
theorem K1q_eq (k : Int) (a : List Int) (h0 : -1000000000 ≤ k) (h1 : k ≤ 1000000000) (ha : a.length ≤ 1048576) : K1q k a = some (k + (a.length : Int), marksI k a.length) := by
  unfold K1q
  rw [loop_mark (fun n => n) k a.length (step := K1q_s1 a) ?_ ?_ a rfl]
  · rfl
  · intro L i hi hL
    show K1q_b1 a L (k + (i : Int)) (i : Int) = _
    unfold K1q_b1
    have hs := setAt?_of (l := L) (v := (i : Int)) (x := k + (i : Int)) (by omega) (by omega)
    have e1 : IntKind.i64.wrap (k + (i : Int) + 1) = k + ((i + 1 : Nat) : Int) := by rw [wrap_i64 (by omega) (by omega)]; omega
    have e2 : IntKind.i64.wrap ((i : Int) + 1) = ((i + 1 : Nat) : Int) := by rw [wrap_i64 (by omega) (by omega)]; omega
    simp only [olet_eq, hs, obind_eq, e1, e2, bsel_if, decide_eq_true_eq]
    rw [if_pos (by omega)]
    rfl
  · intro L hL
    show K1q_b1 a L (k + (a.length : Int)) (a.length : Int) = _
    unfold K1q_b1
    simp [bsel_if]
theorem loop_held {k : Int} {n : Nat} {step : Int × Int → Option (LR (Int × Int) Int Int)}
    (hstep : ∀ i : Nat, i < n → step (k + (i : Int), (i : Int)) = some (.next (k + ((i + 1 : Nat) : Int), ((i + 1 : Nat) : Int)))) (hend : step (k + (n : Int), (n : Int)) = some (.out (k + (n : Int)))) :
    loopM step (k, 0) = some (.inl (k + (n : Int))) := by
  have key : ∀ (m i : Nat), m + i = n → loopM step (k + (i : Int), (i : Int)) = some (.inl (k + (n : Int))) := by
    intro m
    induction m with
    | zero => intro i hi; have : i = n := by omega
              subst this; exact loopM_out hend
    | succ m ih => intro i hi; rw [loopM_next (hstep i (by omega))]; exact ih (i + 1) (by omega)
  have := key n 0 (by omega)
  simpa using this
theorem K1t_eq (k : Int) (n : Nat) (h0 : -1000000000 ≤ k) (h1 : k ≤ 1000000000) (hn : n ≤ 1048576) : K1t (marks k n) k = some (k + (n : Int)) := by
  unfold K1t
  rw [loop_held (k := k) (n := n) (step := K1t_s1 (marks k n)) ?_ ?_]
  · rfl
  · intro i hi
    show K1t_b1 (marks k n) (k + (i : Int)) (i : Int) = _
    unfold K1t_b1
    have hx : (marks k n)[(i : Int).toNat]? = some (fint .f32 (k + (i : Int))) := by simp [marks, hi]
    have e1 : IntKind.i64.wrap (k + (i : Int) + 1) = k + ((i + 1 : Nat) : Int) := by rw [wrap_i64 (by omega) (by omega)]; omega
    have e2 : IntKind.i64.wrap ((i : Int) + 1) = ((i + 1 : Nat) : Int) := by rw [wrap_i64 (by omega) (by omega)]; omega
    rw [at?_of (by omega) hx]
    simp only [olet_eq, obind_eq, e1, e2, bsel_if, decide_eq_true_eq, marks_len, feq_fint]
    rw [if_pos (by omega)]
    simp
  · show K1t_b1 (marks k n) (k + (n : Int)) (n : Int) = _
    unfold K1t_b1
    simp [bsel_if, marks_len]
theorem FOks.set {l : List F} (h : FOks l) {n : Nat} {x : F} (hx : FOk .f32 x) : FOks (l.set n x) := by
  intro c hc
  rcases List.mem_or_eq_of_mem_set hc with h1 | h1
  · exact h c h1
  · exact h1 ▸ hx
theorem wsucc {i : Nat} (h : i ≤ 1000000000) : IntKind.i64.wrap ((i : Int) + 1) = ((i + 1 : Nat) : Int) := by
  rw [wrap_i64 (by omega) (by omega)]; omega
theorem dlt {i n : Nat} (h : i < n) : decide ((i : Int) < (n : Int)) = true := by simp; omega
theorem dnlt {n : Nat} : decide ((n : Int) < (n : Int)) = false := by simp
theorem K1b_eq (a b : F) : K1b a b = some (fop .mul .f32 a b) := rfl
theorem ford_zero {x : F} (h : FOk .f32 x) (hf : fin32 x = true) : ∃ o, ford .f32 x (some 0) = some o := by
  cases x with
  | none => cases hf
  | some b =>
    have hn := h.some.2
    rcases read_cases (f := Ieee.single) (fmt_ok .f32) hn with ⟨g1, _⟩ | ⟨_, g2⟩
    · exact ⟨_, order_zero g1⟩
    · have : (Ieee.single.read b).isInfinity = true := by rw [g2]; rfl
      simp only [fin32, this] at hf
      cases hf
theorem least_eq {x : F} (h : FOk .f32 x) (hf : fin32 x = true) : fle .f32 (some 0) x = !flt .f32 x (some 0) := by
  obtain ⟨o, ho⟩ := ford_zero h hf
  unfold fle flt
  rw [ford_swap (a := x) (b := some 0), ho]
  cases o <;> rfl
theorem K0b_eq {x : F} (h : FOk .f32 x) : K0b x = some (fin32 x && !flt .f32 x (some 0)) := by
  unfold K0b
  rw [K07_eq h, obind_eq]
  cases hf : fin32 x with
  | false => rfl
  | true => rw [bsel_true, least_eq h hf]; rfl
theorem K1j_eq {y : F} (h : FOk .f32 y) : K1j y = some (rootN y) := by
  unfold K1j K0h
  rw [olet_eq, olet_eq, obind_eq, root_narrow h]; rfl
theorem K0j_eq {y : F} (h : FOk .f32 y) : K0j y = some (rootN y) := by
  unfold K0j K0h K0i
  rw [olet_eq, olet_eq, obind_eq, root_narrow h]; rfl
theorem run_map {α : Type} (f : Nat → α) : ∀ n : Nat, run (fun i (l : List α) => l ++ [f i]) 0 n [] = (List.range n).map f
  | 0 => rfl
  | n + 1 => by rw [run_last, run_map f n]; simp [List.range_succ]
def dotE (f g : Nat → F) (i : Nat) (y : F) : F := fop .add .f32 y (fop .mul .f32 (f i) (g i))
def dotN (f g : Nat → F) (n : Nat) : F := run (dotE f g) 0 n (some 0)
theorem zero_ok : FOk .f32 (some 0) := ⟨0, rfl, by decide, rfl⟩
theorem dotN_ok (f g : Nat → F) (n : Nat) : FOk .f32 (dotN f g n) := run_inv (fun _ y => FOk .f32 y) n 0 (some 0) zero_ok fun _ _ _ _ _ => fop_fok _ _ _
theorem K1i_eq {l m : List F} (hl : l.length ≤ m.length) (hs : l.length ≤ 1000000) : K1i l m = some (dotN (fun i => l.getD i none) (fun i => m.getD i none) l.length) := by
  obtain ⟨e, _⟩ := loop_run (step := K1i_s1 l m) (fun (i : Nat) (y : F) => (y, (i : Int))) (dotE (fun i => l.getD i none) (fun i => m.getD i none)) (fun y => y) (fun _ _ => True) (lo := 0) (n := l.length) (Nat.zero_le _) (s0 := some 0) trivial
    (fun i y _ hi _ => by
      refine ⟨?_, trivial⟩
      show K1i_b1 _ _ _ _ = _
      unfold K1i_b1
      rw [dlt hi, bsel_true, at?_n none hi, obind_eq, at?_n none (by omega), obind_eq, K1b_eq, obind_eq, olet_eq, wsucc (by omega)]
      rfl)
    (fun y _ => by
      show K1i_b1 _ _ _ _ = _
      unfold K1i_b1
      rw [dnlt, bsel_false])
  unfold K1i
  replace e : loopM (K1i_s1 l m) (some 0, 0) = some (.inl (run (dotE (fun i => l.getD i none) (fun i => m.getD i none)) 0 (l.length - 0) (some 0))) := e
  rw [e]; rfl
def allP (p : Nat → Bool) : Nat → Nat → Bool
  | _, 0 => true
  | i, m + 1 => p i && allP p (i + 1) m
theorem allP_iff {p : Nat → Bool} : ∀ (m i : Nat), allP p i m = true ↔ ∀ j, i ≤ j → j < i + m → p j = true
  | 0, i => ⟨fun _ j h1 h2 => by omega, fun _ => rfl⟩
  | m + 1, i => by
    simp only [allP, Bool.and_eq_true, allP_iff m (i + 1)]
    constructor
    · rintro ⟨h1, h2⟩ j h3 h4
      by_cases e : j = i
      · rw [e]; exact h1
      · exact h2 j (by omega) (by omega)
    · intro h
      exact ⟨h i (by omega) (by omega), fun j h1 h2 => h j (by omega) (by omega)⟩
theorem loop_test {S : Type} {step : S → Option (LR S Unit Bool)} (mk : Nat → S) (p : Nat → Bool) (Inv : Nat → Prop) {lo n : Nat} (hlo : lo ≤ n) (h0 : Inv lo)
    (hs : ∀ i, lo ≤ i → i < n → Inv i → step (mk i) = some (bif p i then .next (mk (i + 1)) else .ret false) ∧ (p i = true → Inv (i + 1))) (he : Inv n → step (mk n) = some (.out ())) :
    loopM step (mk lo) = some (bif allP p lo (n - lo) then .inl () else .inr false) := by
  have key : ∀ (m i : Nat), i + m = n → lo ≤ i → Inv i → loopM step (mk i) = some (bif allP p i m then .inl () else .inr false) := by
    intro m
    induction m with
    | zero =>
      intro i hi _ hI
      have : i = n := by omega
      subst this
      exact loopM_out (he hI)
    | succ m ih =>
      intro i hi hl hI
      obtain ⟨h1, h2⟩ := hs i hl (by omega) hI
      cases hp : p i with
      | true =>
        rw [hp, cond_true] at h1
        rw [loopM_next h1, ih (i + 1) (by omega) (by omega) (h2 hp)]
        simp only [allP, hp, Bool.true_and]
      | false =>
        rw [hp, cond_false] at h1
        rw [loopM_ret h1]
        simp only [allP, hp, Bool.false_and]; rfl
  exact key (n - lo) lo (by omega) (Nat.le_refl _) h0
abbrev gI (l : List Int) (i : Nat) : Int := l.getD i 0
structure SpIn (S : Nat) (a1 a2 : List Int) : Prop where
  S1 : 1 ≤ S
  S2 : S ≤ 32
  l1 : a1.length = S + 1
  l2 : a2.length ≤ 512
  z : gI a1 0 = 0
  e : gI a1 S = (a2.length : Int)
structure SpGood (S : Nat) (a1 a2 : List Int) : Prop where
  s : ∀ i, i < S → gI a1 i ≤ gI a1 (i + 1)
  c : ∀ k, k < a2.length → 0 ≤ gI a2 k ∧ gI a2 k ≤ (S : Int) - 1
  o : ∀ i, i < S → ∀ k : Nat, gI a1 i < (k : Int) → (k : Int) < gI a1 (i + 1) → gI a2 (k - 1) < gI a2 k
theorem SpGood.mono {S : Nat} {a1 a2 : List Int} (h : SpGood S a1 a2) : ∀ (d i : Nat), i + d ≤ S → gI a1 i ≤ gI a1 (i + d)
  | 0, i, _ => Int.le_refl _
  | d + 1, i, hd => Int.le_trans (h.mono d i (by omega)) (h.s (i + d) (by omega))
theorem SpGood.lo {S : Nat} {a1 a2 : List Int} (h : SpGood S a1 a2) (i0 : SpIn S a1 a2) {i : Nat} (hi : i ≤ S) : 0 ≤ gI a1 i ∧ gI a1 i ≤ (a2.length : Int) := by
  have h1 := h.mono i 0 (by omega)
  have h2 := h.mono (S - i) i (by omega)
  rw [Nat.zero_add, i0.z] at h1
  rw [show i + (S - i) = S by omega, i0.e] at h2
  exact ⟨h1, h2⟩
def spK (S : Nat) (a1 a2 : List Int) (i k : Nat) : Bool := inR 0 ((S : Int) - 1) (gI a2 k) && (bif decide (gI a1 i < (k : Int)) then !decide (gI a2 k ≤ gI a2 (k - 1)) else true)
def spRow (S : Nat) (a1 a2 : List Int) (i : Nat) : Bool := !decide (gI a1 (i + 1) < gI a1 i) && (!decide ((a2.length : Int) < gI a1 (i + 1)) && allP (spK S a1 a2 i) (gI a1 i).toNat ((gI a1 (i + 1)).toNat - (gI a1 i).toNat))
theorem K09_inner {S : Nat} {a1 a2 : List Int} (h : SpIn S a1 a2) {i : Nat} (hi : i < S) (h0 : 0 ≤ gI a1 i) (h1 : gI a1 i ≤ gI a1 (i + 1)) (h2 : gI a1 (i + 1) ≤ (a2.length : Int)) :
    loopM (K09_s6 (S : Int) a1 a2 (i : Int)) (gI a1 i) = some (bif allP (spK S a1 a2 i) (gI a1 i).toNat ((gI a1 (i + 1)).toNat - (gI a1 i).toNat) then .inl () else .inr false) := by
  have l1 := h.l1
  have l2 := h.l2
  have S2 := h.S2
  have S1 := h.S1
  have e := loop_test (step := K09_s6 (S : Int) a1 a2 (i : Int)) (fun (k : Nat) => (k : Int)) (spK S a1 a2 i) (fun _ => True) (lo := (gI a1 i).toNat) (n := (gI a1 (i + 1)).toNat) (by omega) trivial
    (fun k hk1 hk2 _ => by
      refine ⟨?_, fun _ => trivial⟩
      show K09_b6 _ _ _ _ _ = _
      unfold K09_b6
      have hkl : k < a2.length := by omega
      have hd : decide ((k : Int) < gI a1 (i + 1)) = true := decide_eq_true (by omega)
      have hw : IntKind.i64.wrap ((S : Int) - 1) = (S : Int) - 1 := wrap_i64 (by omega) (by omega)
      rw [wsucc (by omega), olet_eq, at?_n 0 (by omega), obind_eq, hd, bsel_true, at?_n 0 hkl, obind_eq, hw, olet_eq, K06_eq, obind_eq]
      unfold spK inR
      cases hin : decide (0 ≤ gI a2 k) && decide (gI a2 k ≤ (S : Int) - 1) with
      | false => rfl
      | true =>
        rw [bsel_true, at?_n 0 (by omega), obind_eq, Bool.true_and]
        cases hlt : decide (gI a1 i < (k : Int)) with
        | false =>
          rw [bsel_false, cond_false, cond_true]
          unfold K09_k5
          rw [wsucc (by omega)]; rfl
        | true =>
          have hlt' : gI a1 i < (k : Int) := of_decide_eq_true hlt
          have hw2 : IntKind.i64.wrap ((k : Int) - 1) = ((k - 1 : Nat) : Int) := by rw [wrap_i64 (by omega) (by omega)]; omega
          rw [bsel_true, cond_true, obind_eq, hw2, olet_eq, at?_n 0 (by omega), obind_eq]
          unfold K09_k5
          rw [wsucc (by omega)]
          cases decide (gI a2 k ≤ gI a2 (k - 1)) <;> rfl)
    (fun _ => by
      show K09_b6 _ _ _ _ _ = _
      unfold K09_b6
      have hd : decide ((((gI a1 (i + 1)).toNat : Nat) : Int) < gI a1 (i + 1)) = false := decide_eq_false (by omega)
      rw [wsucc (by omega), olet_eq, at?_n 0 (by omega), obind_eq, hd, bsel_false])
  have hz : (((gI a1 i).toNat : Nat) : Int) = gI a1 i := by omega
  rw [hz] at e
  exact e
theorem K09_rows {S : Nat} {a1 a2 : List Int} (h : SpIn S a1 a2) : loopM (K09_s7 (S : Int) a1 a2) 0 = some (bif allP (spRow S a1 a2) 0 S then .inl () else .inr false) := by
  have l1 := h.l1
  have S2 := h.S2
  exact loop_test (step := K09_s7 (S : Int) a1 a2) (fun (i : Nat) => (i : Int)) (spRow S a1 a2) (fun i => 0 ≤ gI a1 i) (lo := 0) (n := S) (Nat.zero_le _) (by have := h.z; omega)
    (fun i _ hi h0 => by
      show K09_b7 _ _ _ _ = _ ∧ _
      unfold K09_b7 spRow
      rw [dlt hi, bsel_true, wsucc (by omega), olet_eq, at?_n 0 (by omega), obind_eq, at?_n 0 (by omega), obind_eq]
      cases h1 : decide (gI a1 (i + 1) < gI a1 i) with
      | true => exact ⟨rfl, fun e => by cases e⟩
      | false =>
        have h1' : gI a1 i ≤ gI a1 (i + 1) := by simpa using h1
        rw [bsel_false, olet_eq, at?_n 0 (by omega), obind_eq]
        cases h2 : decide ((a2.length : Int) < gI a1 (i + 1)) with
        | true => exact ⟨rfl, fun e => by cases e⟩
        | false =>
          have h2' : gI a1 (i + 1) ≤ (a2.length : Int) := by simpa using h2
          refine ⟨?_, fun _ => by omega⟩
          rw [bsel_false, obind_eq, K09_inner h hi h0 h1' h2', obind_eq]
          cases allP (spK S a1 a2 i) (gI a1 i).toNat ((gI a1 (i + 1)).toNat - (gI a1 i).toNat) with
          | false => rfl
          | true =>
            rw [cond_true, osum_inl]
            unfold K09_k6
            rw [wsucc (by omega)]; rfl)
    (fun _ => by
      show K09_b7 _ _ _ _ = _
      unfold K09_b7
      rw [dnlt, bsel_false])
theorem sp_cover {S : Nat} {a1 a2 : List Int} (h : SpIn S a1 a2) {k : Nat} (hk : k < a2.length) : ∀ n, n ≤ S → (k : Int) < gI a1 n → ∃ i, i < n ∧ gI a1 i ≤ (k : Int) ∧ (k : Int) < gI a1 (i + 1)
  | 0, _, h1 => by have := h.z; omega
  | n + 1, hn, h1 => by
    by_cases h2 : gI a1 n ≤ (k : Int)
    · exact ⟨n, by omega, h2, h1⟩
    · obtain ⟨i, hi, e⟩ := sp_cover h hk n (by omega) (by omega)
      exact ⟨i, by omega, e⟩
theorem spRows_iff {S : Nat} {a1 a2 : List Int} (h : SpIn S a1 a2) : allP (spRow S a1 a2) 0 S = true ↔ SpGood S a1 a2 := by
  have S1 := h.S1
  rw [allP_iff]
  constructor
  · intro H
    have row : ∀ i, i < S → gI a1 i ≤ gI a1 (i + 1) ∧ ∀ k : Nat, (gI a1 i).toNat ≤ k → k < (gI a1 i).toNat + ((gI a1 (i + 1)).toNat - (gI a1 i).toNat) → spK S a1 a2 i k = true := by
      intro i hi
      have := H i (by omega) (by omega)
      unfold spRow at this
      simp only [Bool.and_eq_true, Bool.not_eq_true', decide_eq_false_iff_not, allP_iff] at this
      exact ⟨by omega, this.2.2⟩
    have lo : ∀ i, i ≤ S → 0 ≤ gI a1 i := by
      intro i
      induction i with
      | zero => intro _; have := h.z; omega
      | succ i ih => intro hi; have := ih (by omega); have := (row i (by omega)).1; omega
    refine ⟨fun i hi => (row i hi).1, fun k hk => ?_, fun i hi k h1 h2 => ?_⟩
    · obtain ⟨i, hi, h1, h2⟩ := sp_cover h hk S (Nat.le_refl _) (by have := h.e; omega)
      have h0 := lo i (by omega)
      have := (row i hi).2 k (by omega) (by omega)
      unfold spK inR at this
      simp only [Bool.and_eq_true, decide_eq_true_eq] at this
      exact this.1
    · have h0 := lo i (by omega)
      have := (row i hi).2 k (by omega) (by omega)
      unfold spK at this
      simp only [Bool.and_eq_true] at this
      have h3 := this.2
      rw [decide_eq_true h1, cond_true] at h3
      simp at h3
      exact h3
  · intro G i _ hi
    have hi' : i < S := by omega
    have b1 := G.lo h (i := i) (by omega)
    have b2 := G.lo h (i := i + 1) (by omega)
    have b3 := G.s i hi'
    unfold spRow
    simp only [Bool.and_eq_true, Bool.not_eq_true', decide_eq_false_iff_not, allP_iff]
    refine ⟨by omega, by omega, fun k h1 h2 => ?_⟩
    have hk := G.c k (by omega)
    unfold spK inR
    simp only [Bool.and_eq_true, decide_eq_true_eq]
    refine ⟨hk, ?_⟩
    cases h3 : decide (gI a1 i < (k : Int)) with
    | false => rfl
    | true =>
      have := G.o i hi' k (of_decide_eq_true h3) (by omega)
      simp; exact this
def soJ (a1 : List Int) (j : Nat) : Bool := !decide (gI a1 (a1.length - 1 - j) < gI a1 (a1.length - 1 - j - 1))
theorem K0q_rows {a1 : List Int} (h1 : 1 ≤ a1.length) (h2 : a1.length ≤ 1000) : K0q a1 = some (allP (soJ a1) 0 (a1.length - 1)) := by
  have e := loop_test (step := K0q_s1 a1) (fun (j : Nat) => ((a1.length - 1 - j : Nat) : Int)) (soJ a1) (fun _ => True) (lo := 0) (n := a1.length - 1) (Nat.zero_le _) trivial
    (fun j _ hj _ => by
      refine ⟨?_, fun _ => trivial⟩
      show K0q_b1 _ _ = _
      unfold K0q_b1
      have hd : decide ((0 : Int) < ((a1.length - 1 - j : Nat) : Int)) = true := decide_eq_true (by omega)
      have hw : IntKind.i64.wrap (((a1.length - 1 - j : Nat) : Int) - 1) = ((a1.length - 1 - j - 1 : Nat) : Int) := by rw [wrap_i64 (by omega) (by omega)]; omega
      have hw2 : a1.length - 1 - j - 1 = a1.length - 1 - (j + 1) := by omega
      rw [hd, bsel_true, at?_n 0 (by omega), obind_eq, hw, olet_eq, at?_n 0 (by omega), obind_eq]
      unfold K0p K0o soJ
      have hs : ∀ x : Int, (!decide (x = x)) = false := fun x => by simp
      rw [hs, obind_eq, bsel_false, obind_eq, olet_eq, hw2]
      cases decide (gI a1 (a1.length - 1 - j) < gI a1 (a1.length - 1 - (j + 1))) <;> rfl)
    (fun _ => by
      show K0q_b1 _ _ = _
      unfold K0q_b1
      have hd : decide ((0 : Int) < ((a1.length - 1 - (a1.length - 1) : Nat) : Int)) = false := by simp
      rw [hd, bsel_false])
  unfold K0q
  have hw : IntKind.i64.wrap ((a1.length : Int) - 1) = ((a1.length - 1 - 0 : Nat) : Int) := by rw [wrap_i64 (by omega) (by omega)]; omega
  rw [hw, olet_eq, e, obind_eq, Nat.sub_zero]
  cases allP (soJ a1) 0 (a1.length - 1) <;> rfl
def imK (a2 : List Int) (k : Nat) : Bool := !decide (gI a2 k ≤ gI a2 (k - 1))
def imRow (a1 a2 : List Int) (i : Nat) : Bool := allP (imK a2) ((gI a1 i).toNat + 1) ((gI a1 (i + 1)).toNat - ((gI a1 i).toNat + 1))
theorem K14_inner {S : Nat} {a1 a2 : List Int} (h : SpIn S a1 a2) {i : Nat} (hi : i < S) (h0 : 0 ≤ gI a1 i) (h1 : gI a1 i ≤ gI a1 (i + 1)) (h2 : gI a1 (i + 1) ≤ (a2.length : Int)) :
    loopM (K14_s2 a1 a2 (i : Int)) (gI a1 i + 1) = some (bif imRow a1 a2 i then .inl () else .inr false) := by
  have l1 := h.l1
  have l2 := h.l2
  have S2 := h.S2
  have hz : (((gI a1 i).toNat + 1 : Nat) : Int) = gI a1 i + 1 := by omega
  by_cases hlt : gI a1 i < gI a1 (i + 1)
  · have e := loop_test (step := K14_s2 a1 a2 (i : Int)) (fun (k : Nat) => (k : Int)) (imK a2) (fun _ => True) (lo := (gI a1 i).toNat + 1) (n := (gI a1 (i + 1)).toNat) (by omega) trivial
      (fun k hk1 hk2 _ => by
        refine ⟨?_, fun _ => trivial⟩
        show K14_b2 _ _ _ _ = _
        unfold K14_b2 imK
        have hkl : k < a2.length := by omega
        have hd : decide ((k : Int) < gI a1 (i + 1)) = true := decide_eq_true (by omega)
        have hw2 : IntKind.i64.wrap ((k : Int) - 1) = ((k - 1 : Nat) : Int) := by rw [wrap_i64 (by omega) (by omega)]; omega
        rw [wsucc (by omega), olet_eq, at?_n 0 (by omega), obind_eq, hd, bsel_true, hw2, olet_eq, at?_n 0 (by omega), obind_eq, at?_n 0 hkl, obind_eq, wsucc (by omega)]
        cases decide (gI a2 k ≤ gI a2 (k - 1)) <;> rfl)
      (fun _ => by
        show K14_b2 _ _ _ _ = _
        unfold K14_b2
        have hd : decide ((((gI a1 (i + 1)).toNat : Nat) : Int) < gI a1 (i + 1)) = false := decide_eq_false (by omega)
        rw [wsucc (by omega), olet_eq, at?_n 0 (by omega), obind_eq, hd, bsel_false])
    rw [hz] at e
    exact e
  · have hd : decide (gI a1 i + 1 < gI a1 (i + 1)) = false := decide_eq_false (by omega)
    have hq : (gI a1 (i + 1)).toNat - ((gI a1 i).toNat + 1) = 0 := by omega
    unfold imRow
    rw [hq]
    refine loopM_out ?_
    show K14_b2 _ _ _ _ = _
    unfold K14_b2
    rw [wsucc (by omega), olet_eq, at?_n 0 (by omega), obind_eq, hd, bsel_false]
theorem K14_rows {S : Nat} {a1 a2 : List Int} (h : SpIn S a1 a2) (hs : ∀ i, i < S → gI a1 i ≤ gI a1 (i + 1)) : loopM (K14_s3 (S : Int) a1 a2) 0 = some (bif allP (imRow a1 a2) 0 S then .inl () else .inr false) := by
  have l1 := h.l1
  have l2 := h.l2
  have S2 := h.S2
  have mono : ∀ (d i : Nat), i + d ≤ S → gI a1 i ≤ gI a1 (i + d) := by
    intro d
    induction d with
    | zero => intro i _; exact Int.le_refl _
    | succ d ih => intro i hd; exact Int.le_trans (ih i (by omega)) (hs (i + d) (by omega))
  have lo : ∀ i, i ≤ S → 0 ≤ gI a1 i ∧ gI a1 i ≤ (a2.length : Int) := by
    intro i hi
    have h1 := mono i 0 (by omega)
    have h2 := mono (S - i) i (by omega)
    rw [Nat.zero_add, h.z] at h1
    rw [show i + (S - i) = S by omega, h.e] at h2
    exact ⟨h1, h2⟩
  exact loop_test (step := K14_s3 (S : Int) a1 a2) (fun (i : Nat) => (i : Int)) (imRow a1 a2) (fun _ => True) (lo := 0) (n := S) (Nat.zero_le _) trivial
    (fun i _ hi _ => by
      refine ⟨?_, fun _ => trivial⟩
      show K14_b3 _ _ _ _ = _
      unfold K14_b3
      have b1 := lo i (by omega)
      have b2 := lo (i + 1) (by omega)
      have hw : IntKind.i64.wrap (gI a1 i + 1) = gI a1 i + 1 := wrap_i64 (by omega) (by omega)
      rw [dlt hi, bsel_true, at?_n 0 (by omega), obind_eq, hw, olet_eq, K14_inner h hi b1.1 (hs i hi) b2.2, obind_eq]
      cases imRow a1 a2 i with
      | false => rfl
      | true =>
        rw [cond_true, osum_inl]
        unfold K14_k2
        rw [wsucc (by omega)]; rfl)
    (fun _ => by
      show K14_b3 _ _ _ _ = _
      unfold K14_b3
      rw [dnlt, bsel_false])
theorem so_iff {S : Nat} {a1 a2 : List Int} (h : SpIn S a1 a2) : allP (soJ a1) 0 (a1.length - 1) = true ↔ ∀ i, i < S → gI a1 i ≤ gI a1 (i + 1) := by
  have l1 := h.l1
  rw [allP_iff]
  unfold soJ
  rw [l1]
  constructor
  · intro H i hi
    have := H (S - 1 - i) (by omega) (by omega)
    rw [show S + 1 - 1 - (S - 1 - i) = i + 1 by omega, show i + 1 - 1 = i by omega] at this
    simp at this
    exact this
  · intro H j _ hj
    have := H (S - 1 - j) (by omega)
    rw [show S - 1 - j + 1 = S + 1 - 1 - j by omega] at this
    rw [show S + 1 - 1 - j - 1 = S - 1 - j by omega]
    simp; exact this
open Classical in
noncomputable def validS (a0 : Int) (a1 a2 : List Int) (a3 : List F) : Bool := decide (∃ S : Nat, a0 = (S : Int) ∧ SpIn S a1 a2 ∧ SpGood S a1 a2 ∧ a3.length = a2.length ∧ a3.all fin32 = true)
theorem validS_of {a0 : Int} {a1 a2 : List Int} {a3 : List F} (h : ∃ S : Nat, a0 = (S : Int) ∧ SpIn S a1 a2 ∧ SpGood S a1 a2 ∧ a3.length = a2.length ∧ a3.all fin32 = true) : validS a0 a1 a2 a3 = true := by
  unfold validS
  classical exact decide_eq_true h
theorem validS_spec {a0 : Int} {a1 a2 : List Int} {a3 : List F} (h : validS a0 a1 a2 a3 = true) : ∃ S : Nat, a0 = (S : Int) ∧ SpIn S a1 a2 ∧ SpGood S a1 a2 ∧ a3.length = a2.length ∧ a3.all fin32 = true := by
  unfold validS at h
  classical exact of_decide_eq_true h
theorem K09_eq (a0 : Int) (a1 a2 : List Int) {a3 : List F} (g3 : FOks a3) (s3 : a3.length ≤ 1048576) (s1 : a1.length ≤ 1048576) : K09 a0 a1 a2 a3 = some (validS a0 a1 a2 a3) := by
  have no : ∀ b : Bool, b = false → (∀ S : Nat, a0 = (S : Int) → SpIn S a1 a2 → SpGood S a1 a2 → a3.length = a2.length → a3.all fin32 = true → False) → some b = some (validS a0 a1 a2 a3) := by
    intro b hb h
    rw [hb]; congr 1; symm
    unfold validS
    rw [decide_eq_false_iff_not]
    rintro ⟨S, h1, h2, h3, h4, h5⟩
    exact h S h1 h2 h3 h4 h5
  unfold K09
  rw [K06_eq, obind_eq]
  cases h0 : decide (1 ≤ a0) && decide (a0 ≤ 32) with
  | false =>
    refine no _ rfl fun S e h _ _ _ => ?_
    have := h.S1; have := h.S2
    subst e
    rw [decide_eq_true (by omega), decide_eq_true (by omega)] at h0; cases h0
  | true =>
    simp only [Bool.and_eq_true, decide_eq_true_eq] at h0
    obtain ⟨S, rfl⟩ : ∃ S : Nat, a0 = (S : Int) := ⟨a0.toNat, by omega⟩
    rw [bsel_true, wsucc (by omega), olet_eq]
    cases h1 : decide ((a1.length : Int) = ((S + 1 : Nat) : Int)) with
    | false =>
      refine no _ rfl fun S' e h _ _ _ => ?_
      have := h.l1
      rw [decide_eq_true (by omega)] at h1; cases h1
    | true =>
      have l1 : a1.length = S + 1 := by have := of_decide_eq_true h1; omega
      rw [Bool.not_true, bsel_false]
      cases h2 : decide ((512 : Int) < (a2.length : Int)) with
      | true =>
        refine no _ rfl fun S' e h _ _ _ => ?_
        have := h.l2
        have := of_decide_eq_true h2; omega
      | false =>
        have l2 : a2.length ≤ 512 := by have := of_decide_eq_false h2; omega
        rw [bsel_false]
        cases h3 : decide ((a3.length : Int) = (a2.length : Int)) with
        | false =>
          refine no _ rfl fun S' e h _ l _ => ?_
          rw [decide_eq_true (by omega)] at h3; cases h3
        | true =>
          have l3 : a3.length = a2.length := by have := of_decide_eq_true h3; omega
          rw [Bool.not_true, bsel_false, K08_eq g3 s3, obind_eq]
          cases h4 : a3.all fin32 with
          | false => exact no _ rfl fun S' e h _ l f => by rw [h4] at f; cases f
          | true =>
            rw [bsel_true, show (0 : Int) = ((0 : Nat) : Int) from rfl, at?_n 0 (by omega), obind_eq]
            cases h5 : decide (gI a1 0 = ((0 : Nat) : Int)) with
            | false =>
              refine no _ rfl fun S' e h _ l f => ?_
              have := h.z
              rw [decide_eq_true (by omega)] at h5; cases h5
            | true =>
              have z : gI a1 0 = 0 := of_decide_eq_true h5
              rw [Bool.not_true, bsel_false, at?_n 0 (by omega), obind_eq]
              cases h6 : decide (gI a1 S = (a2.length : Int)) with
              | false =>
                refine no _ rfl fun S' e h _ l f => ?_
                have h7 := h.e
                have : S = S' := by omega
                subst this
                rw [decide_eq_true h7] at h6; cases h6
              | true =>
                have hS : SpIn S a1 a2 := ⟨by omega, by omega, l1, l2, z, of_decide_eq_true h6⟩
                have e := K09_rows hS
                rw [Bool.not_true, bsel_false, show ((0 : Nat) : Int) = 0 from rfl, e, obind_eq]
                cases hb : allP (spRow S a1 a2) 0 S with
                | false =>
                  refine no _ rfl fun S' e h G l f => ?_
                  have : S = S' := by omega
                  subst this
                  rw [(spRows_iff h).2 G] at hb; cases hb
                | true =>
                  rw [cond_true, osum_inl]
                  unfold K09_k7
                  congr 1; symm
                  exact validS_of ⟨S, rfl, hS, (spRows_iff hS).1 hb, l3, h4⟩
theorem K14_eq (a0 : Int) (a1 a2 : List Int) {a3 : List F} (g3 : FOks a3) (s3 : a3.length ≤ 1048576) (s1 : a1.length ≤ 1048576) (s2 : a2.length ≤ 1048576) : K14 a0 a1 a2 a3 = some (validS a0 a1 a2 a3) := by
  have no : ∀ b : Bool, b = false → (∀ S : Nat, a0 = (S : Int) → SpIn S a1 a2 → SpGood S a1 a2 → a3.length = a2.length → a3.all fin32 = true → False) → some b = some (validS a0 a1 a2 a3) := by
    intro b hb h
    rw [hb]; congr 1; symm
    unfold validS
    rw [decide_eq_false_iff_not]
    rintro ⟨S, h1, h2, h3, h4, h5⟩
    exact h S h1 h2 h3 h4 h5
  unfold K14 K0m
  rw [obind_eq, K0n_eq, obind_eq]
  cases h0 : decide (1 ≤ a0) && decide (a0 ≤ 32) with
  | false =>
    refine no _ rfl fun S e h _ _ _ => ?_
    have := h.S1; have := h.S2
    subst e
    rw [decide_eq_true (by omega), decide_eq_true (by omega)] at h0; cases h0
  | true =>
    simp only [Bool.and_eq_true, decide_eq_true_eq] at h0
    obtain ⟨S, rfl⟩ : ∃ S : Nat, a0 = (S : Int) := ⟨a0.toNat, by omega⟩
    rw [bsel_true, obind_eq, wsucc (by omega), olet_eq]
    cases h1 : decide ((a1.length : Int) = ((S + 1 : Nat) : Int)) with
    | false =>
      refine no _ rfl fun S' e h _ _ _ => ?_
      have := h.l1
      rw [decide_eq_true (by omega)] at h1; cases h1
    | true =>
      have l1 : a1.length = S + 1 := by have := of_decide_eq_true h1; omega
      rw [Bool.not_true, bsel_false]
      cases h2 : decide ((512 : Int) < (a2.length : Int)) with
      | true =>
        refine no _ rfl fun S' e h _ _ _ => ?_
        have := h.l2
        have := of_decide_eq_true h2; omega
      | false =>
        have l2 : a2.length ≤ 512 := by have := of_decide_eq_false h2; omega
        rw [bsel_false]
        cases h3 : decide ((a3.length : Int) = (a2.length : Int)) with
        | false =>
          refine no _ rfl fun S' e h _ l _ => ?_
          rw [decide_eq_true (by omega)] at h3; cases h3
        | true =>
          have l3 : a3.length = a2.length := by have := of_decide_eq_true h3; omega
          rw [Bool.not_true, bsel_false, show (0 : Int) = ((0 : Nat) : Int) from rfl, at?_n 0 (by omega), obind_eq]
          cases h5 : decide (gI a1 0 = ((0 : Nat) : Int)) with
          | false =>
            refine no _ rfl fun S' e h _ l f => ?_
            have := h.z
            rw [decide_eq_true (by omega)] at h5; cases h5
          | true =>
            have z : gI a1 0 = 0 := of_decide_eq_true h5
            rw [Bool.not_true, bsel_false, at?_n 0 (by omega), obind_eq]
            cases h6 : decide (gI a1 S = (a2.length : Int)) with
            | false =>
              refine no _ rfl fun S' e h _ l f => ?_
              have h7 := h.e
              have : S = S' := by omega
              subst this
              rw [decide_eq_true h7] at h6; cases h6
            | true =>
              have hS : SpIn S a1 a2 := ⟨by omega, by omega, l1, l2, z, of_decide_eq_true h6⟩
              rw [Bool.not_true, bsel_false, K0q_rows (by omega) (by omega), obind_eq]
              cases hb : allP (soJ a1) 0 (a1.length - 1) with
              | false =>
                refine no _ rfl fun S' e h G l f => ?_
                rw [(so_iff h).2 G.s] at hb; cases hb
              | true =>
                have hs := (so_iff hS).1 hb
                have hw : IntKind.i64.wrap ((S : Int) - 1) = (S : Int) - 1 := wrap_i64 (by omega) (by omega)
                rw [bsel_true, hw, olet_eq, K0u_eq s2, obind_eq]
                cases hc : a2.all (inR ((0 : Nat) : Int) ((S : Int) - 1)) with
                | false =>
                  refine no _ rfl fun S' e h G l f => ?_
                  have : S = S' := by omega
                  subst this
                  rw [← Bool.not_eq_true, List.all_eq_true] at hc
                  refine hc fun x hx => ?_
                  obtain ⟨k, hk, rfl⟩ := List.mem_iff_getElem.1 hx
                  have := G.c k hk
                  simp only [gI, List.getD, List.getElem?_eq_getElem hk, Option.getD_some] at this
                  unfold inR
                  simp only [Bool.and_eq_true, decide_eq_true_eq]
                  exact ⟨this.1, this.2⟩
                | true =>
                  rw [bsel_true, K13_eq g3 s3, obind_eq]
                  cases h4 : a3.all fin32 with
                  | false => exact no _ rfl fun S' e h _ l f => by rw [h4] at f; cases f
                  | true =>
                    have e := K14_rows hS hs
                    rw [bsel_true, show ((0 : Nat) : Int) = 0 from rfl, e, obind_eq]
                    have im : allP (imRow a1 a2) 0 S = true ↔ ∀ i, i < S → ∀ k : Nat, gI a1 i < (k : Int) → (k : Int) < gI a1 (i + 1) → gI a2 (k - 1) < gI a2 k := by
                      have lo0 : ∀ i, i ≤ S → 0 ≤ gI a1 i := by
                        intro i
                        induction i with
                        | zero => intro _; omega
                        | succ i ih => intro hi; have := ih (by omega); have := hs i (by omega); omega
                      rw [allP_iff]
                      constructor
                      · intro H i hi k k1 k2
                        have := H i (by omega) (by omega)
                        unfold imRow at this
                        rw [allP_iff] at this
                        have b := lo0 i (by omega)
                        have := this k (by omega) (by omega)
                        unfold imK at this
                        simp at this
                        exact this
                      · intro H i _ hi
                        unfold imRow
                        rw [allP_iff]
                        intro k k1 k2
                        have b := lo0 i (by omega)
                        have := H i (by omega) k (by omega) (by omega)
                        unfold imK
                        simp; exact this
                    cases hb2 : allP (imRow a1 a2) 0 S with
                    | false =>
                      refine no _ rfl fun S' e h G l f => ?_
                      have : S = S' := by omega
                      subst this
                      rw [im.2 G.o] at hb2; cases hb2
                    | true =>
                      rw [cond_true, osum_inl]
                      unfold K14_k3
                      congr 1; symm
                      refine validS_of ⟨S, rfl, hS, ⟨hs, fun k hk => ?_, im.1 hb2⟩, l3, h4⟩
                      have := List.all_eq_true.1 hc _ (List.getElem_mem hk)
                      unfold inR at this
                      simp only [Bool.and_eq_true, decide_eq_true_eq] at this
                      simp only [gI, List.getD, List.getElem?_eq_getElem hk, Option.getD_some]
                      exact ⟨this.1, this.2⟩
def dotL (l m : List F) : F := dotN (fun i => l.getD i none) (fun i => m.getD i none) l.length
theorem dotL_ok (l m : List F) : FOk .f32 (dotL l m) := dotN_ok _ _ _
theorem K0g_eq {l m : List F} (hl : l.length ≤ m.length) (hs : l.length ≤ 1000000) : K0g l m = some (dotL l m) := by
  obtain ⟨e, _⟩ := loop_run (step := K0g_s1 l m) (fun (i : Nat) (y : F) => (y, (i : Int))) (dotE (fun i => l.getD i none) (fun i => m.getD i none)) (fun y => y) (fun _ _ => True) (lo := 0) (n := l.length) (Nat.zero_le _) (s0 := some 0) trivial
    (fun i y _ hi _ => by
      refine ⟨?_, trivial⟩
      show K0g_b1 _ _ _ _ = _
      unfold K0g_b1
      rw [dlt hi, bsel_true, at?_n none hi, obind_eq, at?_n none (by omega), obind_eq, olet_eq, olet_eq, wsucc (by omega)]
      rfl)
    (fun y _ => by
      show K0g_b1 _ _ _ _ = _
      unfold K0g_b1
      rw [dnlt, bsel_false])
  unfold K0g
  replace e : loopM (K0g_s1 l m) (some 0, 0) = some (.inl (run (dotE (fun i => l.getD i none) (fun i => m.getD i none)) 0 (l.length - 0) (some 0))) := e
  rw [e]; rfl
theorem i_dotL_eq {l m : List F} (hl : l.length ≤ m.length) (hs : l.length ≤ 1000000) : K1i l m = some (dotL l m) := K1i_eq hl hs
def normL (r : List F) : F := rootN (dotL r r)
theorem K0k_eq {r : List F} (hs : r.length ≤ 1000000) : K0k r = some (normL r) := by
  unfold K0k
  rw [K0g_eq (Nat.le_refl _) hs, obind_eq, K0j_eq (dotL_ok _ _), obind_eq]; rfl
theorem K1k_eq {r : List F} (hs : r.length ≤ 1000000) : K1k r = some (normL r) := by
  unfold K1k
  rw [i_dotL_eq (Nat.le_refl _) hs, obind_eq, K1j_eq (dotL_ok _ _), obind_eq]; rfl
def zipW (f : F → F → F) (n : Nat) (l m : List F) : List F := (List.range n).map fun i => f (l.getD i none) (m.getD i none)
theorem zipW_len {f : F → F → F} {n : Nat} {l m : List F} : (zipW f n l m).length = n := by simp [zipW]
theorem run_set (g : Nat → F → F) {n : Nat} {L : List F} (h : L.length = n) : run (fun i (L : List F) => L.set i (g i (L.getD i none))) 0 n L = (List.range n).map fun i => g i (L.getD i none) := by
  have := run_inv (f := fun i (L : List F) => L.set i (g i (L.getD i none))) (fun j L' => L'.length = n ∧ ∀ i, i < n → L'.getD i none = if i < j then g i (L.getD i none) else L.getD i none) n 0 L ⟨h, fun i _ => by simp⟩ (fun j L' _ hj hI => by
    refine ⟨by simp [hI.1], fun i hi => ?_⟩
    by_cases e : j = i
    · subst e
      have hl : j < L'.length := by rw [hI.1]; exact hi
      have := hI.2 j hi
      rw [if_neg (by omega)] at this
      rw [if_pos (by omega), List.getD_eq_getElem?_getD, List.getElem?_set_self hl, Option.getD_some, this]
    · have h1 := hI.2 i hi
      rw [List.getD_eq_getElem?_getD, List.getElem?_set_ne e, ← List.getD_eq_getElem?_getD, h1]
      by_cases e2 : i < j
      · rw [if_pos e2, if_pos (by omega)]
      · rw [if_neg e2, if_neg (by omega)])
  rw [Nat.zero_add] at this
  refine List.ext_getElem (by rw [this.1]; simp) fun i h1 h2 => ?_
  have hi : i < n := by rw [← this.1]; exact h1
  have e := this.2 i hi
  rw [if_pos hi, List.getD_eq_getElem?_getD, List.getElem?_eq_getElem h1, Option.getD_some] at e
  rw [e]; simp
structure SpOk (S : Nat) (a1 a2 : List Int) (a3 : List F) : Prop where
  i : SpIn S a1 a2
  g : SpGood S a1 a2
  l : a3.length = a2.length
def rowE (a2 : List Int) (a3 p : List F) (k : Nat) (y : F) : F := fop .add .f32 y (fop .mul .f32 (a3.getD k none) (p.getD (gI a2 k).toNat none))
def rowT (a1 a2 : List Int) (a3 p : List F) (i : Nat) : F := run (rowE a2 a3 p) (gI a1 i).toNat ((gI a1 (i + 1)).toNat - (gI a1 i).toNat) (some 0)
def timesL (S : Nat) (a1 a2 : List Int) (a3 p : List F) : List F := (List.range S).map (rowT a1 a2 a3 p)
theorem timesL_len {S : Nat} {a1 a2 : List Int} {a3 p : List F} : (timesL S a1 a2 a3 p).length = S := by simp [timesL]
theorem at?_i {α : Type} {L : List α} {v : Int} (d : α) (h0 : 0 ≤ v) (h : v.toNat < L.length) : at? L v = some (L.getD v.toNat d) := at?_of h0 (by simp [List.getD, h])
theorem SpOk.row {S : Nat} {a1 a2 : List Int} {a3 : List F} (h : SpOk S a1 a2 a3) {i : Nat} (hi : i < S) : 0 ≤ gI a1 i ∧ gI a1 i ≤ gI a1 (i + 1) ∧ gI a1 (i + 1) ≤ (a2.length : Int) :=
  ⟨(h.g.lo h.i (by omega)).1, h.g.s i hi, (h.g.lo h.i (i := i + 1) (by omega)).2⟩
theorem K0e_row {S : Nat} {a1 a2 : List Int} {a3 p : List F} (h : SpOk S a1 a2 a3) (hp : p.length = S) {i : Nat} (hi : i < S) : loopM (K0e_s2 a1 a2 a3 p (i : Int)) (some 0, gI a1 i) = some (.inl (rowT a1 a2 a3 p i)) := by
  obtain ⟨r1, r2, r3⟩ := h.row hi
  have l1 := h.i.l1
  have l2 := h.i.l2
  have S2 := h.i.S2
  have e := (loop_run (step := K0e_s2 a1 a2 a3 p (i : Int)) (fun (k : Nat) (y : F) => (y, (k : Int))) (rowE a2 a3 p) (fun y => y) (fun _ _ => True) (lo := (gI a1 i).toNat) (n := (gI a1 (i + 1)).toNat) (by omega) (s0 := some 0) trivial
    (fun k y hk1 hk2 _ => by
      refine ⟨?_, trivial⟩
      show K0e_b2 _ _ _ _ _ _ _ = _
      unfold K0e_b2
      have hkl : k < a2.length := by omega
      have hd : decide ((k : Int) < gI a1 (i + 1)) = true := decide_eq_true (by omega)
      obtain ⟨c1, c2⟩ := h.g.c k hkl
      rw [wsucc (by omega), olet_eq, at?_n 0 (by omega), obind_eq, hd, bsel_true, at?_n none (by rw [h.l]; exact hkl), obind_eq, at?_n 0 hkl, obind_eq, at?_i none c1 (by omega), obind_eq, olet_eq, olet_eq, wsucc (by omega)]
      rfl)
    (fun y _ => by
      show K0e_b2 _ _ _ _ _ _ _ = _
      unfold K0e_b2
      have hd : decide ((((gI a1 (i + 1)).toNat : Nat) : Int) < gI a1 (i + 1)) = false := decide_eq_false (by omega)
      rw [wsucc (by omega), olet_eq, at?_n 0 (by omega), obind_eq, hd, bsel_false])).1
  have hz : (((gI a1 i).toNat : Nat) : Int) = gI a1 i := by omega
  rw [hz] at e
  exact e
theorem K1f_row {S : Nat} {a1 a2 : List Int} {a3 p : List F} (h : SpOk S a1 a2 a3) (hp : p.length = S) {i : Nat} (hi : i < S) (r : Int) : K1f r a1 a2 a3 (i : Int) p (some 0) = some (rowT a1 a2 a3 p i) := by
  obtain ⟨r1, r2, r3⟩ := h.row hi
  have l1 := h.i.l1
  have l2 := h.i.l2
  have S2 := h.i.S2
  have e := (loop_run (step := K1f_s1 a1 a2 a3 (i : Int) p) (fun (k : Nat) (y : F) => (y, (k : Int))) (rowE a2 a3 p) (fun y => y) (fun _ _ => True) (lo := (gI a1 i).toNat) (n := (gI a1 (i + 1)).toNat) (by omega) (s0 := some 0) trivial
    (fun k y hk1 hk2 _ => by
      refine ⟨?_, trivial⟩
      show K1f_b1 _ _ _ _ _ _ _ = _
      unfold K1f_b1 K1e
      have hkl : k < a2.length := by omega
      have hd : decide ((k : Int) < gI a1 (i + 1)) = true := decide_eq_true (by omega)
      obtain ⟨c1, c2⟩ := h.g.c k hkl
      rw [wsucc (by omega), olet_eq, at?_n 0 (by omega), obind_eq, hd, bsel_true, at?_n 0 hkl, obind_eq, at?_n none (by rw [h.l]; exact hkl), obind_eq, at?_i none c1 (by omega), obind_eq, K1b_eq, obind_eq, olet_eq, obind_eq, wsucc (by omega)]
      rfl)
    (fun y _ => by
      show K1f_b1 _ _ _ _ _ _ _ = _
      unfold K1f_b1
      have hd : decide ((((gI a1 (i + 1)).toNat : Nat) : Int) < gI a1 (i + 1)) = false := decide_eq_false (by omega)
      rw [wsucc (by omega), olet_eq, at?_n 0 (by omega), obind_eq, hd, bsel_false])).1
  have hz : (((gI a1 i).toNat : Nat) : Int) = gI a1 i := by omega
  rw [hz] at e
  unfold K1f
  rw [at?_n 0 (by omega), obind_eq, e]; rfl
theorem K0e_eq {S : Nat} {a1 a2 : List Int} {a3 p : List F} (h : SpOk S a1 a2 a3) (hp : p.length = S) : K0e (S : Int) a1 a2 a3 p = some (timesL S a1 a2 a3 p) := by
  have l1 := h.i.l1
  have S2 := h.i.S2
  obtain ⟨e, _⟩ := loop_run (step := K0e_s3 (S : Int) a1 a2 a3 p) (fun (i : Nat) (l : List F) => (l, (i : Int))) (fun i l => l ++ [rowT a1 a2 a3 p i]) (fun l => l) (fun i l => l.length = i) (lo := 0) (n := S) (Nat.zero_le _) (s0 := []) rfl
    (fun i l _ hi hI => by
      refine ⟨?_, by simp [hI]⟩
      show K0e_b3 _ _ _ _ _ _ _ = _
      unfold K0e_b3
      have ap : apok 4 l.length 1 = true := by simp [apok, hI]; omega
      rw [dlt hi, bsel_true, at?_n 0 (by omega), obind_eq, K0e_row h hp hi, obind_eq, osum_inl]
      unfold K0e_k2
      rw [ap, need_true, wsucc (by omega)]; rfl)
    (fun l _ => by
      show K0e_b3 _ _ _ _ _ _ _ = _
      unfold K0e_b3
      rw [dnlt, bsel_false])
  unfold K0e
  replace e : loopM (K0e_s3 (S : Int) a1 a2 a3 p) ([], 0) = some (.inl (run (fun i l => l ++ [rowT a1 a2 a3 p i]) 0 (S - 0) [])) := e
  rw [Nat.sub_zero, run_map] at e
  rw [e]; rfl
theorem K1g_eq {S : Nat} {a1 a2 : List Int} {a3 p : List F} (h : SpOk S a1 a2 a3) (hp : p.length = S) : K1g (S : Int) a1 a2 a3 p = some (timesL S a1 a2 a3 p) := by
  have S2 := h.i.S2
  obtain ⟨e, _⟩ := loop_run (step := K1g_s1 (S : Int) a1 a2 a3 p) (fun (i : Nat) (l : List F) => (l, (i : Int))) (fun i l => l ++ [rowT a1 a2 a3 p i]) (fun l => l) (fun i l => l.length = i) (lo := 0) (n := S) (Nat.zero_le _) (s0 := []) rfl
    (fun i l _ hi hI => by
      refine ⟨?_, by simp [hI]⟩
      show K1g_b1 _ _ _ _ _ _ _ = _
      unfold K1g_b1
      have ap : apok 4 l.length 1 = true := by simp [apok, hI]; omega
      rw [dlt hi, bsel_true, K1f_row h hp hi, obind_eq, ap, need_true, wsucc (by omega)]; rfl)
    (fun l _ => by
      show K1g_b1 _ _ _ _ _ _ _ = _
      unfold K1g_b1
      rw [dnlt, bsel_false])
  unfold K1g
  replace e : loopM (K1g_s1 (S : Int) a1 a2 a3 p) ([], 0) = some (.inl (run (fun i l => l ++ [rowT a1 a2 a3 p i]) 0 (S - 0) [])) := e
  rw [Nat.sub_zero, run_map] at e
  rw [e]; rfl
theorem K13_two {a b : F} (ha : FOk .f32 a) (hb : FOk .f32 b) : K13 ([a, b] : List F) = some (fin32 a && fin32 b) := by
  rw [K13_eq (fun c hc => by
    rcases List.mem_cons.1 hc with e | hc
    · rw [e]; exact ha
    · rw [List.mem_singleton.1 hc]; exact hb) (by simp)]
  simp
theorem K0a_eq (a0 : Int) (a1 a2 : List Int) {a3 b : List F} (g3 : FOks a3) (gb : FOks b) (s1 : a1.length ≤ 1048576) (s3 : a3.length ≤ 1048576) (sb : b.length ≤ 1048576) : K0a a0 a1 a2 a3 b = some (validS a0 a1 a2 a3 && (decide ((b.length : Int) = a0) && b.all fin32)) := by
  unfold K0a
  rw [K09_eq a0 a1 a2 g3 s3 s1, obind_eq]
  cases validS a0 a1 a2 a3 with
  | false => rfl
  | true =>
    rw [bsel_true, K08_eq gb sb, obind_eq]
    cases decide ((b.length : Int) = a0) <;> rfl
theorem K17_eq (a0 : Int) (a1 a2 : List Int) {a3 b : List F} (g3 : FOks a3) (gb : FOks b) (s1 : a1.length ≤ 1048576) (s2 : a2.length ≤ 1048576) (s3 : a3.length ≤ 1048576) (sb : b.length ≤ 1048576) : K17 a0 a1 a2 a3 b = some (validS a0 a1 a2 a3 && (decide ((b.length : Int) = a0) && b.all fin32)) := by
  unfold K17 K16 K15
  rw [K14_eq a0 a1 a2 g3 s3 s1 s2, obind_eq]
  cases hv : validS a0 a1 a2 a3 with
  | false => rfl
  | true =>
    obtain ⟨S, rfl, i, g, l, f⟩ := validS_spec hv
    have S1 := i.S1
    have S2 := i.S2
    rw [bsel_true, obind_eq, K0n_eq, obind_eq, K13_eq gb sb, obind_eq]
    by_cases hl : (b.length : Int) = (S : Int)
    · have e1 : (decide ((1 : Int) ≤ (b.length : Int)) && decide ((b.length : Int) ≤ 256)) = true := by rw [decide_eq_true (by omega), decide_eq_true (by omega)]; rfl
      rw [e1, bsel_true, obind_eq]
      cases b.all fin32 <;> simp [obind, bsel, hl]
    · cases decide ((1 : Int) ≤ (b.length : Int)) && decide ((b.length : Int) ≤ 256) <;> cases b.all fin32 <;> simp [obind, bsel, hl]
theorem mkok_n {S k : Nat} (hS : S ≤ 1000) (hk : k ≤ 8) : mkok k (S : Int) = true := by
  have h : k * S ≤ 8 * 1000 := Nat.mul_le_mul hk hS
  unfold mkok
  rw [decide_eq_true (by omega), decide_eq_true (by omega), decide_eq_true (by rw [← Int.natCast_mul]; omega)]; rfl
noncomputable def spT (a0 : Int) (a1 a2 : List Int) (a3 b : List F) : Bool := validS a0 a1 a2 a3 && (decide ((b.length : Int) = a0) && b.all fin32)
theorem spT_spec {a0 : Int} {a1 a2 : List Int} {a3 b : List F} (h : spT a0 a1 a2 a3 b = true) : ∃ S : Nat, a0 = (S : Int) ∧ SpOk S a1 a2 a3 ∧ b.length = S ∧ b.all fin32 = true := by
  unfold spT at h
  simp only [Bool.and_eq_true, decide_eq_true_eq] at h
  obtain ⟨hv, hl, hf⟩ := h
  obtain ⟨S, rfl, i, g, l, f⟩ := validS_spec hv
  exact ⟨S, rfl, ⟨i, g, l⟩, by omega, hf⟩
theorem loop_all {n : Nat} {step : Int → Option (LR Int Unit Bool)} (hn : n ≤ 1000000) (hs : ∀ i : Nat, i < n → step (i : Int) = some (.next ((i + 1 : Nat) : Int))) (he : step (n : Int) = some (.out ())) : loopM step 0 = some (.inl ()) :=
  (loop_run (step := step) (fun (i : Nat) (_ : Unit) => (i : Int)) (fun _ u => u) (fun _ => ()) (fun _ _ => True) (lo := 0) (n := n) (Nat.zero_le _) (s0 := ()) trivial (fun i _ _ hi _ => ⟨hs i hi, trivial⟩) (fun _ _ => he)).1
def fy : Nat → Rat | 0 => 401 / 100 | 1 => 538 / 100 | 2 => 721 / 100 | 3 => 966 / 100 | _ => 1295 / 100
def fx : Nat → Rat | 0 => 280 / 100 | 1 => 386 / 100 | 2 => 533 / 100 | 3 => 735 / 100 | _ => 1014 / 100
def gx : Nat → Rat | 0 => 317 / 100 | 1 => 425 / 100 | 2 => 570 / 100 | 3 => 764 / 100 | _ => 1024 / 100
def prn (x : Nat → Rat) (X : Rat) (a : Nat) : Nat → Rat
  | 0 => 1
  | m + 1 => prn x X a m * (X - x (a + m))
def hp (d x : Nat → Rat) (X : Rat) (i : Nat) : Nat → Rat
  | 0 => 0
  | m + 1 => hp d x X i m + d (i + m) * prn x X i m
theorem mget_mput (L : List (Int × Int × F)) (a b : Int) (x : F) (c d : Int) : mget (mput L a b x) c d = if c = a ∧ d = b then some x else mget L c d := by
  induction L with
  | nil => simp [mput, mget]
  | cons e L ih =>
    obtain ⟨r, s, y⟩ := e
    by_cases h : a = r ∧ b = s
    · obtain ⟨rfl, rfl⟩ := h
      by_cases h2 : c = a ∧ d = b <;> simp [mput, mget, h2]
    · by_cases h2 : c = r ∧ d = s
      · obtain ⟨rfl, rfl⟩ := h2
        have : ¬ (c = a ∧ d = b) := fun hh => h ⟨hh.1.symm, hh.2.symm⟩
        simp [mput, mget, h, this]
      · simp [mput, mget, h, h2, ih]
def spFind (a2 : List Int) (a3 : List F) (c : Nat) : Nat → Nat → Option F
  | _, 0 => none
  | k, n + 1 => if gI a2 k = (c : Int) then some (a3.getD k none) else spFind a2 a3 c (k + 1) n
def spAt (a1 a2 : List Int) (a3 : List F) (r c : Nat) : Option F := spFind a2 a3 c (gI a1 r).toNat ((gI a1 (r + 1)).toNat - (gI a1 r).toNat)
theorem spFind_last {a2 : List Int} {a3 : List F} {c : Nat} : ∀ (n k : Nat), (∀ j, j < n → gI a2 (k + j) < gI a2 (k + n)) → spFind a2 a3 c k (n + 1) = if gI a2 (k + n) = (c : Int) then some (a3.getD (k + n) none) else spFind a2 a3 c k n
  | 0, k, _ => by simp [spFind]
  | n + 1, k, h => by
    have ih := spFind_last (a3 := a3) (c := c) n (k + 1) fun j hj => by
      have := h (j + 1) (by omega)
      rwa [show k + (j + 1) = k + 1 + j by omega, show k + (n + 1) = k + 1 + n by omega] at this
    have h0 := h 0 (by omega)
    rw [Nat.add_zero] at h0
    rw [show k + (n + 1) = k + 1 + n by omega] at h0 ⊢
    by_cases e : gI a2 k = (c : Int)
    · rw [show spFind a2 a3 c k (n + 1 + 1) = some (a3.getD k none) by simp only [spFind, if_pos e], show spFind a2 a3 c k (n + 1) = some (a3.getD k none) by simp only [spFind, if_pos e], if_neg (by omega)]
    · rw [show spFind a2 a3 c k (n + 1 + 1) = spFind a2 a3 c (k + 1) (n + 1) by simp only [spFind, if_neg e], show spFind a2 a3 c k (n + 1) = spFind a2 a3 c (k + 1) n by simp only [spFind, if_neg e]]
      exact ih
theorem spok_inc {S : Nat} {a1 a2 : List Int} {a3 : List F} (h : SpOk S a1 a2 a3) {i : Nat} (hi : i < S) : ∀ (n k : Nat), gI a1 i ≤ (k : Int) → ((k + n : Nat) : Int) < gI a1 (i + 1) → ∀ j, j < n → gI a2 (k + j) < gI a2 (k + n)
  | 0, _, _, _, j, hj => by omega
  | n + 1, k, h1, h2, j, hj => by
    have hs := h.g.o i hi (k + (n + 1)) (by omega) (by omega)
    rw [show k + (n + 1) - 1 = k + n by omega] at hs
    by_cases e : j = n
    · rw [e]; exact hs
    · have := spok_inc h hi n k h1 (by omega) j (by omega)
      omega
def TellM (a1 a2 : List Int) (a3 : List F) (L : List (Int × Int × F)) (i n : Nat) : Prop :=
  ∀ r c : Nat, mget L (r : Int) (c : Int) = if r < i then spAt a1 a2 a3 r c else if r = i then spFind a2 a3 c (gI a1 i).toNat n else none
theorem tellM_start (a1 a2 : List Int) (a3 : List F) : TellM a1 a2 a3 [] 0 0 := fun r c => by
  have : mget [] (r : Int) (c : Int) = none := rfl
  rw [this, if_neg (by omega)]
  by_cases e : r = 0
  · rw [if_pos e]; rfl
  · rw [if_neg e]
theorem tellM_step {S : Nat} {a1 a2 : List Int} {a3 : List F} (ok : SpOk S a1 a2 a3) {L : List (Int × Int × F)} {i n : Nat} (h : TellM a1 a2 a3 L i n) (hi : i < S) (hn : (((gI a1 i).toNat + n : Nat) : Int) < gI a1 (i + 1)) :
    TellM a1 a2 a3 (mput L (i : Int) (gI a2 ((gI a1 i).toNat + n)) (a3.getD ((gI a1 i).toNat + n) none)) i (n + 1) := fun r c => by
  obtain ⟨r1, r2, r3⟩ := ok.row hi
  have hc := (ok.g.c ((gI a1 i).toNat + n) (by omega)).1
  rw [mget_mput, h r c]
  have hl := spFind_last (a3 := a3) (c := c) n (gI a1 i).toNat (spok_inc ok hi n (gI a1 i).toNat (by omega) hn)
  by_cases e : r = i
  · subst e
    rw [if_neg (Nat.lt_irrefl r), if_neg (Nat.lt_irrefl r), if_pos rfl, if_pos rfl, hl]
    by_cases e2 : gI a2 ((gI a1 r).toNat + n) = (c : Int)
    · rw [if_pos ⟨rfl, e2.symm⟩, if_pos e2]
    · rw [if_neg (fun hh => e2 hh.2.symm), if_neg e2]
  · rw [if_neg (fun hh => e (by omega)), if_neg e, if_neg e]
theorem tellM_next {S : Nat} {a1 a2 : List Int} {a3 : List F} (_ : SpOk S a1 a2 a3) {L : List (Int × Int × F)} {i : Nat} (h : TellM a1 a2 a3 L i ((gI a1 (i + 1)).toNat - (gI a1 i).toNat)) : TellM a1 a2 a3 L (i + 1) 0 := fun r c => by
  rw [h r c]
  by_cases e : r < i
  · rw [if_pos e, if_pos (by omega)]
  · rw [if_neg e]
    by_cases e2 : r = i
    · subst e2; rw [if_pos rfl, if_pos (by omega)]; rfl
    · rw [if_neg e2, if_neg (by omega)]
      by_cases e3 : r = i + 1
      · rw [if_pos e3]; rfl
      · rw [if_neg e3]
theorem K1a_1_row {S : Nat} {a1 a2 : List Int} {a3 : List F} (ok : SpOk S a1 a2 a3) {L : List (Int × Int × F)} {i : Nat} (hi : i < S) (h : TellM a1 a2 a3 L i 0) (a0 : Int) :
    ∃ L', K19 a0 a1 a2 a3 (i : Int) L (i : Int) = some L' ∧ TellM a1 a2 a3 L' (i + 1) 0 := by
  obtain ⟨r1, r2, r3⟩ := ok.row hi
  have l1 := ok.i.l1
  have l2 := ok.i.l2
  have S2 := ok.i.S2
  obtain ⟨e, hI⟩ := loop_run (step := K19_s1 a1 a2 a3 (i : Int) (i : Int)) (fun (k : Nat) (L : List (Int × Int × F)) => (L, (k : Int))) (fun k L => mput L (i : Int) (gI a2 k) (a3.getD k none)) (fun L => L)
    (fun k L => TellM a1 a2 a3 L i (k - (gI a1 i).toNat)) (lo := (gI a1 i).toNat) (n := (gI a1 (i + 1)).toNat) (by omega) (s0 := L) (by rw [Nat.sub_self]; exact h)
    (fun k L hk1 hk2 hI => by
      constructor
      · show K19_b1 _ _ _ _ _ _ _ = _
        unfold K19_b1 K18
        have hkl : k < a2.length := by omega
        have hd : decide ((k : Int) < gI a1 (i + 1)) = true := decide_eq_true (by omega)
        rw [wsucc (by omega), olet_eq, at?_n 0 (by omega), obind_eq, hd, bsel_true, at?_n 0 hkl, obind_eq, at?_n none (by rw [ok.l]; exact hkl), obind_eq, olet_eq, obind_eq, wsucc (by omega)]
        rfl
      · have := tellM_step ok hI hi (by omega)
        rwa [show (gI a1 i).toNat + (k - (gI a1 i).toNat) = k by omega, show k - (gI a1 i).toNat + 1 = k + 1 - (gI a1 i).toNat by omega] at this)
    (fun L _ => by
      show K19_b1 _ _ _ _ _ _ _ = _
      unfold K19_b1
      have hd : decide ((((gI a1 (i + 1)).toNat : Nat) : Int) < gI a1 (i + 1)) = false := decide_eq_false (by omega)
      rw [wsucc (by omega), olet_eq, at?_n 0 (by omega), obind_eq, hd, bsel_false])
  have hz : (((gI a1 i).toNat : Nat) : Int) = gI a1 i := by omega
  rw [hz] at e
  refine ⟨_, ?_, tellM_next ok hI⟩
  unfold K19
  rw [at?_n 0 (by omega), obind_eq, e]; rfl
theorem loop_inv {S σ ε ρ : Type} {step : S → Option (LR S ε ρ)} (mk : Nat → σ → S) (out : σ → ε) (Inv : Nat → σ → Prop) {n : Nat}
    (hs : ∀ i s, i < n → Inv i s → ∃ s', step (mk i s) = some (.next (mk (i + 1) s')) ∧ Inv (i + 1) s') (he : ∀ s, Inv n s → step (mk n s) = some (.out (out s))) :
    ∀ (m lo : Nat), lo + m = n → ∀ s0, Inv lo s0 → ∃ s, loopM step (mk lo s0) = some (.inl (out s)) ∧ Inv n s
  | 0, lo, h, s0, h0 => by
    rw [Nat.add_zero] at h
    subst h
    exact ⟨s0, loopM_out (he s0 h0), h0⟩
  | m + 1, lo, h, s0, h0 => by
    obtain ⟨s', h1, h2⟩ := hs lo s0 (by omega) h0
    obtain ⟨s, e, hI⟩ := loop_inv mk out Inv hs he m (lo + 1) (by omega) s' h2
    exact ⟨s, by rw [loopM_next h1]; exact e, hI⟩
theorem K1a_eq {S : Nat} {a1 a2 : List Int} {a3 : List F} (ok : SpOk S a1 a2 a3) : ∃ L, K1a (S : Int) a1 a2 a3 = some L ∧ ∀ r c : Nat, r < S → mget L (r : Int) (c : Int) = spAt a1 a2 a3 r c := by
  have S2 := ok.i.S2
  obtain ⟨L, e, hI⟩ := loop_inv (step := K1a_s1 (S : Int) a1 a2 a3) (fun (i : Nat) (L : List (Int × Int × F)) => (L, (i : Int))) (fun L => L) (fun i L => TellM a1 a2 a3 L i 0) (n := S)
    (fun i L hi hI => by
      obtain ⟨L', e, h'⟩ := K1a_1_row ok hi hI (S : Int)
      refine ⟨L', ?_, h'⟩
      show K1a_b1 _ _ _ _ _ _ = _
      unfold K1a_b1
      rw [dlt hi, bsel_true, e, obind_eq, wsucc (by omega)]; rfl)
    (fun L _ => by
      show K1a_b1 _ _ _ _ _ _ = _
      unfold K1a_b1
      rw [dnlt, bsel_false]) S 0 (by omega) [] (tellM_start a1 a2 a3)
  refine ⟨L, ?_, fun r c hr => by rw [hI r c, if_pos hr]⟩
  unfold K1a
  replace e : loopM (K1a_s1 (S : Int) a1 a2 a3) ([], 0) = some (.inl L) := e
  rw [e]; rfl
structure TellT (S : Nat) (a1 a2 : List Int) (a3 : List F) (T : List Bool) (N : List F) (i n : Nat) : Prop where
  lT : T.length = S * S
  lN : N.length = S * S
  t : ∀ r c : Nat, r < S → c < S → T.getD (r * S + c) false = (if r < i then spAt a1 a2 a3 r c else if r = i then spFind a2 a3 c (gI a1 i).toNat n else none).isSome
  n : ∀ r c : Nat, r < S → c < S → N.getD (r * S + c) none = (if r < i then spAt a1 a2 a3 r c else if r = i then spFind a2 a3 c (gI a1 i).toNat n else none).getD (some 0)
theorem rc_inj {S r c r' c' : Nat} (hc : c < S) (hc' : c' < S) (h : r * S + c = r' * S + c') : r = r' ∧ c = c' := by
  have h1 : (r * S + c) / S = r := by rw [Nat.mul_comm, Nat.mul_add_div (by omega), Nat.div_eq_of_lt hc]; omega
  have h2 : (r' * S + c') / S = r' := by rw [Nat.mul_comm, Nat.mul_add_div (by omega), Nat.div_eq_of_lt hc']; omega
  have : r = r' := by rw [← h1, ← h2, h]
  subst this
  exact ⟨rfl, by omega⟩
theorem rc_lt {S r c : Nat} (hr : r < S) (hc : c < S) : r * S + c < S * S := by
  have : (r + 1) * S ≤ S * S := Nat.mul_le_mul_right S hr
  rw [Nat.add_mul] at this
  omega
theorem getD_set_eq {α : Type} {L : List α} {k : Nat} {x d : α} (h : k < L.length) : (L.set k x).getD k d = x := by
  rw [List.getD_eq_getElem?_getD, List.getElem?_set_self h]; rfl
theorem getD_set_ne {α : Type} {L : List α} {k j : Nat} {x d : α} (h : k ≠ j) : (L.set k x).getD j d = L.getD j d := by
  rw [List.getD_eq_getElem?_getD, List.getElem?_set_ne h, ← List.getD_eq_getElem?_getD]
theorem getD_replicate {α : Type} {n k : Nat} {x d : α} (h : k < n) : (List.replicate n x).getD k d = x := by
  rw [List.getD_eq_getElem?_getD, List.getElem?_replicate, if_pos h]; rfl
theorem tellT_start (S : Nat) (a1 a2 : List Int) (a3 : List F) : TellT S a1 a2 a3 (List.replicate (S * S) false) (List.replicate (S * S) (some 0)) 0 0 where
  lT := by simp
  lN := by simp
  t r c hr hc := by
    rw [getD_replicate (rc_lt hr hc), if_neg (by omega)]
    by_cases e : r = 0
    · rw [if_pos e]; rfl
    · rw [if_neg e]; rfl
  n r c hr hc := by
    rw [getD_replicate (rc_lt hr hc), if_neg (by omega)]
    by_cases e : r = 0
    · rw [if_pos e]; rfl
    · rw [if_neg e]; rfl
theorem tellT_step {S : Nat} {a1 a2 : List Int} {a3 : List F} (ok : SpOk S a1 a2 a3) {T : List Bool} {N : List F} {i n : Nat} (h : TellT S a1 a2 a3 T N i n) (hi : i < S) (hn : (((gI a1 i).toNat + n : Nat) : Int) < gI a1 (i + 1)) :
    TellT S a1 a2 a3 (T.set (i * S + (gI a2 ((gI a1 i).toNat + n)).toNat) true) (N.set (i * S + (gI a2 ((gI a1 i).toNat + n)).toNat) (a3.getD ((gI a1 i).toNat + n) none)) i (n + 1) := by
  obtain ⟨r1, r2, r3⟩ := ok.row hi
  obtain ⟨c1, c2⟩ := ok.g.c ((gI a1 i).toNat + n) (by omega)
  have hcs : (gI a2 ((gI a1 i).toNat + n)).toNat < S := by omega
  have hl := fun c => spFind_last (a3 := a3) (c := c) n (gI a1 i).toNat (spok_inc ok hi n (gI a1 i).toNat (by omega) hn)
  refine ⟨by simp [h.lT], by simp [h.lN], fun r c hr hc => ?_, fun r c hr hc => ?_⟩
  · by_cases e : r = i
    · subst e
      rw [if_neg (by omega), if_pos rfl, hl]
      by_cases e2 : gI a2 ((gI a1 r).toNat + n) = (c : Int)
      · rw [if_pos e2, show (gI a2 ((gI a1 r).toNat + n)).toNat = c by omega, getD_set_eq (by rw [h.lT]; exact rc_lt hi hc)]; rfl
      · rw [if_neg e2, getD_set_ne (fun hh => e2 (by have := (rc_inj hcs hc hh).2; omega)), h.t r c hr hc, if_neg (by omega), if_pos rfl]
    · rw [if_neg e, getD_set_ne (fun hh => e (rc_inj hcs hc hh).1.symm), h.t r c hr hc, if_neg e]
  · by_cases e : r = i
    · subst e
      rw [if_neg (by omega), if_pos rfl, hl]
      by_cases e2 : gI a2 ((gI a1 r).toNat + n) = (c : Int)
      · rw [if_pos e2, show (gI a2 ((gI a1 r).toNat + n)).toNat = c by omega, getD_set_eq (by rw [h.lN]; exact rc_lt hi hc)]; rfl
      · rw [if_neg e2, getD_set_ne (fun hh => e2 (by have := (rc_inj hcs hc hh).2; omega)), h.n r c hr hc, if_neg (by omega), if_pos rfl]
    · rw [if_neg e, getD_set_ne (fun hh => e (rc_inj hcs hc hh).1.symm), h.n r c hr hc, if_neg e]
theorem tellT_next {S : Nat} {a1 a2 : List Int} {a3 : List F} {T : List Bool} {N : List F} {i : Nat} (h : TellT S a1 a2 a3 T N i ((gI a1 (i + 1)).toNat - (gI a1 i).toNat)) : TellT S a1 a2 a3 T N (i + 1) 0 := by
  have key : ∀ r c : Nat, (if r < i then spAt a1 a2 a3 r c else if r = i then spFind a2 a3 c (gI a1 i).toNat ((gI a1 (i + 1)).toNat - (gI a1 i).toNat) else none) = (if r < i + 1 then spAt a1 a2 a3 r c else if r = i + 1 then spFind a2 a3 c (gI a1 (i + 1)).toNat 0 else none) := by
    intro r c
    by_cases e : r < i
    · rw [if_pos e, if_pos (by omega)]
    · rw [if_neg e]
      by_cases e2 : r = i
      · subst e2; rw [if_pos rfl, if_pos (by omega)]; rfl
      · rw [if_neg e2, if_neg (by omega)]
        by_cases e3 : r = i + 1
        · rw [if_pos e3]; rfl
        · rw [if_neg e3]
  exact ⟨h.lT, h.lN, fun r c hr hc => by rw [h.t r c hr hc, key], fun r c hr hc => by rw [h.n r c hr hc, key]⟩
theorem wrap_rc {S i : Nat} {c : Int} (hS : S ≤ 32) (hi : i < S) (h0 : 0 ≤ c) (hc : c.toNat < S) : IntKind.i64.wrap (IntKind.i64.wrap ((i : Int) * (S : Int)) + c) = ((i * S + c.toNat : Nat) : Int) := by
  have h1 : i * S ≤ 32 * 32 := Nat.mul_le_mul (by omega) hS
  have e : (i : Int) * (S : Int) = ((i * S : Nat) : Int) := by simp
  rw [e, wrap_i64 (n := ((i * S : Nat) : Int)) (by omega) (by omega), wrap_i64 (by omega) (by omega)]
  omega
theorem K0d_row {S : Nat} {a1 a2 : List Int} {a3 : List F} (ok : SpOk S a1 a2 a3) {T : List Bool} {N : List F} {i : Nat} (hi : i < S) (h : TellT S a1 a2 a3 T N i 0) :
    ∃ T' N', loopM (K0d_s2 (S : Int) a1 a2 a3 (i : Int)) (T, N, gI a1 i) = some (.inl (T', N')) ∧ TellT S a1 a2 a3 T' N' (i + 1) 0 := by
  obtain ⟨r1, r2, r3⟩ := ok.row hi
  have l1 := ok.i.l1
  have l2 := ok.i.l2
  have S2 := ok.i.S2
  obtain ⟨e, hI⟩ := loop_run (step := K0d_s2 (S : Int) a1 a2 a3 (i : Int)) (fun (k : Nat) (z : List Bool × List F) => (z.1, z.2, (k : Int))) (fun k z => (z.1.set (i * S + (gI a2 k).toNat) true, z.2.set (i * S + (gI a2 k).toNat) (a3.getD k none))) (fun z => z)
    (fun k z => TellT S a1 a2 a3 z.1 z.2 i (k - (gI a1 i).toNat)) (lo := (gI a1 i).toNat) (n := (gI a1 (i + 1)).toNat) (by omega) (s0 := (T, N)) (by rw [Nat.sub_self]; exact h)
    (fun k z hk1 hk2 hI => by
      constructor
      · show K0d_b2 _ _ _ _ _ _ _ _ = _
        unfold K0d_b2
        have hkl : k < a2.length := by omega
        have hd : decide ((k : Int) < gI a1 (i + 1)) = true := decide_eq_true (by omega)
        obtain ⟨c1, c2⟩ := ok.g.c k hkl
        have hcs : (gI a2 k).toNat < S := by omega
        have hp := rc_lt hi hcs
        have e1 : setAt? z.1 ((i * S + (gI a2 k).toNat : Nat) : Int) true = some (z.1.set (i * S + (gI a2 k).toNat) true) := setAt?_of (by omega) (by rw [hI.lT]; omega)
        have e2 : setAt? z.2 ((i * S + (gI a2 k).toNat : Nat) : Int) (a3.getD k none) = some (z.2.set (i * S + (gI a2 k).toNat) (a3.getD k none)) := setAt?_of (by omega) (by rw [hI.lN]; omega)
        rw [wsucc (by omega), olet_eq, at?_n 0 (by omega), obind_eq, hd, bsel_true, olet_eq, at?_n 0 hkl, obind_eq, wrap_rc S2 hi c1 hcs, olet_eq, e1, obind_eq, olet_eq, obind_eq, wrap_rc S2 hi c1 hcs, olet_eq, at?_n none (by rw [ok.l]; exact hkl), obind_eq, e2, obind_eq, wsucc (by omega)]
        rfl
      · have := tellT_step ok hI hi (by omega)
        rwa [show (gI a1 i).toNat + (k - (gI a1 i).toNat) = k by omega, show k - (gI a1 i).toNat + 1 = k + 1 - (gI a1 i).toNat by omega] at this)
    (fun z _ => by
      show K0d_b2 _ _ _ _ _ _ _ _ = _
      unfold K0d_b2
      have hd : decide ((((gI a1 (i + 1)).toNat : Nat) : Int) < gI a1 (i + 1)) = false := decide_eq_false (by omega)
      rw [wsucc (by omega), olet_eq, at?_n 0 (by omega), obind_eq, hd, bsel_false])
  have hz : (((gI a1 i).toNat : Nat) : Int) = gI a1 i := by omega
  rw [hz] at e
  exact ⟨_, _, e, tellT_next hI⟩
theorem K0c_eq {S : Nat} (hS : S ≤ 32) : K0c (S : Int) = some ((S : Int), List.replicate (S * S) false, List.replicate (S * S) (some 0)) := by
  have h1 : S * S ≤ 32 * 32 := Nat.mul_le_mul hS hS
  have e : (S : Int) * (S : Int) = ((S * S : Nat) : Int) := by simp
  have ew : IntKind.i64.wrap ((S : Int) * (S : Int)) = ((S * S : Nat) : Int) := by rw [e]; exact wrap_i64 (by omega) (by omega)
  have m : ∀ k : Nat, k ≤ 8 → mkok k ((S * S : Nat) : Int) = true := fun k hk => by
    have h2 : k * (S * S) ≤ 8 * 1024 := Nat.mul_le_mul hk (by omega)
    have h3 : (k : Int) * ((S * S : Nat) : Int) = ((k * (S * S) : Nat) : Int) := (Int.natCast_mul _ _).symm
    unfold mkok
    rw [h3]
    simp only [Bool.and_eq_true, decide_eq_true_eq]
    exact ⟨⟨by omega, by omega⟩, by omega⟩
  unfold K0c
  rw [ew, olet_eq, m 1 (by omega), need_true, olet_eq, m 4 (by omega), need_true, Int.toNat_natCast]
theorem K0d_eq {S : Nat} {a1 a2 : List Int} {a3 : List F} (ok : SpOk S a1 a2 a3) : ∃ T N, K0d (S : Int) a1 a2 a3 = some ((S : Int), T, N) ∧ T.length = S * S ∧ N.length = S * S ∧ (∀ r c : Nat, r < S → c < S → T.getD (r * S + c) false = (spAt a1 a2 a3 r c).isSome) ∧ (∀ r c : Nat, r < S → c < S → N.getD (r * S + c) none = (spAt a1 a2 a3 r c).getD (some 0)) := by
  have S2 := ok.i.S2
  have l1 := ok.i.l1
  obtain ⟨z, e, hI⟩ := loop_inv (step := K0d_s3 (S : Int) a1 a2 a3) (fun (i : Nat) (z : List Bool × List F) => (z.1, z.2, (i : Int))) (fun z => z) (fun i z => TellT S a1 a2 a3 z.1 z.2 i 0) (n := S)
    (fun i z hi hI => by
      obtain ⟨T', N', e, h'⟩ := K0d_row ok hi hI
      refine ⟨(T', N'), ?_, h'⟩
      show K0d_b3 _ _ _ _ _ _ _ = _
      unfold K0d_b3
      rw [dlt hi, bsel_true, at?_n 0 (by omega), obind_eq, e, obind_eq, osum_inl]
      unfold K0d_k2
      rw [wsucc (by omega)]; rfl)
    (fun z _ => by
      show K0d_b3 _ _ _ _ _ _ _ = _
      unfold K0d_b3
      rw [dnlt, bsel_false]) S 0 (by omega) (List.replicate (S * S) false, List.replicate (S * S) (some 0)) (tellT_start S a1 a2 a3)
  refine ⟨z.1, z.2, ?_, hI.lT, hI.lN, fun r c hr hc => by rw [hI.t r c hr hc, if_pos hr], fun r c hr hc => by rw [hI.n r c hr hc, if_pos hr]⟩
  unfold K0d
  rw [K0c_eq S2, obind3_eq]
  replace e : loopM (K0d_s3 (S : Int) a1 a2 a3) (List.replicate (S * S) false, List.replicate (S * S) (some 0), 0) = some (.inl z) := e
  rw [e]; rfl
theorem below_eq {x y : F} (hx : FOk .f32 x) (hf : fin32 x = true) (hy : FOk .f32 y) (gf : fin32 y = true) : flt .f32 x y = !fle .f32 y x := by
  have key : ∃ o, ford .f32 x y = some o := by
    cases x with
    | none => cases hf
    | some b => cases y with
      | none => cases gf
      | some c =>
        have e : ford .f32 (some b) (some c) = Ieee.single.order b c := rfl
        rw [e]
        have fx : wrung Ieee.single b < Ieee.single.infRung := by
          rcases read_cases (f := Ieee.single) (fmt_ok .f32) hx.some.2 with ⟨g1, _⟩ | ⟨_, g2⟩
          · exact g1
          · simp [fin32, g2, Ieee.Datum.isInfinity] at hf
        have fy : wrung Ieee.single c < Ieee.single.infRung := by
          rcases read_cases (f := Ieee.single) (fmt_ok .f32) hy.some.2 with ⟨g1, _⟩ | ⟨_, g2⟩
          · exact g1
          · simp [fin32, g2, Ieee.Datum.isInfinity] at gf
        exact ⟨_, order_fin Ieee.single fx fy⟩
  obtain ⟨o, ho⟩ := key
  unfold fle flt
  rw [ford_swap (a := x) (b := y), ho]
  cases o <;> rfl
def rdE (a2 : List Int) (a3 x : List F) (i k : Nat) (y : F) : F := bif !decide (gI a2 k = (i : Int)) then fop .sub .f32 y (fop .mul .f32 (a3.getD k none) (x.getD (gI a2 k).toNat none)) else y
def rdG (a1 a2 : List Int) (a3 x : List F) (b : F) (i : Nat) : F := run (rdE a2 a3 x i) (gI a1 i).toNat ((gI a1 (i + 1)).toNat - (gI a1 i).toNat) b
theorem K0l_inner {S i : Nat} {a1 a2 : List Int} {a3 x : List F} (ok : SpOk S a1 a2 a3) (lx : x.length = S) (hi : i < S) (b : F) : loopM (K0l_s14 a1 a2 a3 x (i : Int)) (b, gI a1 i) = some (.inl (rdG a1 a2 a3 x b i)) := by
  obtain ⟨r1, r2, r3⟩ := ok.row hi
  have l1 := ok.i.l1
  have l2 := ok.i.l2
  have S2 := ok.i.S2
  have e := (loop_run (step := K0l_s14 a1 a2 a3 x (i : Int)) (fun (k : Nat) (y : F) => (y, (k : Int))) (rdE a2 a3 x i) (fun y => y) (fun _ _ => True) (lo := (gI a1 i).toNat) (n := (gI a1 (i + 1)).toNat) (by omega) (s0 := b) trivial
    (fun k y hk1 hk2 _ => by
      refine ⟨?_, trivial⟩
      show K0l_b14 _ _ _ _ _ _ _ = _
      unfold K0l_b14 K0l_k13 rdE
      have hkl : k < a2.length := by omega
      have hd : decide ((k : Int) < gI a1 (i + 1)) = true := decide_eq_true (by omega)
      obtain ⟨c1, c2⟩ := ok.g.c k hkl
      rw [wsucc (by omega), olet_eq, at?_n 0 (by omega), obind_eq, hd, bsel_true, at?_n 0 hkl, obind_eq]
      cases decide (gI a2 k = (i : Int)) with
      | true => rw [Bool.not_true, bsel_false, cond_false, wsucc (by omega)]; rfl
      | false => rw [Bool.not_false, bsel_true, cond_true, at?_n none (by rw [ok.l]; exact hkl), obind_eq, obind_eq, at?_i none c1 (by show _ < x.length; omega), obind_eq, olet_eq, olet_eq, wsucc (by omega)]; rfl)
    (fun y _ => by
      show K0l_b14 _ _ _ _ _ _ _ = _
      unfold K0l_b14
      have hd : decide ((((gI a1 (i + 1)).toNat : Nat) : Int) < gI a1 (i + 1)) = false := decide_eq_false (by omega)
      rw [wsucc (by omega), olet_eq, at?_n 0 (by omega), obind_eq, hd, bsel_false])).1
  have hz : (((gI a1 i).toNat : Nat) : Int) = gI a1 i := by omega
  rw [hz] at e
  exact e
theorem K1l_inner {S i : Nat} {a1 a2 : List Int} {a3 x : List F} (ok : SpOk S a1 a2 a3) (lx : x.length = S) (hi : i < S) (b : F) (a0 : Int) : K1d a0 a1 a2 a3 (i : Int) (i : Int) b x = some (rdG a1 a2 a3 x b i, x) := by
  obtain ⟨r1, r2, r3⟩ := ok.row hi
  have l1 := ok.i.l1
  have l2 := ok.i.l2
  have S2 := ok.i.S2
  have e := (loop_run (step := K1d_s1 a1 a2 a3 (i : Int) (i : Int) x) (fun (k : Nat) (y : F) => (x, y, (k : Int))) (rdE a2 a3 x i) (fun y => (x, y)) (fun _ _ => True) (lo := (gI a1 i).toNat) (n := (gI a1 (i + 1)).toNat) (by omega) (s0 := b) trivial
    (fun k y hk1 hk2 _ => by
      refine ⟨?_, trivial⟩
      show K1d_b1 _ _ _ _ _ _ _ _ _ = _
      unfold K1d_b1 K1c rdE
      have hkl : k < a2.length := by omega
      have hd : decide ((k : Int) < gI a1 (i + 1)) = true := decide_eq_true (by omega)
      obtain ⟨c1, c2⟩ := ok.g.c k hkl
      rw [wsucc (by omega), olet_eq, at?_n 0 (by omega), obind_eq, hd, bsel_true, at?_n 0 hkl, obind_eq, at?_n none (by rw [ok.l]; exact hkl), obind_eq]
      cases decide (gI a2 k = (i : Int)) with
      | true => rw [Bool.not_true, bsel_false, cond_false, obind2_eq, decide_eq_true rfl, need_true, wsucc (by omega)]; rfl
      | false => rw [Bool.not_false, bsel_true, cond_true, at?_i none c1 (by show _ < x.length; omega), obind_eq, K1b_eq, obind_eq, olet_eq, obind2_eq, decide_eq_true rfl, need_true, wsucc (by omega)]; rfl)
    (fun y _ => by
      show K1d_b1 _ _ _ _ _ _ _ _ _ = _
      unfold K1d_b1
      have hd : decide ((((gI a1 (i + 1)).toNat : Nat) : Int) < gI a1 (i + 1)) = false := decide_eq_false (by omega)
      rw [wsucc (by omega), olet_eq, at?_n 0 (by omega), obind_eq, hd, bsel_false])).1
  have hz : (((gI a1 i).toNat : Nat) : Int) = gI a1 i := by omega
  rw [hz] at e
  unfold K1d
  rw [at?_n 0 (by omega), obind_eq, e]; rfl
def spMid (a1 a2 : List Int) (a3 : List F) (i : Nat) : F := (spAt a1 a2 a3 i i).getD (some 0)
def rdN (a1 a2 : List Int) (a3 b : List F) (haste : F) (i : Nat) (x : List F) : List F := x.set i (fop .add .f32 (x.getD i none) (fop .mul .f32 haste (fop .sub .f32 (fop .quo .f32 (rdG a1 a2 a3 x (b.getD i none) i) (spMid a1 a2 a3 i)) (x.getD i none))))
def rdLi (S : Nat) (a1 a2 : List Int) (a3 b : List F) (haste : F) (x : List F) : List F := run (rdN a1 a2 a3 b haste) 0 S x
theorem rdLi_inv {S : Nat} {a1 a2 : List Int} {a3 b : List F} {haste : F} {x : List F} (lx : x.length = S) (gx : FOks x) : (rdLi S a1 a2 a3 b haste x).length = S ∧ FOks (rdLi S a1 a2 a3 b haste x) :=
  run_inv (f := rdN a1 a2 a3 b haste) (fun _ y => y.length = S ∧ FOks y) S 0 x ⟨lx, gx⟩ fun j y _ _ h => ⟨by simp [rdN, h.1], h.2.set (fop_fok _ _ _)⟩
theorem K0l_row {S : Nat} {a1 a2 : List Int} {a3 b x N : List F} {haste : F} (ok : SpOk S a1 a2 a3) (lb : b.length = S) (lx : x.length = S) (lN : N.length = S * S) (hN : ∀ r c : Nat, r < S → c < S → N.getD (r * S + c) none = (spAt a1 a2 a3 r c).getD (some 0)) :
    loopM (K0l_s15 (S : Int) a1 a2 a3 b haste N) (x, 0) = some (.inl (rdLi S a1 a2 a3 b haste x)) := by
  have l1 := ok.i.l1
  have S2 := ok.i.S2
  obtain ⟨e, _⟩ := loop_run (step := K0l_s15 (S : Int) a1 a2 a3 b haste N) (fun (i : Nat) (x : List F) => (x, (i : Int))) (rdN a1 a2 a3 b haste) (fun x => x) (fun _ x => x.length = S) (lo := 0) (n := S) (Nat.zero_le _) (s0 := x) lx
    (fun i x _ hi hx => by
      refine ⟨?_, by simp [rdN, hx]⟩
      show K0l_b15 _ _ _ _ _ _ _ _ _ = _
      unfold K0l_b15
      have hw := wrap_rc (c := (i : Int)) S2 hi (by omega) (by omega)
      rw [Int.toNat_natCast] at hw
      rw [dlt hi, bsel_true, at?_n none (by omega), obind_eq, at?_n 0 (by omega), obind_eq, K0l_inner ok hx hi, obind_eq, osum_inl]
      unfold K0l_k14
      have e2 : ∀ y : F, setAt? x (i : Int) y = some (x.set i y) := fun y => setAt?_of (by omega) (by omega)
      rw [olet_eq, hw, olet_eq, at?_n none (by rw [lN]; exact rc_lt hi hi), obind_eq, olet_eq, at?_n none (by show _ < x.length; omega), obind_eq, obind_eq, olet_eq, olet_eq, olet_eq, e2, obind_eq, wsucc (by omega), hN i i hi hi]
      rfl)
    (fun x _ => by
      show K0l_b15 _ _ _ _ _ _ _ _ _ = _
      unfold K0l_b15
      rw [dnlt, bsel_false])
  exact e
theorem K1l_row {S : Nat} {a1 a2 : List Int} {a3 b x : List F} {L : List (Int × Int × F)} {haste : F} (ok : SpOk S a1 a2 a3) (lb : b.length = S) (lx : x.length = S) (hL : ∀ r c : Nat, r < S → mget L (r : Int) (c : Int) = spAt a1 a2 a3 r c) :
    loopM (K1l_s3 (S : Int) a1 a2 a3 b haste L) (x, 0) = some (.inl (rdLi S a1 a2 a3 b haste x)) := by
  have l1 := ok.i.l1
  have S2 := ok.i.S2
  obtain ⟨e, _⟩ := loop_run (step := K1l_s3 (S : Int) a1 a2 a3 b haste L) (fun (i : Nat) (x : List F) => (x, (i : Int))) (rdN a1 a2 a3 b haste) (fun x => x) (fun _ x => x.length = S) (lo := 0) (n := S) (Nat.zero_le _) (s0 := x) lx
    (fun i x _ hi hx => by
      refine ⟨?_, by simp [rdN, hx]⟩
      show K1l_b3 _ _ _ _ _ _ _ _ _ = _
      unfold K1l_b3
      have e2 : ∀ y : F, setAt? x (i : Int) y = some (x.set i y) := fun y => setAt?_of (by omega) (by omega)
      rw [dlt hi, bsel_true, at?_n none (by omega), obind_eq, K1l_inner ok hx hi, obind2_eq, Int.toNat_natCast, decide_eq_true hx, need_true, olet_eq, olet_eq, at?_n none (by show _ < x.length; omega), obind_eq, obind_eq, olet_eq, K1b_eq, obind_eq, olet_eq, e2, obind_eq, wsucc (by omega), hL i i hi]
      rfl)
    (fun x _ => by
      show K1l_b3 _ _ _ _ _ _ _ _ _ = _
      unfold K1l_b3
      rw [dnlt, bsel_false])
  exact e
theorem K0f_eq {S : Nat} {a1 a2 : List Int} {a3 x b : List F} (ok : SpOk S a1 a2 a3) (lx : x.length = S) (lb : b.length = S) : K0f (S : Int) a1 a2 a3 x b = some (zipW (fop .sub .f32) S b (timesL S a1 a2 a3 x)) := by
  have S2 := ok.i.S2
  have lt : (timesL S a1 a2 a3 x).length = S := timesL_len
  obtain ⟨e, _⟩ := loop_run (step := K0f_s1 b (timesL S a1 a2 a3 x)) (fun (i : Nat) (l : List F) => (l, (i : Int))) (fun i l => l.set i (fop .sub .f32 (b.getD i none) (l.getD i none))) (fun l => l) (fun _ l => l.length = S) (lo := 0) (n := S) (Nat.zero_le _) (s0 := timesL S a1 a2 a3 x) lt
    (fun i l _ hi hl => by
      refine ⟨?_, by simp [hl]⟩
      show K0f_b1 _ _ _ _ = _
      unfold K0f_b1
      have e2 : ∀ y : F, setAt? l (i : Int) y = some (l.set i y) := fun y => setAt?_of (by omega) (by omega)
      rw [lt, dlt hi, bsel_true, at?_n none (by omega), obind_eq, at?_n none (by show _ < l.length; omega), obind_eq, olet_eq, e2, obind_eq, wsucc (by omega)]
      rfl)
    (fun l _ => by
      show K0f_b1 _ _ _ _ = _
      unfold K0f_b1
      rw [lt, dnlt, bsel_false])
  unfold K0f
  rw [K0e_eq ok lx, obind_eq]
  replace e : loopM (K0f_s1 b (timesL S a1 a2 a3 x)) (timesL S a1 a2 a3 x, 0) = some (.inl (run (fun i l => l.set i (fop .sub .f32 (b.getD i none) (l.getD i none))) 0 (S - 0) (timesL S a1 a2 a3 x))) := e
  rw [Nat.sub_zero, run_set (fun i y => fop .sub .f32 (b.getD i none) y) lt] at e
  rw [e]; rfl
theorem K1h_eq {a b : List F} (hl : a.length ≤ b.length) (hs : a.length ≤ 1000000) : K1h a b = some (zipW (fop .sub .f32) a.length a b) := by
  obtain ⟨e, _⟩ := loop_run (step := K1h_s1 a b) (fun (i : Nat) (l : List F) => (l, (i : Int))) (fun i l => l ++ [fop .sub .f32 (a.getD i none) (b.getD i none)]) (fun l => l) (fun i l => l.length = i) (lo := 0) (n := a.length) (Nat.zero_le _) (s0 := []) rfl
    (fun i l _ hi hI => by
      refine ⟨?_, by simp [hI]⟩
      show K1h_b1 _ _ _ _ = _
      unfold K1h_b1
      have ap : apok 4 l.length 1 = true := by simp [apok, hI]; omega
      rw [dlt hi, bsel_true, at?_n none hi, obind_eq, at?_n none (by omega), obind_eq, olet_eq, ap, need_true, wsucc (by omega)]
      rfl)
    (fun l _ => by
      show K1h_b1 _ _ _ _ = _
      unfold K1h_b1
      rw [dnlt, bsel_false])
  unfold K1h
  replace e : loopM (K1h_s1 a b) ([], 0) = some (.inl (run (fun i l => l ++ [fop .sub .f32 (a.getD i none) (b.getD i none)]) 0 (a.length - 0) [])) := e
  rw [Nat.sub_zero, run_map] at e
  rw [e]; rfl
abbrev RdR := Int × Bool × List F
def rdBad : RdR := (0, false, [])
def rdStep (S : Nat) (a1 a2 : List Int) (a3 b : List F) (haste near : F) (i : Nat) (x : List F) : LR (List F) Unit RdR :=
  bif (rdLi S a1 a2 a3 b haste x).all fin32 && fin32 (normL (zipW (fop .sub .f32) S b (timesL S a1 a2 a3 (rdLi S a1 a2 a3 b haste x)))) then
    (bif fle .f32 (normL (zipW (fop .sub .f32) S b (timesL S a1 a2 a3 (rdLi S a1 a2 a3 b haste x)))) near then .ret ((i : Int), true, rdLi S a1 a2 a3 b haste x) else .next (rdLi S a1 a2 a3 b haste x))
  else .ret rdBad
theorem rdStep_spec {S i : Nat} {a1 a2 : List Int} {a3 b : List F} {haste near : F} {x : List F} (lx : x.length = S) (gx : FOks x) : (∀ x', rdStep S a1 a2 a3 b haste near i x = .next x' → x'.length = S ∧ FOks x') ∧ (∀ e, rdStep S a1 a2 a3 b haste near i x ≠ .out e) ∧ (∀ r, rdStep S a1 a2 a3 b haste near i x = .ret r → r.2.2.length ≤ S) := by
  obtain ⟨h1, h2⟩ := rdLi_inv (a1 := a1) (a2 := a2) (a3 := a3) (b := b) (haste := haste) lx gx
  unfold rdStep
  cases (rdLi S a1 a2 a3 b haste x).all fin32 && fin32 (normL (zipW (fop .sub .f32) S b (timesL S a1 a2 a3 (rdLi S a1 a2 a3 b haste x)))) with
  | false => exact ⟨fun x' h => (by cases h), fun e h => (by cases h), fun r h => (by cases h; simp [rdBad])⟩
  | true =>
    rw [cond_true]
    cases fle .f32 (normL (zipW (fop .sub .f32) S b (timesL S a1 a2 a3 (rdLi S a1 a2 a3 b haste x)))) near with
    | false => exact ⟨fun x' h => (by cases h; exact ⟨h1, h2⟩), fun e h => (by cases h), fun r h => (by cases h)⟩
    | true => exact ⟨fun x' h => (by cases h), fun e h => (by cases h), fun r h => (by cases h; simp [h1])⟩
def rdRun (S : Nat) (a1 a2 : List Int) (a3 b : List F) (haste near : F) (most : Nat) : Unit ⊕ RdR := runL (rdStep S a1 a2 a3 b haste near) (fun _ => ()) 1 most (List.replicate S (some 0))
def rdFin : Unit ⊕ RdR → RdR
  | .inl _ => rdBad
  | .inr r => r
theorem rdRun_len {S : Nat} {a1 a2 : List Int} {a3 b : List F} {haste near : F} (hS : S ≤ 32) : ∀ (m i : Nat) (x : List F), x.length = S → FOks x → (rdFin (runL (rdStep S a1 a2 a3 b haste near) (fun _ => ()) i m x)).2.2.length ≤ 1048576
  | 0, _, _, _, _ => by simp [runL, rdFin, rdBad]
  | m + 1, i, x, lx, gx => by
    obtain ⟨h1, h2, h3⟩ := rdStep_spec (i := i) (a1 := a1) (a2 := a2) (a3 := a3) (b := b) (haste := haste) (near := near) lx gx
    unfold runL
    cases hs : rdStep S a1 a2 a3 b haste near i x with
    | next x' => exact rdRun_len hS m (i + 1) x' (h1 x' hs).1 (h1 x' hs).2
    | out e => exact absurd hs (h2 e)
    | ret r => have := h3 r hs; simp only [rdFin]; omega
theorem K0l_loop {S most : Nat} {a1 a2 : List Int} {a3 b N : List F} {haste near : F} (ok : SpOk S a1 a2 a3) (lb : b.length = S) (hm : most ≤ 128) (lN : N.length = S * S) (hN : ∀ r c : Nat, r < S → c < S → N.getD (r * S + c) none = (spAt a1 a2 a3 r c).getD (some 0)) :
    loopM (K0l_s16 (S : Int) a1 a2 a3 b haste near (most : Int) N) (List.replicate S (some 0), 1) = some (rdRun S a1 a2 a3 b haste near most) := by
  have S2 := ok.i.S2
  have e := loop_runL (step := K0l_s16 (S : Int) a1 a2 a3 b haste near (most : Int) N) (fun (i : Nat) (x : List F) => (x, (i : Int))) (rdStep S a1 a2 a3 b haste near) (fun _ => ()) (fun _ x => x.length = S ∧ FOks x) (lo := 1) (n := most + 1) (by omega) (s0 := List.replicate S (some 0)) ⟨by simp, fun c hc => by rw [List.eq_of_mem_replicate hc]; exact zero_ok⟩
    (fun i x h1 hi hx => by
      refine ⟨?_, fun x' h => (rdStep_spec hx.1 hx.2).1 x' h⟩
      show K0l_b16 _ _ _ _ _ _ _ _ _ _ _ = _
      obtain ⟨k1, k2⟩ := rdLi_inv (a1 := a1) (a2 := a2) (a3 := a3) (b := b) (haste := haste) hx.1 hx.2
      unfold K0l_b16
      rw [decide_eq_true (by omega : (i : Int) ≤ (most : Int)), bsel_true, K0l_row ok lb hx.1 lN hN, obind_eq, osum_inl]
      unfold K0l_k15
      rw [K0f_eq ok k1 lb, obind_eq, K0k_eq (by rw [zipW_len]; omega), obind_eq, K08_eq k2 (by omega), obind_eq]
      unfold rdStep
      cases (rdLi S a1 a2 a3 b haste x).all fin32 with
      | false => rfl
      | true =>
        rw [bsel_true, Bool.true_and, K07_eq (c := normL _) (rootN_ok (dotL_ok _ _)), obind_eq]
        cases fin32 (normL (zipW (fop .sub .f32) S b (timesL S a1 a2 a3 (rdLi S a1 a2 a3 b haste x)))) with
        | false => rfl
        | true =>
          rw [bsel_true, cond_true]
          cases fle .f32 (normL (zipW (fop .sub .f32) S b (timesL S a1 a2 a3 (rdLi S a1 a2 a3 b haste x)))) near with
          | false => rw [bsel_false, cond_false, wsucc (by omega)]; rfl
          | true => rfl)
    (fun x _ => by
      show K0l_b16 _ _ _ _ _ _ _ _ _ _ _ = _
      unfold K0l_b16
      rw [decide_eq_false (by omega), bsel_false])
  exact e
theorem K1l_loop {S most : Nat} {a1 a2 : List Int} {a3 b : List F} {L : List (Int × Int × F)} {haste near : F} (ok : SpOk S a1 a2 a3) (lb : b.length = S) (hm : most ≤ 128) (hL : ∀ r c : Nat, r < S → mget L (r : Int) (c : Int) = spAt a1 a2 a3 r c) :
    loopM (K1l_s4 (S : Int) a1 a2 a3 b haste near (most : Int) L) (List.replicate S (some 0), 1) = some (rdRun S a1 a2 a3 b haste near most) := by
  have S2 := ok.i.S2
  have e := loop_runL (step := K1l_s4 (S : Int) a1 a2 a3 b haste near (most : Int) L) (fun (i : Nat) (x : List F) => (x, (i : Int))) (rdStep S a1 a2 a3 b haste near) (fun _ => ()) (fun _ x => x.length = S ∧ FOks x) (lo := 1) (n := most + 1) (by omega) (s0 := List.replicate S (some 0)) ⟨by simp, fun c hc => by rw [List.eq_of_mem_replicate hc]; exact zero_ok⟩
    (fun i x h1 hi hx => by
      refine ⟨?_, fun x' h => (rdStep_spec hx.1 hx.2).1 x' h⟩
      show K1l_b4 _ _ _ _ _ _ _ _ _ _ _ = _
      obtain ⟨k1, k2⟩ := rdLi_inv (a1 := a1) (a2 := a2) (a3 := a3) (b := b) (haste := haste) hx.1 hx.2
      unfold K1l_b4
      rw [decide_eq_true (by omega : (i : Int) ≤ (most : Int)), bsel_true, K1l_row ok lb hx.1 hL, obind_eq, osum_inl]
      unfold K1l_k3
      rw [K13_eq k2 (by omega), obind_eq]
      unfold rdStep
      cases (rdLi S a1 a2 a3 b haste x).all fin32 with
      | false => rfl
      | true =>
        rw [bsel_true, Bool.true_and, K1g_eq ok k1, obind_eq, K1h_eq (by rw [timesL_len]; omega) (by omega), obind_eq, lb, K1k_eq (by rw [zipW_len]; omega), obind_eq, K0z_eq (c := normL _) (rootN_ok (dotL_ok _ _)), obind_eq]
        cases fin32 (normL (zipW (fop .sub .f32) S b (timesL S a1 a2 a3 (rdLi S a1 a2 a3 b haste x)))) with
        | false => rfl
        | true =>
          rw [bsel_true, cond_true]
          cases fle .f32 (normL (zipW (fop .sub .f32) S b (timesL S a1 a2 a3 (rdLi S a1 a2 a3 b haste x)))) near with
          | false => rw [bsel_false, cond_false, wsucc (by omega)]; rfl
          | true => rfl)
    (fun x _ => by
      show K1l_b4 _ _ _ _ _ _ _ _ _ _ _ = _
      unfold K1l_b4
      rw [decide_eq_false (by omega), bsel_false])
  exact e
theorem loop_testR {S ρ : Type} {step : S → Option (LR S Unit ρ)} (mk : Nat → S) (p : Nat → Bool) (r : ρ) {n : Nat} (hs : ∀ i, i < n → step (mk i) = some (bif p i then .next (mk (i + 1)) else .ret r)) (he : step (mk n) = some (.out ())) :
    ∀ (m i : Nat), i + m = n → loopM step (mk i) = some (bif allP p i m then .inl () else .inr r)
  | 0, i, h => by
    rw [Nat.add_zero] at h
    subst h
    exact loopM_out he
  | m + 1, i, h => by
    have h1 := hs i (by omega)
    cases hp : p i with
    | true =>
      rw [hp, cond_true] at h1
      rw [loopM_next h1, loop_testR mk p r hs he m (i + 1) (by omega)]
      simp only [allP, hp, Bool.true_and]
    | false =>
      rw [hp, cond_false] at h1
      rw [loopM_ret h1]
      simp only [allP, hp, Bool.false_and]; rfl
def midP (a1 a2 : List Int) (a3 : List F) (i : Nat) : Bool := !feq .f32 (spMid a1 a2 a3 i) (some 0)
theorem K0l_mids {S : Nat} {a1 a2 : List Int} {a3 N : List F} (ok : SpOk S a1 a2 a3) (lN : N.length = S * S) (hN : ∀ r c : Nat, r < S → c < S → N.getD (r * S + c) none = (spAt a1 a2 a3 r c).getD (some 0)) :
    loopM (K0l_s1 (S : Int) N) 0 = some (bif allP (midP a1 a2 a3) 0 S then .inl () else .inr rdBad) := by
  have S2 := ok.i.S2
  have e := loop_testR (step := K0l_s1 (S : Int) N) (fun (i : Nat) => (i : Int)) (midP a1 a2 a3) rdBad (n := S)
    (fun i hi => by
      show K0l_b1 _ _ _ = _
      unfold K0l_b1 midP spMid
      have hw := wrap_rc (c := (i : Int)) S2 hi (by omega) (by omega)
      rw [Int.toNat_natCast] at hw
      rw [dlt hi, bsel_true, olet_eq, hw, olet_eq, at?_n none (by rw [lN]; exact rc_lt hi hi), obind_eq, hN i i hi hi]
      cases feq .f32 ((spAt a1 a2 a3 i i).getD (some 0)) (some 0) with
      | true => rfl
      | false => rw [bsel_false, wsucc (by omega)]; rfl)
    (by
      show K0l_b1 _ _ _ = _
      unfold K0l_b1
      rw [dnlt, bsel_false]) S 0 (by omega)
  exact e
theorem K1l_mids {S : Nat} {a1 a2 : List Int} {a3 : List F} {L : List (Int × Int × F)} (ok : SpOk S a1 a2 a3) (hL : ∀ r c : Nat, r < S → mget L (r : Int) (c : Int) = spAt a1 a2 a3 r c) :
    loopM (K1l_s1 (S : Int) L) 0 = some (bif allP (midP a1 a2 a3) 0 S then .inl () else .inr rdBad) := by
  have S2 := ok.i.S2
  have e := loop_testR (step := K1l_s1 (S : Int) L) (fun (i : Nat) => (i : Int)) (midP a1 a2 a3) rdBad (n := S)
    (fun i hi => by
      show K1l_b1 _ _ _ = _
      unfold K1l_b1 midP spMid
      rw [dlt hi, bsel_true, hL i i hi, olet_eq]
      cases feq .f32 ((spAt a1 a2 a3 i i).getD (some 0)) (some 0) with
      | true => rfl
      | false => rw [bsel_false, wsucc (by omega)]; rfl)
    (by
      show K1l_b1 _ _ _ = _
      unfold K1l_b1
      rw [dnlt, bsel_false]) S 0 (by omega)
  exact e
def rdAll (S : Nat) (a1 a2 : List Int) (a3 b : List F) (haste near : F) (most : Nat) : RdR := bif allP (midP a1 a2 a3) 0 S then rdFin (rdRun S a1 a2 a3 b haste near most) else rdBad
theorem two_ok : FOk .f32 (some 1073741824) := ⟨1073741824, rfl, by decide, rfl⟩
theorem K0l_fine {S most : Nat} {a1 a2 : List Int} {a3 b : List F} {haste near : F} (ok : SpOk S a1 a2 a3) (hT : spT (S : Int) a1 a2 a3 b = true) (g3 : FOks a3) (gb : FOks b) (gn : FOk .f32 near) (hh : flt .f32 (some 0) haste = true) (h2 : flt .f32 haste (some 1073741824) = true) (hn : (fin32 near && !flt .f32 near (some 0)) = true) (lb : b.length = S) (hm1 : 1 ≤ most) (hm : most ≤ 128) (s1 : a1.length ≤ 1048576) (s3 : a3.length ≤ 1048576) :
    K0l (S : Int) a1 a2 a3 b haste near (most : Int) = some (rdAll S a1 a2 a3 b haste near most) := by
  have S2 := ok.i.S2
  have sb : b.length ≤ 1048576 := by omega
  have hr : (decide ((1 : Int) ≤ (most : Int)) && decide ((most : Int) ≤ 128)) = true := by rw [decide_eq_true (by omega), decide_eq_true (by omega)]; rfl
  unfold spT at hT
  obtain ⟨T, N, e, lT, lN, hT', hN⟩ := K0d_eq ok
  unfold K0l
  rw [K0a_eq _ a1 a2 g3 gb s1 s3 sb, hT, obind_eq, bsel_true, hh, bsel_true, h2, bsel_true, K0b_eq gn, hn, obind_eq, bsel_true, K06_eq, hr, obind_eq, bsel_true, e, obind3_eq, K0l_mids ok lN hN, obind_eq]
  unfold rdAll
  cases allP (midP a1 a2 a3) 0 S with
  | false => rfl
  | true =>
    rw [cond_true, osum_inl]
    unfold K0l_k1
    rw [mkok_n (by omega) (by omega), need_true, Int.toNat_natCast, K0l_loop ok lb hm lN hN, obind_eq]
    cases rdRun S a1 a2 a3 b haste near most <;> rfl
theorem K0l_fails {a0 : Int} {a1 a2 : List Int} {a3 b : List F} {haste near : F} {most : Int} (g3 : FOks a3) (gb : FOks b) (gn : FOk .f32 near) (s1 : a1.length ≤ 1048576) (s3 : a3.length ≤ 1048576) (sb : b.length ≤ 1048576)
    (h : (spT a0 a1 a2 a3 b && (flt .f32 (some 0) haste && (flt .f32 haste (some 1073741824) && ((fin32 near && !flt .f32 near (some 0)) && (decide (1 ≤ most) && decide (most ≤ 128)))))) = false) : K0l a0 a1 a2 a3 b haste near most = some rdBad := by
  unfold K0l
  rw [K0a_eq a0 a1 a2 g3 gb s1 s3 sb, obind_eq, K0b_eq gn, obind_eq, K06_eq, obind_eq]
  unfold spT at h
  generalize (validS a0 a1 a2 a3 && (decide ((b.length : Int) = a0) && b.all fin32)) = T at h ⊢
  generalize flt .f32 (some 0) haste = p at h ⊢
  generalize flt .f32 haste (some 1073741824) = q at h ⊢
  generalize (fin32 near && !flt .f32 near (some 0)) = n at h ⊢
  generalize (decide (1 ≤ most) && decide (most ≤ 128)) = m at h ⊢
  cases T <;> cases p <;> cases q <;> cases n <;> cases m <;> first | rfl | cases h
theorem K1l_fails {a0 : Int} {a1 a2 : List Int} {a3 b : List F} {haste near : F} {most : Int} (g3 : FOks a3) (gb : FOks b) (gh : FOk .f32 haste) (gn : FOk .f32 near) (s1 : a1.length ≤ 1048576) (s2 : a2.length ≤ 1048576) (s3 : a3.length ≤ 1048576) (sb : b.length ≤ 1048576)
    (h : (spT a0 a1 a2 a3 b && ((fin32 haste && fin32 near) && (!fle .f32 haste (some 0) && (!fle .f32 (some 1073741824) haste && (!flt .f32 near (some 0) && (decide (1 ≤ most) && decide (most ≤ 128))))))) = false) : K1l a0 a1 a2 a3 b haste near most = some rdBad := by
  unfold K1l
  rw [K17_eq a0 a1 a2 g3 gb s1 s2 s3 sb, obind_eq, K13_two gh gn, obind_eq, K0n_eq, obind_eq]
  unfold spT at h
  generalize (validS a0 a1 a2 a3 && (decide ((b.length : Int) = a0) && b.all fin32)) = T at h ⊢
  generalize (fin32 haste && fin32 near) = f at h ⊢
  generalize fle .f32 haste (some 0) = p at h ⊢
  generalize fle .f32 (some 1073741824) haste = q at h ⊢
  generalize flt .f32 near (some 0) = n at h ⊢
  generalize (decide (1 ≤ most) && decide (most ≤ 128)) = m at h ⊢
  cases T <;> cases f <;> cases p <;> cases q <;> cases n <;> cases m <;> first | rfl | cases h
theorem K1l_fine {S most : Nat} {a1 a2 : List Int} {a3 b : List F} {haste near : F} (ok : SpOk S a1 a2 a3) (hT : spT (S : Int) a1 a2 a3 b = true) (g3 : FOks a3) (gb : FOks b) (gh : FOk .f32 haste) (gn : FOk .f32 near) (hf : (fin32 haste && fin32 near) = true) (hh : fle .f32 haste (some 0) = false) (h2 : fle .f32 (some 1073741824) haste = false) (hn : flt .f32 near (some 0) = false) (lb : b.length = S) (hm1 : 1 ≤ most) (hm : most ≤ 128) (s1 : a1.length ≤ 1048576) (s2 : a2.length ≤ 1048576) (s3 : a3.length ≤ 1048576) :
    K1l (S : Int) a1 a2 a3 b haste near (most : Int) = some (rdAll S a1 a2 a3 b haste near most) := by
  have S2 := ok.i.S2
  have sb : b.length ≤ 1048576 := by omega
  have hr : (decide ((1 : Int) ≤ (most : Int)) && decide ((most : Int) ≤ 128)) = true := by rw [decide_eq_true (by omega), decide_eq_true (by omega)]; rfl
  unfold spT at hT
  obtain ⟨L, e, hL⟩ := K1a_eq ok
  unfold K1l
  rw [K17_eq _ a1 a2 g3 gb s1 s2 s3 sb, hT, obind_eq, bsel_true, K13_two gh gn, hf, obind_eq, bsel_true, hh, bsel_false, h2, bsel_false, hn, bsel_false, K0n_eq, hr, obind_eq, bsel_true, e, obind_eq, K1l_mids ok hL, obind_eq]
  unfold rdAll
  cases allP (midP a1 a2 a3) 0 S with
  | false => rfl
  | true =>
    rw [cond_true, osum_inl]
    unfold K1l_k1
    rw [mkok_n (by omega) (by omega), need_true, Int.toNat_natCast, K1l_loop ok lb hm hL, obind_eq]
    cases rdRun S a1 a2 a3 b haste near most <;> rfl
theorem flt_fin {x : F} (hx : FOk .f32 x) (h0 : flt .f32 (some 0) x = true) (h2 : flt .f32 x (some 1073741824) = true) : fin32 x = true := by
  cases x with
  | none => cases h0
  | some b =>
    rcases read_cases (f := Ieee.single) (fmt_ok .f32) hx.some.2 with ⟨_, g2⟩ | ⟨_, g2⟩
    · simp [fin32, g2]
    · exfalso
      have e0 : Ieee.single.read 0 = .number false 0 (-149) := by rfl
      have e2 : ∃ s m e, Ieee.single.read 1073741824 = .number s m e := ⟨_, _, _, rfl⟩
      obtain ⟨s, m, e, e2⟩ := e2
      cases hs : wneg Ieee.single b with
      | true =>
        have : flt .f32 (some 0) (some b) = (Ieee.single.order 0 b == some .lt) := rfl
        rw [this] at h0
        unfold Ieee.Format.order at h0
        rw [g2, hs, e0] at h0
        exact absurd h0 (by decide)
      | false =>
        have : flt .f32 (some b) (some 1073741824) = (Ieee.single.order b 1073741824 == some .lt) := rfl
        rw [this] at h2
        unfold Ieee.Format.order at h2
        rw [g2, hs, e2] at h2
        simp [Ieee.Datum.order] at h2
theorem SparseRounds_eq (a0 : Int) (a1 a2 : List Int) (a3 a4 : List F) (a5 a6 : F) (a7 : Int) (g3 : FOks a3) (g4 : FOks a4) (g5 : FOk .f32 a5) (g6 : FOk .f32 a6) (s1 : a1.length ≤ 1048576) (s2 : a2.length ≤ 1048576) (s3 : a3.length ≤ 1048576) (s4 : a4.length ≤ 1048576) :
    ∃ n b l, K0l a0 a1 a2 a3 a4 a5 a6 a7 = some (n, b, l) ∧ K1l a0 a1 a2 a3 a4 a5 a6 a7 = some (n, b, l) ∧ l.length ≤ 1048576 := by
  cases hc : spT a0 a1 a2 a3 a4 && (flt .f32 (some 0) a5 && (flt .f32 a5 (some 1073741824) && ((fin32 a6 && !flt .f32 a6 (some 0)) && (decide (1 ≤ a7) && decide (a7 ≤ 128))))) with
  | false =>
    refine ⟨0, false, [], K0l_fails g3 g4 g6 s1 s3 s4 hc, K1l_fails g3 g4 g5 g6 s1 s2 s3 s4 ?_, by simp⟩
    cases hf : fin32 a5 with
    | false => simp
    | true =>
      rw [below_eq zero_ok (by decide) g5 hf, below_eq g5 hf two_ok (by decide)] at hc
      revert hc
      cases spT a0 a1 a2 a3 a4 <;> cases fin32 a6 <;> cases fle .f32 a5 (some 0) <;> cases fle .f32 (some 1073741824) a5 <;> cases flt .f32 a6 (some 0) <;> simp
  | true =>
    simp only [Bool.and_eq_true, decide_eq_true_eq] at hc
    obtain ⟨hT, h0, h2, hn, hm0, hm⟩ := hc
    obtain ⟨S, rfl, ok, lb, fb⟩ := spT_spec hT
    obtain ⟨most, rfl⟩ : ∃ q : Nat, a7 = (q : Int) := ⟨a7.toNat, by omega⟩
    have hf := flt_fin g5 h0 h2
    have k0 : fle .f32 a5 (some 0) = false := by have := below_eq zero_ok (by decide) g5 hf; rw [h0] at this; simpa using this.symm
    have k2 : fle .f32 (some 1073741824) a5 = false := by have := below_eq g5 hf two_ok (by decide); rw [h2] at this; simpa using this.symm
    have hn' : (fin32 a6 && !flt .f32 a6 (some 0)) = true := by simp [hn.1, hn.2]
    refine ⟨_, _, _, K0l_fine ok hT g3 g4 g6 h0 h2 hn' lb (by omega) (by omega) s1 s3, K1l_fine ok hT g3 g4 g5 g6 (by rw [hf, hn.1]; rfl) k0 k2 (by simpa using hn.2) lb (by omega) (by omega) s1 s2 s3, ?_⟩
    show (rdAll S a1 a2 a3 a4 a5 a6 most).2.2.length ≤ 1048576
    unfold rdAll
    cases allP (midP a1 a2 a3) 0 S with
    | false => simp [rdBad]
    | true =>
      rw [cond_true]
      exact rdRun_len ok.i.S2 _ _ _ (by simp) fun c hc => by rw [List.eq_of_mem_replicate hc]; exact zero_ok
theorem K1u_true (a0 : Int) (a1 : List Int) (a2 : List Int) (a3 : List F) (a4 : List F) (a5 : F) (a6 : F) (a7 : Int) (s_a1 : Small a1) (s_a2 : Small a2) (s_a3 : Small a3) (s_a4 : Small a4) (g_a3 : FOks a3) (g_a4 : FOks a4) (g_a5 : FOk .f32 a5) (g_a6 : FOk .f32 a6) : K1u a0 a1 a2 a3 a4 a5 a6 a7 = some true := by
  rcases Nat.lt_or_ge 1048576 a4.length with cb0 | t_a4
  · have db : decide ((1048576 : Int) < (a4.length : Int)) = true := decide_eq_true (by omega)
    simp [K1u, K1p, K1s, K02, K05, db]
  have db0 : decide ((1048576 : Int) < (a4.length : Int)) = false := decide_eq_false (by omega)
  obtain ⟨l0, e0, h0⟩ := K00_ex a1 1048576 s_a1 (by omega) (by omega)
  rcases Int.lt_or_le l0 0 with c0 | c0
  · simp [K1u, K1p, K1s, K02, K05, e0, c0, db0]
  have d0 : decide (l0 < 0) = false := by simp; omega
  have t0 := h0 c0
  have t_a1 : a1.length ≤ 1048576 := by omega
  obtain ⟨l1, e1, h1⟩ := K00_ex a2 l0 s_a2 (by omega) (by omega)
  rcases Int.lt_or_le l1 0 with c1 | c1
  · simp [K1u, K1p, K1s, K02, K05, e0, e1, d0, c1, db0]
  have d1 : decide (l1 < 0) = false := by simp; omega
  have t1 := h1 c1
  have t_a2 : a2.length ≤ 1048576 := by omega
  obtain ⟨l2, e2, h2⟩ := K01_ex a3 l1 s_a3 (by omega) (by omega)
  rcases Int.lt_or_le l2 0 with c2 | c2
  · simp [K1u, K1p, K1s, K02, K05, e0, e1, e2, d0, d1, c2, db0]
  have d2 : decide (l2 < 0) = false := by simp; omega
  have t2 := h2 c2
  have t_a3 : a3.length ≤ 1048576 := by omega
  have f1 : K03 a1 = some a1 := K03_eq a1 t_a1
  have f2 : K03 a2 = some a2 := K03_eq a2 t_a2
  have f3 : K04 a3 = some a3 := K04_eq a3 t_a3
  have f4 : K04 a4 = some a4 := K04_eq a4 t_a4
  obtain ⟨z0, z1, z2, p1, p2, b_z2⟩ := SparseRounds_eq a0 a1 a2 a3 a4 a5 a6 a7 g_a3 g_a4 g_a5 g_a6 t_a1 t_a2 t_a3 t_a4
  have f5 : K1n z2 z2 = some true := K1n_refl z2 b_z2
  have f6 : (!(z1 == z1)) = false := by cases z1 <;> rfl
  have f7 : K1o a1 a1 = some true := K1o_refl a1 t_a1
  have f8 : K1o a2 a2 = some true := K1o_refl a2 t_a2
  have f9 : K1n a3 a3 = some true := K1n_refl a3 t_a3
  have f10 : K1n a4 a4 = some true := K1n_refl a4 t_a4
  have f11 : K1q 1 a1 = some ((1 + (a1.length : Int)), marksI 1 a1.length) := K1q_eq 1 a1 (by omega) (by omega) t_a1
  have f12 : K1q (1 + (a1.length : Int)) a2 = some (((1 + (a1.length : Int)) + (a2.length : Int)), marksI (1 + (a1.length : Int)) a2.length) := K1q_eq (1 + (a1.length : Int)) a2 (by omega) (by omega) t_a2
  have f13 : K1r ((1 + (a1.length : Int)) + (a2.length : Int)) a3 = some ((((1 + (a1.length : Int)) + (a2.length : Int)) + (a3.length : Int)), marks ((1 + (a1.length : Int)) + (a2.length : Int)) a3.length) := K1r_eq ((1 + (a1.length : Int)) + (a2.length : Int)) a3 (by omega) (by omega) t_a3
  have f14 : K1r (((1 + (a1.length : Int)) + (a2.length : Int)) + (a3.length : Int)) a4 = some (((((1 + (a1.length : Int)) + (a2.length : Int)) + (a3.length : Int)) + (a4.length : Int)), marks (((1 + (a1.length : Int)) + (a2.length : Int)) + (a3.length : Int)) a4.length) := K1r_eq (((1 + (a1.length : Int)) + (a2.length : Int)) + (a3.length : Int)) a4 (by omega) (by omega) t_a4
  have f15 : decide (((((1 + (a1.length : Int)) + (a2.length : Int)) + (a3.length : Int)) + (a4.length : Int)) < 0) = false := by simp <;> omega
  have f16 : K1r 1 z2 = some ((1 + (z2.length : Int)), marks 1 z2.length) := K1r_eq 1 z2 (by omega) (by omega) b_z2
  have f17 : K1t (marks 1 z2.length) 1 = some (1 + (z2.length : Int)) := K1t_eq 1 z2.length (by omega) (by omega) b_z2
  have f18 : decide ((1 + (z2.length : Int)) < 0) = false := by simp <;> omega
  simp only [K1u, K1p, K1s, K02, K05, db0, e0, d0, e1, d1, e2, d2, f1, f2, f3, f4, p1, p2, f5, f6, f7, f8, f9, f10, f11, f12, f13, f14, f15, f16, f17, f18, obind_eq, obind2_eq, obind3_eq, obind4_eq, obind5_eq, obind6_eq, obind7_eq, obind8_eq, bsel_true, bsel_false, need_true, olet_eq, marks_len, marksI_len, decide_true, Bool.not_true, Bool.not_false]

end Go.Proofs.Ytfhbfpdeafpelaa
