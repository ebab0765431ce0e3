/- The plain law of FnExactSignsOf. -/
import Derived.Test.YtjbifkimffmhpaaG1
namespace Go.Proofs.Ytjbifkimffmhpaa
set_option linter.unusedSimpArgs false
set_option linter.unusedVariables false
open Go Go.AM
def Small {α : Type} (l : List α) : Prop := l.length ≤ 9223372036854775807
theorem sz_one (n : Nat) (a : Int) (hn : n ≤ 9223372036854775807) (h0 : 0 ≤ a) (h1 : a ≤ 1048576) :
    ∃ r, olet (IntKind.i64.wrap (a - (n : Int))) (fun x1 => bsel (decide (x1 < 0)) (some (-1)) (some x1)) = some r ∧ (0 ≤ r → (n : Int) ≤ a ∧ r ≤ a) := by
  rw [wrap_i64 (by omega) (by omega)]
  simp only [olet_eq, bsel_if, decide_eq_true_eq]
  split
  · exact ⟨_, rfl, fun h => by omega⟩
  · exact ⟨_, rfl, fun h => by omega⟩
theorem w_szFloat32S_ex (l : List F) (a : Int) (hn : Small l) (h0 : 0 ≤ a) (h1 : a ≤ 1048576) : ∃ r, w_szFloat32S l a = some r ∧ (0 ≤ r → (l.length : Int) ≤ a ∧ r ≤ a) := sz_one l.length a hn h0 h1
theorem w_toFloat32S_eq (a : List F) (h : a.length ≤ 1048576) : w_toFloat32S a = some a := by
  unfold w_toFloat32S
  have hm : mkok 4 (a.length : Int) = true := by simp [mkok]; omega
  rw [hm, need_true, loop_copy (a := a) (ρ := List F) ?_ ?_ _ (by simp)]
  · rfl
  · intro L v x h0 hv hx hL
    show w_toFloat32S_b1 a L v = _
    unfold w_toFloat32S_b1
    have hs := setAt?_of (l := L) (x := x) h0 (by omega)
    simp [bsel_if, hv, at?_of h0 hx, hs, wrap_succ h0 hv (by omega : a.length ≤ 9223372036854775807)]
  · intro L hL
    show w_toFloat32S_b1 a L (a.length : Int) = _
    unfold w_toFloat32S_b1
    simp [bsel_if]
theorem w_sameFloat_refl (c : F) : w_sameFloat c c = some true := by
  unfold w_sameFloat
  cases h : feq .f64 c c <;> simp [w_sameFloat_k1, h, bsel_if]
theorem w_eqFloat32S_refl (a : List F) (h : a.length ≤ 1048576) : w_eqFloat32S a a = some true := by
  unfold w_eqFloat32S
  rw [loop_eq (l := a) (m := a) rfl ?_ ?_]
  · simp [bsel_if, w_eqFloat32S_k1]
  · intro v x y h0 hv hx hy
    rw [hx] at hy; cases hy
    show w_eqFloat32S_b1 a a v = _
    unfold w_eqFloat32S_b1
    rw [at?_of h0 hx, wrap_succ h0 hv (by omega)]
    simp [bsel_if, hv, w_sameFloat_refl]
  · show w_eqFloat32S_b1 a a (a.length : Int) = _
    unfold w_eqFloat32S_b1
    simp [bsel_if]
def FOks (l : List F) : Prop := ∀ c ∈ l, FOk .f32 c
theorem FOks.at {l : List F} (h : FOks l) {i : Nat} {c : F} (e : l[i]? = some c) : FOk .f32 c := h c (List.mem_of_getElem? e)
theorem s_l00In_eq (n lo hi : Int) : s_l00In n lo hi = some (decide (lo ≤ n) && decide (n ≤ hi)) := by
  unfold s_l00In; cases decide (lo ≤ n) <;> rfl
theorem i_inRange_eq (n lo hi : Int) : i_inRange n lo hi = some (decide (lo ≤ n) && decide (n ≤ hi)) := by
  unfold i_inRange; cases decide (lo ≤ n) <;> rfl
theorem s_l01Finite_eq {c : F} (h : FOk .f32 c) : s_l01Finite c = some (fin32 c) := by
  unfold s_l01Finite; rw [olet_eq, sub_self h]
theorem s_l02Finite_eq {a : List F} (ha : FOks a) (sa : a.length ≤ 1048576) : s_l02Finite a = some (a.all fin32) := by
  unfold s_l02Finite
  rw [loop_all (l := a) (p := fin32) false ?_ ?_]
  · cases h : a.all fin32 <;> simp [s_l02Finite_k1]
  · intro v x h0 hv hx
    show s_l02Finite_b1 a v = _
    unfold s_l02Finite_b1
    rw [at?_of h0 hx, wrap_succ h0 hv (by omega)]
    simp [bsel_if, hv, s_l01Finite_eq (ha.at hx)]
  · show s_l02Finite_b1 a (a.length : Int) = _
    unfold s_l02Finite_b1
    simp [bsel_if]
theorem i_IsFinite_eq {c : F} (h : FOk .f32 c) : i_IsFinite c = some (fin32 c) := by
  unfold i_IsFinite i_isFinite64 x_math_IsNaN x_math_IsInf x_math_Abs x_math_IsInf_k1
  cases c with
  | none => simp [fwiden, fin32]
  | some b =>
    have hw := feq_refl (k := .f64) (b := FloatKind.f64.encode (FloatKind.f32.decode b)) (fwiden_ok h)
    have hw' : feq .f64 (fwiden (some b)) (fwiden (some b)) = true := hw
    have hm := fabs_max h (by simp)
    simp only [olet_eq, obind_eq, hw', Bool.not_true, bsel_false, decide_true, bsel_true, hm, Bool.not_not]
theorem i_areFinite_1_eq {c : F} (h : FOk .f32 c) : i_areFinite_1 c = some (!fin32 c) := by
  unfold i_areFinite_1; rw [i_IsFinite_eq h]; rfl
theorem any_not {α : Type} (l : List α) (p : α → Bool) : l.any (fun x => !p x) = !l.all p := by
  induction l with
  | nil => rfl
  | cons a l ih => simp [ih]
theorem i_areFinite_eq {a : List F} (ha : FOks a) (sa : a.length ≤ 1048576) : i_areFinite a = some (a.all fin32) := by
  unfold i_areFinite x_slices_ContainsFunc_float32_float32_1Fi_areFinite_1 x_slices_IndexFunc_float32_float32_1Fi_areFinite_1
  obtain ⟨r, h1, h2⟩ := loop_find (l := a) (p := fun c => !fin32 c) (step := x_slices_IndexFunc_float32_float32_1Fi_areFinite_1_s1 a) (by
    intro v x h0 hv hx
    show x_slices_IndexFunc_float32_float32_1Fi_areFinite_1_b1 a v = _
    unfold x_slices_IndexFunc_float32_float32_1Fi_areFinite_1_b1
    rw [at?_of h0 hx, wrap_succ h0 hv (by omega)]
    simp [bsel_if, hv, i_areFinite_1_eq (ha.at hx)]) (by
    show x_slices_IndexFunc_float32_float32_1Fi_areFinite_1_b1 a (a.length : Int) = _
    unfold x_slices_IndexFunc_float32_float32_1Fi_areFinite_1_b1
    simp [bsel_if])
  rw [h1, any_not]
  cases h : a.all fin32 <;> simp [x_slices_IndexFunc_float32_float32_1Fi_areFinite_1_k1, h2]
theorem fint_ok (n : Int) : FOk .f32 (fint .f32 n) := ⟨_, encode_FR .f32 (d := .number (n < 0) n.natAbs 0) rfl⟩
theorem feq_fint (n : Int) : feq .f32 (fint .f32 n) (fint .f32 n) = true := feq_refl (fint_ok n)
def marks (k : Int) (n : Nat) : List F := (List.range n).map fun (i : Nat) => fint .f32 (k + (i : Int))
def marksI (k : Int) (n : Nat) : List Int := (List.range n).map fun (i : Nat) => k + (i : Int)
theorem marks_len (k : Int) (n : Nat) : (marks k n).length = n := by simp [marks]
theorem marksI_len (k : Int) (n : Nat) : (marksI k n).length = n := by simp [marksI]
theorem loop_mark {α ρ : Type} (mk : Int → α) (k : Int) (n : Nat) {step : List α × Int × Int → Option (LR (List α × Int × Int) (List α × Int) ρ)}
    (hstep : ∀ (L : List α) (i : Nat), i < n → L.length = n → step (L, k + (i : Int), (i : Int)) = some (.next (L.set i (mk (k + (i : Int))), k + ((i + 1 : Nat) : Int), ((i + 1 : Nat) : Int))))
    (hend : ∀ L : List α, L.length = n → step (L, k + (n : Int), (n : Int)) = some (.out (L, k + (n : Int)))) (a : List α) (ha : a.length = n) :
    loopM step (a, k, 0) = some (.inl ((List.range n).map (fun (i : Nat) => mk (k + (i : Int))), k + (n : Int))) := by
  have key : ∀ (m i : Nat) (L : List α), m + i = n → L.length = n → L.take i = (List.range i).map (fun (i : Nat) => mk (k + (i : Int))) → loopM step (L, k + (i : Int), (i : Int)) = some (.inl ((List.range n).map (fun (i : Nat) => mk (k + (i : Int))), k + (n : Int))) := by
    intro m
    induction m with
    | zero =>
      intro i L hi hL ht
      have : i = n := by omega
      subst this
      rw [loopM_out (hend L hL), ← ht, ← hL, List.take_length]
    | succ m ih =>
      intro i L hi hL ht
      rw [loopM_next (hstep L i (by omega) hL)]
      refine ih (i + 1) _ (by omega) (by simpa using hL) ?_
      rw [List.take_succ_eq_append_getElem (by simp; omega), List.take_set_of_le (Nat.le_refl _), ht, List.range_succ, List.map_append]
      simp
  have := key n 0 a (by omega) ha (by simp)
  simpa using this
theorem w_markFloat32S_0o_eq (k : Int) (a : List F) (h0 : -1000000000 ≤ k) (h1 : k ≤ 1000000000) (ha : a.length ≤ 1048576) : w_markFloat32S_0o k a = some (k + (a.length : Int), marks k a.length) := by
  unfold w_markFloat32S_0o
  rw [loop_mark (fun n => fint .f32 n) k a.length (step := w_markFloat32S_0o_s1 a) ?_ ?_ a rfl]
  · rfl
  · intro L i hi hL
    show w_markFloat32S_0o_b1 a L (k + (i : Int)) (i : Int) = _
    unfold w_markFloat32S_0o_b1
    have hs := setAt?_of (l := L) (v := (i : Int)) (x := fint .f32 (k + (i : Int))) (by omega) (by omega)
    have e1 : IntKind.i64.wrap (k + (i : Int) + 1) = k + ((i + 1 : Nat) : Int) := by rw [wrap_i64 (by omega) (by omega)]; omega
    have e2 : IntKind.i64.wrap ((i : Int) + 1) = ((i + 1 : Nat) : Int) := by rw [wrap_i64 (by omega) (by omega)]; omega
    simp only [olet_eq, hs, obind_eq, e1, e2, bsel_if, decide_eq_true_eq]
    rw [if_pos (by omega)]
    rfl
  · intro L hL
    show w_markFloat32S_0o_b1 a L (k + (a.length : Int)) (a.length : Int) = _
    unfold w_markFloat32S_0o_b1
    simp [bsel_if]
theorem loop_held {k : Int} {n : Nat} {step : Int × Int → Option (LR (Int × Int) Int Int)}
    (hstep : ∀ i : Nat, i < n → step (k + (i : Int), (i : Int)) = some (.next (k + ((i + 1 : Nat) : Int), ((i + 1 : Nat) : Int)))) (hend : step (k + (n : Int), (n : Int)) = some (.out (k + (n : Int)))) :
    loopM step (k, 0) = some (.inl (k + (n : Int))) := by
  have key : ∀ (m i : Nat), m + i = n → loopM step (k + (i : Int), (i : Int)) = some (.inl (k + (n : Int))) := by
    intro m
    induction m with
    | zero => intro i hi; have : i = n := by omega
              subst this; exact loopM_out hend
    | succ m ih => intro i hi; rw [loopM_next (hstep i (by omega))]; exact ih (i + 1) (by omega)
  have := key n 0 (by omega)
  simpa using this
theorem w_heldFloat32S_eq (k : Int) (n : Nat) (h0 : -1000000000 ≤ k) (h1 : k ≤ 1000000000) (hn : n ≤ 1048576) : w_heldFloat32S (marks k n) k = some (k + (n : Int)) := by
  unfold w_heldFloat32S
  rw [loop_held (k := k) (n := n) (step := w_heldFloat32S_s1 (marks k n)) ?_ ?_]
  · rfl
  · intro i hi
    show w_heldFloat32S_b1 (marks k n) (k + (i : Int)) (i : Int) = _
    unfold w_heldFloat32S_b1
    have hx : (marks k n)[(i : Int).toNat]? = some (fint .f32 (k + (i : Int))) := by simp [marks, hi]
    have e1 : IntKind.i64.wrap (k + (i : Int) + 1) = k + ((i + 1 : Nat) : Int) := by rw [wrap_i64 (by omega) (by omega)]; omega
    have e2 : IntKind.i64.wrap ((i : Int) + 1) = ((i + 1 : Nat) : Int) := by rw [wrap_i64 (by omega) (by omega)]; omega
    rw [at?_of (by omega) hx]
    simp only [olet_eq, obind_eq, e1, e2, bsel_if, decide_eq_true_eq, marks_len, feq_fint]
    rw [if_pos (by omega)]
    simp
  · show w_heldFloat32S_b1 (marks k n) (k + (n : Int)) (n : Int) = _
    unfold w_heldFloat32S_b1
    simp [bsel_if, marks_len]
theorem small_mul {x y : Nat} (hx : x ≤ 12) (hy : y ≤ 12) : x * y ≤ 144 := Nat.mul_le_mul hx hy
theorem div_at {i k c : Nat} (hk : k < c) : (i * c + k) / c = i ∧ (i * c + k) % c = k := by
  have hc : 0 < c := by omega
  constructor
  · rw [Nat.mul_comm, Nat.mul_add_div hc, Nat.div_eq_of_lt hk, Nat.add_zero]
  · rw [Nat.mul_comm, Nat.mul_add_mod, Nat.mod_eq_of_lt hk]
def side (n : Int) : Bool := decide (1 ≤ n) && decide (n ≤ 12)
theorem s_l02Sides_eq (x y : Int) : s_l02Sides x y = some (side x && side y) := by
  unfold s_l02Sides; rw [s_l00In_eq, s_l00In_eq]; unfold side
  cases decide (1 ≤ x) <;> cases decide (x ≤ 12) <;> rfl
theorem i_isSide_eq (x : Int) : i_isSide x = some (side x) := by
  unfold i_isSide; rw [i_inRange_eq]; rfl
def validM (a0 a1 : Int) (a2 : List F) : Bool := side a0 && side a1 && decide ((a2.length : Int) = IntKind.i64.wrap (a0 * a1)) && a2.all fin32
theorem s_l02Is_eq (a0 a1 : Int) {a2 : List F} (g2 : FOks a2) (s2 : a2.length ≤ 1048576) : s_l02Is a0 a1 a2 = some (validM a0 a1 a2) := by
  unfold s_l02Is validM
  rw [s_l02Sides_eq, s_l02Finite_eq g2 s2]
  cases side a0 <;> cases side a1 <;> simp [bsel_if] <;> split <;> simp_all
theorem i_ValidMatrix_eq (a0 a1 : Int) {a2 : List F} (g2 : FOks a2) (s2 : a2.length ≤ 1048576) : i_ValidMatrix a0 a1 a2 = some (validM a0 a1 a2) := by
  unfold i_ValidMatrix i_length_float32 validM
  rw [i_isSide_eq, i_isSide_eq, i_areFinite_eq g2 s2]
  cases side a0 <;> cases side a1 <;> simp [bsel_if] <;> split <;> simp_all
theorem side_nat {n : Int} (h : side n = true) : ∃ m : Nat, n = (m : Int) ∧ 0 < m ∧ m ≤ 12 := by
  simp [side] at h
  exact ⟨n.toNat, by omega, by omega, by omega⟩
theorem FOks.getD {l : List F} (h : FOks l) (n : Nat) : FOk .f32 (l.getD n none) := by
  simp only [List.getD]
  cases e : l[n]? with
  | none => exact fok_none _
  | some c => exact h.at e
theorem FOks.set {l : List F} (h : FOks l) {n : Nat} {x : F} (hx : FOk .f32 x) : FOks (l.set n x) := by
  intro c hc
  rcases List.mem_or_eq_of_mem_set hc with h1 | h1
  · exact h c h1
  · exact h1 ▸ hx
theorem wsucc {i : Nat} (h : i ≤ 1000000000) : IntKind.i64.wrap ((i : Int) + 1) = ((i + 1 : Nat) : Int) := by
  rw [wrap_i64 (by omega) (by omega)]; omega
theorem dlt {i n : Nat} (h : i < n) : decide ((i : Int) < (n : Int)) = true := by simp; omega
theorem dnlt {n : Nat} : decide ((n : Int) < (n : Int)) = false := by simp
theorem dle {i n : Nat} (h : i ≤ n) : decide ((i : Int) ≤ (n : Int)) = true := by simp; omega
theorem i_Matrix_at_eq {A C i k : Nat} {L : List F} (r : Int) (h : Mat A C L) (hi : i < A) (hk : k < C) : i_Matrix_at r (C : Int) L (i : Int) (k : Int) = some (gm none L C i k) := by
  obtain ⟨e1, e2⟩ := idx_w h.A1 h.C1 hi hk
  unfold i_Matrix_at
  rw [e1, olet_eq, e2, olet_eq, at?_n none (h.lt hi hk), obind_eq]
theorem s_l02At_eq {A C i k : Nat} {L : List F} (r : Int) (h : Mat A C L) (hi : i < A) (hk : k < C) : s_l02At r (C : Int) L (i : Int) (k : Int) = some (gm none L C i k) := by
  obtain ⟨e1, e2⟩ := idx_w h.A1 h.C1 hi hk
  unfold s_l02At
  rw [e1, olet_eq, e2, olet_eq, at?_n none (h.lt hi hk), obind_eq]
theorem i_Matrix_set_02o_eq {A C i k : Nat} {L : List F} (r : Int) (h : Mat A C L) (hi : i < A) (hk : k < C) (x : F) : i_Matrix_set_02o r (C : Int) (i : Int) (k : Int) x L = some (sm L C i k x) := by
  obtain ⟨e1, e2⟩ := idx_w h.A1 h.C1 hi hk
  unfold i_Matrix_set_02o
  rw [e1, olet_eq, e2, olet_eq, setAt?_n x (h.lt hi hk), obind_eq]
theorem i_mul_eq (a b : F) : i_mul a b = some (fop .mul .f32 a b) := rfl
theorem getD_of_lt {α : Type} {l : List α} {n : Nat} (d : α) (h : n < l.length) : l[n]? = some (l.getD n d) := by simp [List.getD, h]
theorem s_l02Square_eq (a0 a1 : Int) {a2 : List F} (g2 : FOks a2) (s2 : a2.length ≤ 1048576) : s_l02Square a0 a1 a2 = some (validM a0 a1 a2 && decide (a0 = a1)) := by
  unfold s_l02Square
  rw [s_l02Is_eq a0 a1 g2 s2, obind_eq]
  cases validM a0 a1 a2 <;> rfl
theorem i_isSquare_eq (a0 a1 : Int) {a2 : List F} (g2 : FOks a2) (s2 : a2.length ≤ 1048576) : i_isSquare a0 a1 a2 = some (validM a0 a1 a2 && decide (a0 = a1)) := by
  unfold i_isSquare
  rw [i_ValidMatrix_eq a0 a1 g2 s2, obind_eq]
  cases validM a0 a1 a2 <;> rfl
theorem valid_mat {a0 a1 : Int} {a2 : List F} (h : validM a0 a1 a2 = true) : ∃ A C : Nat, a0 = (A : Int) ∧ a1 = (C : Int) ∧ 0 < A ∧ 0 < C ∧ Mat A C a2 ∧ a2.all fin32 = true := by
  simp only [validM, Bool.and_eq_true, decide_eq_true_eq] at h
  obtain ⟨⟨⟨v1, v2⟩, v3⟩, v4⟩ := h
  obtain ⟨A, rfl, A0, A1⟩ := side_nat v1
  obtain ⟨C, rfl, C0, C1⟩ := side_nat v2
  have hAC := small_mul A1 C1
  rw [← Int.natCast_mul, wn (by omega)] at v3
  exact ⟨A, C, rfl, rfl, A0, C0, ⟨A1, C1, by omega⟩, v4⟩
theorem mat_valid {A C : Nat} {L : List F} (h : Mat A C L) (hA : 0 < A) (hC : 0 < C) : validM (A : Int) (C : Int) L = L.all fin32 := by
  unfold validM side
  have hAC := small_mul h.A1 h.C1
  have h1 := h.A1
  have h2 := h.C1
  rw [← Int.natCast_mul, wn (by omega), h.len]
  have e1 : decide ((1 : Int) ≤ (A : Int)) = true := by simp; omega
  have e2 : decide ((A : Int) ≤ 12) = true := by simp; omega
  have e3 : decide ((1 : Int) ≤ (C : Int)) = true := by simp; omega
  have e4 : decide ((C : Int) ≤ 12) = true := by simp; omega
  rw [e1, e2, e3, e4]
  simp
theorem s_l02Own_eq (a0 a1 : Int) {L : List F} (h : L.length ≤ 1048576) : s_l02Own a0 a1 L = some (a0, a1, L) := by
  have ap : apok 4 0 L.length = true := by simp [apok]; omega
  unfold s_l02Own; rw [ap]; rfl
theorem i_Matrix_clone_eq (a0 a1 : Int) {L : List F} (h : L.length ≤ 1048576) : i_Matrix_clone a0 a1 L = some (a0, a1, L) := by
  have ap : apok 4 0 L.length = true := by simp [apok]; omega
  unfold i_Matrix_clone x_slices_Clone_float32_float32; rw [ap]; rfl
theorem i_newMatrix_eq {A C : Nat} (hA : A ≤ 12) (hC : C ≤ 12) : i_newMatrix (A : Int) (C : Int) = some ((A : Int), (C : Int), List.replicate (A * C) (some 0)) := by
  have hAC := small_mul hA hC
  unfold i_newMatrix
  have mk : mkok 4 ((A * C : Nat) : Int) = true := by simp [mkok]; omega
  rw [← Int.natCast_mul, wn (by omega), olet_eq, mk]; rfl
theorem mat_ext {A C : Nat} {L L' : List F} (h : Mat A C L) (h' : Mat A C L') (e : ∀ i k, i < A → k < C → gm none L C i k = gm none L' C i k) : L = L' := by
  apply List.ext_getElem?
  intro q
  by_cases hq : q < A * C
  · have hC : 0 < C := by
      rcases Nat.eq_zero_or_pos C with h0 | h0
      · subst h0; simp at hq
      · exact h0
    have h1 : q / C < A := (Nat.div_lt_iff_lt_mul hC).2 hq
    have h2 : q % C < C := Nat.mod_lt _ hC
    have h3 : q / C * C + q % C = q := by rw [Nat.mul_comm]; exact Nat.div_add_mod q C
    have := e _ _ h1 h2
    unfold gm at this
    rw [h3] at this
    rw [getD_of_lt none (by rw [h.len]; exact hq), getD_of_lt none (by rw [h'.len]; exact hq), this]
  · rw [List.getElem?_eq_none (by rw [h.len]; omega), List.getElem?_eq_none (by rw [h'.len]; omega)]
def fillR (f : Nat → Nat → F) (C i : Nat) (L : List F) : List F := run (fun k L => sm L C i k (f i k)) 0 C L
def fillA (f : Nat → Nat → F) (A C : Nat) (L : List F) : List F := run (fillR f C) 0 A L
theorem fillR_spec {f : Nat → Nat → F} {A C i : Nat} {L : List F} (h : Mat A C L) (hi : i < A) : Mat A C (fillR f C i L) ∧ ∀ j k, j < A → k < C → gm none (fillR f C i L) C j k = if j = i then f i k else gm none L C j k := by
  have := run_inv (f := fun k L => sm L C i k (f i k)) (fun c L' => Mat A C L' ∧ ∀ j k, j < A → k < C → gm none L' C j k = if j = i ∧ k < c then f i k else gm none L C j k) C 0 L ⟨h, fun j k _ _ => by simp⟩ (fun c L' _ hc hI => by
    refine ⟨hI.1.set _ _ _, fun j k hj hk => ?_⟩
    rw [gm_set hI.1 hi (by omega) hk, hI.2 j k hj hk]
    by_cases e1 : i = j
    · subst e1
      by_cases e2 : c = k
      · subst e2; simp
      · by_cases e3 : k < c
        · rw [if_neg (by omega), if_pos (by omega), if_pos (by omega)]
        · rw [if_neg (by omega), if_neg (by omega), if_neg (by omega)]
    · rw [if_neg (by omega), if_neg (by omega), if_neg (by omega)])
  refine ⟨this.1, fun j k hj hk => ?_⟩
  unfold fillR
  rw [this.2 j k hj hk]
  by_cases e : j = i
  · rw [if_pos ⟨e, by omega⟩, if_pos e]
  · rw [if_neg (by omega), if_neg e]
theorem fillA_spec {f : Nat → Nat → F} {A C : Nat} {L : List F} (h : Mat A C L) : Mat A C (fillA f A C L) ∧ ∀ j k, j < A → k < C → gm none (fillA f A C L) C j k = f j k := by
  have := run_inv (f := fillR f C) (fun r L' => Mat A C L' ∧ ∀ j k, j < r → j < A → k < C → gm none L' C j k = f j k) A 0 L ⟨h, fun j k hj _ _ => by omega⟩ (fun r L' _ hr hI => by
    obtain ⟨s1, s2⟩ := fillR_spec (f := f) hI.1 (show r < A by omega)
    refine ⟨s1, fun j k hj hjA hk => ?_⟩
    rw [s2 j k hjA hk]
    by_cases e : j = r
    · rw [if_pos e, e]
    · rw [if_neg e]; exact hI.2 j k (by omega) hjA hk)
  exact ⟨this.1, fun j k hj hk => this.2 j k (by omega) hj hk⟩
def tabM (A C : Nat) (f : Nat → Nat → F) : List F := fillA f A C (List.replicate (A * C) (some 0))
theorem zmat {A C : Nat} (hA : A ≤ 12) (hC : C ≤ 12) : Mat A C (List.replicate (A * C) (some 0 : F)) := ⟨hA, hC, by simp⟩
theorem tabM_mat {A C : Nat} {f : Nat → Nat → F} (hA : A ≤ 12) (hC : C ≤ 12) : Mat A C (tabM A C f) := (fillA_spec (zmat hA hC)).1
theorem tabM_gm {A C : Nat} {f : Nat → Nat → F} (hA : A ≤ 12) (hC : C ≤ 12) {i k : Nat} (hi : i < A) (hk : k < C) : gm none (tabM A C f) C i k = f i k := (fillA_spec (zmat hA hC)).2 i k hi hk
theorem oks_of_gm {A C : Nat} {L : List F} (h : Mat A C L) (e : ∀ i k, i < A → k < C → FOk .f32 (gm none L C i k)) : FOks L := by
  intro c hc
  obtain ⟨q, hq, rfl⟩ := List.mem_iff_getElem.1 hc
  have hq' : q < A * C := by rw [← h.len]; exact hq
  have hC : 0 < C := by
    rcases Nat.eq_zero_or_pos C with h0 | h0
    · subst h0; simp at hq'
    · exact h0
  have h1 : q / C < A := (Nat.div_lt_iff_lt_mul hC).2 hq'
  have h2 : q % C < C := Nat.mod_lt _ hC
  have h3 : q / C * C + q % C = q := by rw [Nat.mul_comm]; exact Nat.div_add_mod q C
  have := e _ _ h1 h2
  unfold gm at this
  rw [h3] at this
  simpa [List.getD, hq] using this
theorem tabM_oks {A C : Nat} {f : Nat → Nat → F} (hA : A ≤ 12) (hC : C ≤ 12) (hf : ∀ i k, FOk .f32 (f i k)) : FOks (tabM A C f) := oks_of_gm (tabM_mat hA hC) fun i k hi hk => by rw [tabM_gm hA hC hi hk]; exact hf i k
theorem run_map {α : Type} (f : Nat → α) : ∀ n : Nat, run (fun i (l : List α) => l ++ [f i]) 0 n [] = (List.range n).map f
  | 0 => rfl
  | n + 1 => by rw [run_last, run_map f n]; simp [List.range_succ]
def colP (A C k : Nat) (L : List F) : List F := (List.range A).map fun i => gm none L C i k
theorem colP_len {A C k : Nat} {L : List F} : (colP A C k L).length = A := by simp [colP]
theorem colP_at {A C k i : Nat} {L : List F} (hi : i < A) : (colP A C k L).getD i none = gm none L C i k := by
  simp [colP, List.getD, hi]
theorem i_Matrix_column_eq {A C k : Nat} {L : List F} (h : Mat A C L) (hk : k < C) : i_Matrix_column (A : Int) (C : Int) L (k : Int) = some (colP A C k L) := by
  have hA := h.A1
  obtain ⟨e, _⟩ := loop_run (step := i_Matrix_column_s1 (A : Int) (C : Int) L (k : Int)) (fun (i : Nat) (l : List F) => (l, (i : Int))) (fun i l => l ++ [gm none L C i k]) (fun l => l) (fun i l => l.length = i) (lo := 0) (n := A) (Nat.zero_le _) (s0 := []) rfl
    (fun i l _ hi h3 => by
      refine ⟨?_, by simp [h3]⟩
      show i_Matrix_column_b1 _ _ _ _ _ _ = _
      unfold i_Matrix_column_b1
      have ap : apok 4 l.length 1 = true := by simp [apok]; omega
      rw [dlt hi, bsel_true, i_Matrix_at_eq _ h hi hk, obind_eq, ap, need_true, wsucc (by omega)]
      rfl)
    (fun l _ => by
      show i_Matrix_column_b1 _ _ _ _ _ _ = _
      unfold i_Matrix_column_b1
      rw [dnlt, bsel_false])
  unfold i_Matrix_column
  replace e : loopM (i_Matrix_column_s1 (A : Int) (C : Int) L (k : Int)) ([], 0) = some (.inl (run (fun i l => l ++ [gm none L C i k]) 0 (A - 0) [])) := e
  rw [e, Nat.sub_zero, run_map]; rfl
def dotE (f g : Nat → F) (i : Nat) (y : F) : F := fop .add .f32 y (fop .mul .f32 (f i) (g i))
def dotN (f g : Nat → F) (n : Nat) : F := run (dotE f g) 0 n (some 0)
theorem zero_ok : FOk .f32 (some 0) := ⟨0, rfl, by decide, rfl⟩
theorem dotN_ok (f g : Nat → F) (n : Nat) : FOk .f32 (dotN f g n) := run_inv (fun _ y => FOk .f32 y) n 0 (some 0) zero_ok fun _ _ _ _ _ => fop_fok _ _ _
theorem dotN_congr {f g f' g' : Nat → F} {n : Nat} (h : ∀ i, i < n → f i = f' i ∧ g i = g' i) : dotN f g n = dotN f' g' n :=
  run_congr (fun _ _ => True) n 0 _ trivial fun i y _ hi _ => ⟨by unfold dotE; rw [(h i (by omega)).1, (h i (by omega)).2], trivial⟩
theorem i_dot_eq {l m : List F} (hl : l.length ≤ m.length) (hs : l.length ≤ 1000000) : i_dot l m = some (dotN (fun i => l.getD i none) (fun i => m.getD i none) l.length) := by
  obtain ⟨e, _⟩ := loop_run (step := i_dot_s1 l m) (fun (i : Nat) (y : F) => (y, (i : Int))) (dotE (fun i => l.getD i none) (fun i => m.getD i none)) (fun y => y) (fun _ _ => True) (lo := 0) (n := l.length) (Nat.zero_le _) (s0 := some 0) trivial
    (fun i y _ hi _ => by
      refine ⟨?_, trivial⟩
      show i_dot_b1 _ _ _ _ = _
      unfold i_dot_b1
      rw [dlt hi, bsel_true, at?_n none hi, obind_eq, at?_n none (by omega), obind_eq, i_mul_eq, obind_eq, olet_eq, wsucc (by omega)]
      rfl)
    (fun y _ => by
      show i_dot_b1 _ _ _ _ = _
      unfold i_dot_b1
      rw [dnlt, bsel_false])
  unfold i_dot
  replace e : loopM (i_dot_s1 l m) (some 0, 0) = some (.inl (run (dotE (fun i => l.getD i none) (fun i => m.getD i none)) 0 (l.length - 0) (some 0))) := e
  rw [e]; rfl
theorem tdiv_n (q C : Nat) : (q : Int).tdiv (C : Int) = ((q / C : Nat) : Int) := by rw [Int.tdiv_eq_ediv_of_nonneg (by omega), Int.natCast_ediv]
theorem tmod_n (q C : Nat) : (q : Int).tmod (C : Int) = ((q % C : Nat) : Int) := by rw [Int.tmod_eq_emod_of_nonneg (by omega), Int.natCast_emod]
theorem dne0 {C : Nat} (h : 0 < C) : (!decide ((C : Int) = 0)) = true := by simp; omega
def rowP (C i : Nat) (L : List F) : List F := (L.take ((i + 1) * C)).drop (i * C)
theorem rowP_at {A C i k : Nat} {L : List F} (m : Mat A C L) (hi : i < A) (hk : k < C) : (rowP C i L).getD k none = gm none L C i k := by
  have h1 := idx_lt hi hk
  have h2 : i * C + k < (i + 1) * C := by rw [Nat.add_mul, Nat.one_mul]; omega
  unfold rowP gm
  simp [List.getD, List.getElem?_drop, List.getElem?_take, h2]
theorem rowP_len {A C i : Nat} {L : List F} (m : Mat A C L) (hi : i < A) : (rowP C i L).length = C := by
  have h1 : (i + 1) * C ≤ A * C := Nat.mul_le_mul_right C hi
  unfold rowP
  rw [List.length_drop, List.length_take, m.len, Nat.min_eq_left h1, Nat.add_mul, Nat.one_mul]; omega
theorem sub?_n {α : Type} {L : List α} {a b : Nat} (h1 : a ≤ b) (h2 : b ≤ L.length) : sub? L (a : Int) (b : Int) = some ((L.take b).drop a) := by
  unfold sub?
  rw [if_pos (by omega)]; rfl
theorem i_Matrix_row_eq {A C i : Nat} {L : List F} (r : Int) (m : Mat A C L) (hi : i < A) : i_Matrix_row r (C : Int) L (i : Int) = some (rowP C i L) := by
  have hA := m.A1
  have h1 : (i + 1) * C ≤ A * C := Nat.mul_le_mul_right C hi
  have h2 : A * C ≤ 144 := small_mul m.A1 m.C1
  have h3 : i * C ≤ (i + 1) * C := Nat.mul_le_mul_right C (by omega)
  unfold i_Matrix_row x_slices_Clone_float32_float32
  rw [wsucc (by omega), ← Int.natCast_mul, wn (by omega), olet_eq, olet_eq, ← Int.natCast_mul, wn (by omega), olet_eq, sub?_n h3 (by rw [m.len]; exact h1), obind_eq]
  have ap : apok 4 0 ((L.take ((i + 1) * C)).drop (i * C)).length = true := by
    have := rowP_len m hi
    unfold rowP at this
    have hC := m.C1
    simp only [apok, this]; simp; omega
  rw [ap, need_true, obind_eq, List.nil_append]; rfl
theorem fneg_ok {c : F} (h : FOk .f32 c) : FOk .f32 (fneg .f32 c) := by
  obtain ⟨b, hb⟩ := h
  exact ⟨_, FR.neg hb⟩
def mulE (B C : Nat) (L M : List F) (i k : Nat) : F := dotN (fun j => gm none L B i j) (fun j => gm none M C j k) B
theorem mulE_ok (B C : Nat) (L M : List F) (i k : Nat) : FOk .f32 (mulE B C L M i k) := dotN_ok _ _ _
theorem i_product_1_eq {A B C i k : Nat} {L M : List F} (r : Int) (m : Mat A B L) (n : Mat B C M) (hi : i < A) (hk : k < C) : i_product_1 (i : Int) (k : Int) r (B : Int) L (B : Int) (C : Int) M = some (mulE B C L M i k) := by
  have hB := m.C1
  unfold i_product_1
  rw [i_Matrix_row_eq r m hi, obind_eq, i_Matrix_column_eq n hk, obind_eq, i_dot_eq (by rw [rowP_len m hi, colP_len]; exact Nat.le_refl _) (by rw [rowP_len m hi]; omega), obind_eq, rowP_len m hi]
  congr 1
  exact dotN_congr fun j hj => ⟨rowP_at m hi hj, colP_at hj⟩
theorem i_made_2Fi_product_1_eq {A B C : Nat} {P M : List F} (mP : Mat A B P) (mM : Mat B C M) : i_made_2Fi_product_1 (A : Int) (C : Int) (A : Int) (B : Int) P (B : Int) (C : Int) M = some ((A : Int), (C : Int), tabM A C (mulE B C P M)) := by
  have hA := mP.A1
  have hC := mM.C1
  have inner : ∀ (i : Nat) (L L0 : List F), i < A → Mat A C L → Mat A C L0 → loopM (i_made_2Fi_product_1_s2 (C : Int) (A : Int) (B : Int) P (B : Int) (C : Int) M (A : Int) (C : Int) L0 (i : Int)) (L, 0) = some (.inl (fillR (mulE B C P M) C i L)) := by
    intro i L L0 hi hL hL0
    exact (loop_run (step := i_made_2Fi_product_1_s2 (C : Int) (A : Int) (B : Int) P (B : Int) (C : Int) M (A : Int) (C : Int) L0 (i : Int)) (fun (k : Nat) (L : List F) => (L, (k : Int))) (fun k L => sm L C i k (mulE B C P M i k)) (fun L => L) (fun _ L => Mat A C L) (lo := 0) (n := C) (Nat.zero_le _) (s0 := L) hL
      (fun k L2 _ hk h3 => by
        refine ⟨?_, h3.set _ _ _⟩
        show i_made_2Fi_product_1_b2 _ _ _ _ _ _ _ _ _ _ _ _ _ = _
        unfold i_made_2Fi_product_1_b2
        have l1 : decide ((sm L2 C i k (mulE B C P M i k)).length = L0.length) = true := by simp [h3.len, hL0.len]
        rw [dlt hk, bsel_true, i_product_1_eq _ mP mM hi hk, obind_eq, i_Matrix_set_02o_eq _ h3 hi hk, obind_eq, l1, need_true, wsucc (by omega)]
        rfl)
      (fun L2 _ => by
        show i_made_2Fi_product_1_b2 _ _ _ _ _ _ _ _ _ _ _ _ _ = _
        unfold i_made_2Fi_product_1_b2
        rw [dnlt, bsel_false])).1
  have e := (loop_run (step := i_made_2Fi_product_1_s3 (A : Int) (C : Int) (A : Int) (B : Int) P (B : Int) (C : Int) M (A : Int) (C : Int) (List.replicate (A * C) (some 0))) (fun (i : Nat) (L : List F) => (L, (i : Int))) (fillR (mulE B C P M) C) (fun L => L) (fun _ L => Mat A C L) (lo := 0) (n := A) (Nat.zero_le _) (s0 := List.replicate (A * C) (some 0)) (zmat hA hC)
    (fun i L2 _ hi h3 => by
      refine ⟨?_, (fillR_spec h3 hi).1⟩
      show i_made_2Fi_product_1_b3 _ _ _ _ _ _ _ _ _ _ _ _ _ = _
      unfold i_made_2Fi_product_1_b3
      rw [dlt hi, bsel_true, inner i L2 _ hi h3 (zmat hA hC), obind_eq, osum_inl]
      unfold i_made_2Fi_product_1_k2
      rw [wsucc (by omega)]
      rfl)
    (fun L2 _ => by
      show i_made_2Fi_product_1_b3 _ _ _ _ _ _ _ _ _ _ _ _ _ = _
      unfold i_made_2Fi_product_1_b3
      rw [dnlt, bsel_false])).1
  unfold i_made_2Fi_product_1
  replace e : loopM (i_made_2Fi_product_1_s3 (A : Int) (C : Int) (A : Int) (B : Int) P (B : Int) (C : Int) M (A : Int) (C : Int) (List.replicate (A * C) (some 0))) (List.replicate (A * C) (some 0), 0) = some (.inl (tabM A C (mulE B C P M))) := e
  rw [i_newMatrix_eq hA hC, obind3_eq, e]; rfl
theorem range_tab {A C : Nat} {f : Nat → Nat → F} (hA : A ≤ 12) (hC : C ≤ 12) : (List.range (A * C)).map (fun q => f (q / C) (q % C)) = tabM A C f := by
  refine mat_ext (A := A) (C := C) ⟨hA, hC, by simp⟩ (tabM_mat hA hC) fun i k hi hk => ?_
  rw [tabM_gm hA hC hi hk]
  have h1 := idx_lt hi hk
  obtain ⟨d1, d2⟩ := div_at (i := i) hk
  simp [gm, List.getD, h1, d1, d2]
theorem s_l02Mul_eq {A B C : Nat} {L M : List F} (m : Mat A B L) (n : Mat B C M) (hC0 : 0 < C) : s_l02Mul (A : Int) (B : Int) L (B : Int) (C : Int) M = some ((A : Int), (C : Int), tabM A C (mulE B C L M)) := by
  have hA := m.A1
  have hB := m.C1
  have hC := n.C1
  have hAC := small_mul hA hC
  have inner : ∀ q : Nat, q < A * C → loopM (s_l02Mul_s2 (A : Int) (B : Int) L (B : Int) (C : Int) M (q : Int)) (some 0, 0) = some (.inl (mulE B C L M (q / C) (q % C))) := by
    intro q hq
    have d1 : q / C < A := (Nat.div_lt_iff_lt_mul hC0).2 hq
    have d2 : q % C < C := Nat.mod_lt _ hC0
    exact (loop_run (step := s_l02Mul_s2 (A : Int) (B : Int) L (B : Int) (C : Int) M (q : Int)) (fun (j : Nat) (y : F) => (y, (j : Int))) (dotE (fun j => gm none L B (q / C) j) (fun j => gm none M C j (q % C))) (fun y => y) (fun _ _ => True) (lo := 0) (n := B) (Nat.zero_le _) (s0 := some 0) trivial
      (fun j y _ hj _ => by
        refine ⟨?_, trivial⟩
        show s_l02Mul_b2 _ _ _ _ _ _ _ _ _ = _
        unfold s_l02Mul_b2
        rw [dlt hj, bsel_true, dne0 hC0, need_true, tdiv_n, wn (by omega), olet_eq, s_l02At_eq _ m d1 hj, obind_eq, need_true, tmod_n, olet_eq, s_l02At_eq _ n hj d2, obind_eq, olet_eq, olet_eq, wsucc (by omega)]
        rfl)
      (fun y _ => by
        show s_l02Mul_b2 _ _ _ _ _ _ _ _ _ = _
        unfold s_l02Mul_b2
        rw [dnlt, bsel_false])).1
  have e := (loop_run (step := s_l02Mul_s3 (A : Int) (B : Int) L (B : Int) (C : Int) M) (fun (q : Nat) (l : List F) => (l, (q : Int))) (fun q l => l ++ [mulE B C L M (q / C) (q % C)]) (fun l => l) (fun q l => l.length = q) (lo := 0) (n := A * C) (Nat.zero_le _) (s0 := []) rfl
    (fun q l _ hq hl => by
      refine ⟨?_, by simp [hl]⟩
      show s_l02Mul_b3 _ _ _ _ _ _ _ _ = _
      unfold s_l02Mul_b3
      have ap : apok 4 l.length 1 = true := by simp [apok, hl]; omega
      rw [← Int.natCast_mul, wn (by omega), olet_eq, dlt hq, bsel_true, inner q hq, obind_eq, osum_inl]
      unfold s_l02Mul_k2
      rw [ap, need_true, wsucc (by omega)]
      rfl)
    (fun l _ => by
      show s_l02Mul_b3 _ _ _ _ _ _ _ _ = _
      unfold s_l02Mul_b3
      rw [← Int.natCast_mul, wn (by omega), olet_eq, dnlt, bsel_false])).1
  unfold s_l02Mul s_l02Blank
  replace e : loopM (s_l02Mul_s3 (A : Int) (B : Int) L (B : Int) (C : Int) M) ([], 0) = some (.inl (run (fun q l => l ++ [mulE B C L M (q / C) (q % C)]) 0 (A * C - 0) [])) := e
  rw [Nat.sub_zero, run_map, range_tab hA hC] at e
  rw [obind3_eq, e]; rfl
def mulQ (A B C : Nat) (L M : List F) : Int × Int × Bool × List F := bif (L.all fin32 && M.all fin32) && (tabM A C (mulE B C L M)).all fin32 then ((A : Int), (C : Int), true, tabM A C (mulE B C L M)) else (0, 0, false, [])
theorem s_MulMatrices_eq {A B C : Nat} {L M : List F} (m : Mat A B L) (n : Mat B C M) (g : FOks L) (h : FOks M) (hA : 0 < A) (hB : 0 < B) (hC : 0 < C) : s_MulMatrices (A : Int) (B : Int) L (B : Int) (C : Int) M = some (mulQ A B C L M) := by
  unfold s_MulMatrices s_l02Fit mulQ
  have mR : Mat A C (tabM A C (mulE B C L M)) := tabM_mat m.A1 n.C1
  have gR : FOks (tabM A C (mulE B C L M)) := tabM_oks m.A1 n.C1 (mulE_ok B C L M)
  rw [s_l02Is_eq _ _ g m.le, mat_valid m hA hB, s_l02Is_eq _ _ h n.le, mat_valid n hB hC]
  cases L.all fin32 with
  | false => rfl
  | true =>
    cases M.all fin32 with
    | false => rfl
    | true =>
      have e : decide ((B : Int) = (B : Int)) = true := by simp
      simp only [obind_eq, bsel_true, e, Bool.true_and]
      rw [s_l02Mul_eq m n hC, obind3_eq]
      unfold s_l02Give_02o
      rw [s_l02Is_eq _ _ gR mR.le, mat_valid mR hA hC]
      cases (tabM A C (mulE B C L M)).all fin32 with
      | false => simp [osum, obind, need, obind5, bsel]
      | true => simp [osum, obind, need, obind4, bsel]
theorem i_MulMatrices_eq {A B C : Nat} {L M : List F} (m : Mat A B L) (n : Mat B C M) (g : FOks L) (h : FOks M) (hA : 0 < A) (hB : 0 < B) (hC : 0 < C) : i_MulMatrices (A : Int) (B : Int) L (B : Int) (C : Int) M = some (mulQ A B C L M) := by
  unfold i_MulMatrices i_areFactors mulQ
  have mR : Mat A C (tabM A C (mulE B C L M)) := tabM_mat m.A1 n.C1
  have gR : FOks (tabM A C (mulE B C L M)) := tabM_oks m.A1 n.C1 (mulE_ok B C L M)
  rw [i_ValidMatrix_eq _ _ g m.le, mat_valid m hA hB, i_ValidMatrix_eq _ _ h n.le, mat_valid n hB hC]
  cases L.all fin32 with
  | false => rfl
  | true =>
    cases M.all fin32 with
    | false => rfl
    | true =>
      have e : decide ((B : Int) = (B : Int)) = true := by simp
      simp only [obind_eq, bsel_true, e, Bool.true_and]
      unfold i_product
      rw [i_made_2Fi_product_1_eq m n, obind3_eq, obind3_eq]
      unfold i_Matrix_valid_02o
      rw [i_ValidMatrix_eq _ _ gR mR.le, mat_valid mR hA hC]
      cases (tabM A C (mulE B C L M)).all fin32 with
      | false => simp [osum, obind, need, obind5, bsel]
      | true => simp [osum, obind, need, obind4, bsel]
def trE (n : Nat) (L : List F) (i : Nat) (y : F) : F := fop .add .f32 y (gm none L n i i)
def trN (n : Nat) (L : List F) : F := run (trE n L) 0 n (some 0)
theorem trN_ok (n : Nat) (L : List F) : FOk .f32 (trN n L) := run_inv (fun _ y => FOk .f32 y) n 0 (some 0) zero_ok fun _ _ _ _ _ => fop_fok _ _ _
def trQ (n : Nat) (L : List F) : F × Bool := bif L.all fin32 && fin32 (trN n L) then (trN n L, true) else (some 0, false)
theorem s_tr_loop {n : Nat} {L : List F} (m : Mat n n L) : loopM (s_TraceOf_s1 (n : Int) (n : Int) L) (some 0, 0) = some (.inl (trN n L)) := by
  have hn := m.A1
  exact (loop_run (step := s_TraceOf_s1 (n : Int) (n : Int) L) (fun (i : Nat) (y : F) => (y, (i : Int))) (trE n L) (fun y => y) (fun _ _ => True) (lo := 0) (n := n) (Nat.zero_le _) (s0 := some 0) trivial
    (fun i y _ hi _ => by
      refine ⟨?_, trivial⟩
      show s_TraceOf_b1 _ _ _ _ _ = _
      unfold s_TraceOf_b1
      rw [dlt hi, bsel_true, s_l02At_eq _ m hi hi, obind_eq, olet_eq, wsucc (by omega)]
      rfl)
    (fun y _ => by
      show s_TraceOf_b1 _ _ _ _ _ = _
      unfold s_TraceOf_b1
      rw [dnlt, bsel_false])).1
theorem i_tr_loop {n : Nat} {L : List F} (m : Mat n n L) : loopM (i_Matrix_trace_s1 (n : Int) (n : Int) L) (some 0, 0) = some (.inl (trN n L)) := by
  have hn := m.A1
  exact (loop_run (step := i_Matrix_trace_s1 (n : Int) (n : Int) L) (fun (i : Nat) (y : F) => (y, (i : Int))) (trE n L) (fun y => y) (fun _ _ => True) (lo := 0) (n := n) (Nat.zero_le _) (s0 := some 0) trivial
    (fun i y _ hi _ => by
      refine ⟨?_, trivial⟩
      show i_Matrix_trace_b1 _ _ _ _ _ = _
      unfold i_Matrix_trace_b1
      rw [dlt hi, bsel_true, i_Matrix_at_eq _ m hi hi, obind_eq, olet_eq, wsucc (by omega)]
      rfl)
    (fun y _ => by
      show i_Matrix_trace_b1 _ _ _ _ _ = _
      unfold i_Matrix_trace_b1
      rw [dnlt, bsel_false])).1
theorem s_TraceOf_eq {n : Nat} {L : List F} (m : Mat n n L) (g : FOks L) (hn : 0 < n) : s_TraceOf (n : Int) (n : Int) L = some (trQ n L) := by
  unfold s_TraceOf trQ
  rw [s_l02Square_eq _ _ g m.le, mat_valid m hn hn]
  have e : decide ((n : Int) = (n : Int)) = true := by simp
  rw [e, Bool.and_true, obind_eq]
  cases L.all fin32 with
  | false => rfl
  | true =>
    rw [bsel_true, s_tr_loop m, obind_eq, osum_inl]
    unfold s_TraceOf_k1 s_l02Number
    rw [s_l01Finite_eq (trN_ok n L), obind_eq]
    cases fin32 (trN n L) <;> rfl
theorem i_TraceOf_eq {n : Nat} {L : List F} (m : Mat n n L) (g : FOks L) (hn : 0 < n) : i_TraceOf (n : Int) (n : Int) L = some (trQ n L) := by
  unfold i_TraceOf trQ
  rw [i_isSquare_eq _ _ g m.le, mat_valid m hn hn]
  have e : decide ((n : Int) = (n : Int)) = true := by simp
  rw [e, Bool.and_true, obind_eq]
  cases L.all fin32 with
  | false => rfl
  | true =>
    unfold i_Matrix_trace
    rw [bsel_true, i_tr_loop m, obind_eq, osum_inl]
    unfold i_Matrix_trace_k1 i_finite
    rw [obind_eq, i_IsFinite_eq (trN_ok n L), obind_eq]
    cases fin32 (trN n L) <;> rfl
def sgAdd (n : Nat) (x : F) (M : List F) : List F := run (fun r M => sm M n r r (fop .add .f32 (gm none M n r r) x)) 0 n M
theorem sgAdd_mat {n : Nat} {x : F} {M : List F} (h : Mat n n M) : Mat n n (sgAdd n x M) := run_inv (fun _ M => Mat n n M) n 0 M h fun _ _ _ _ h => h.set _ _ _
theorem sgAdd_oks {n : Nat} {x : F} {M : List F} (h : FOks M) : FOks (sgAdd n x M) := run_inv (fun _ M => FOks M) n 0 M h fun _ _ _ _ h => h.set (fop_fok _ _ _)
abbrev SG := List F × List F
def sgX (i : Nat) (t : F) : F := bif decide (0 < i) then fop .quo .f32 (fneg .f32 t) (fint .f32 ((i + 1 : Nat) : Int)) else fneg .f32 t
def sgTr (i : Nat) (M out : List F) (q : F × Bool) : SG ⊕ (Bool × List F) := bif q.2 then .inl (M, out ++ [sgX i q.1]) else .inr (false, [])
def sgMul (n i : Nat) (out : List F) (q : Int × Int × Bool × List F) : SG ⊕ (Bool × List F) := bif q.2.2.1 then sgTr i q.2.2.2 out (trQ n q.2.2.2) else .inr (false, [])
def sgStep (n : Nat) (L : List F) (i : Nat) (s : SG) : SG ⊕ (Bool × List F) := bif decide (0 < i) then sgMul n i s.2 (mulQ n n n L (sgAdd n (s.2.getD (i - 1) none) s.1)) else sgTr i s.1 s.2 (trQ n s.1)
structure SGInv (n i : Nat) (s : SG) : Prop where
  m : Mat n n s.1
  g : FOks s.1
  h : FOks s.2
  len : s.2.length = i
theorem trQ_ok {n : Nat} {L : List F} : FOk .f32 (trQ n L).1 := by
  unfold trQ
  cases L.all fin32 && fin32 (trN n L)
  · exact zero_ok
  · exact trN_ok n L
theorem sgX_ok {i : Nat} {t : F} (h : FOk .f32 t) : FOk .f32 (sgX i t) := by
  unfold sgX
  cases decide (0 < i)
  · exact fneg_ok h
  · exact fop_fok _ _ _
theorem sgTr_inv {n i : Nat} {M out : List F} {s' : SG} (m : Mat n n M) (g : FOks M) (h : FOks out) (hl : out.length = i) (e : sgTr i M out (trQ n M) = .inl s') : SGInv n (i + 1) s' := by
  unfold sgTr at e
  cases hq : (trQ n M).2 with
  | false => rw [hq] at e; cases e
  | true =>
    rw [hq, cond_true] at e; cases e
    refine ⟨m, g, fun c hc => ?_, by simp [hl]⟩
    rcases List.mem_append.1 hc with hc | hc
    · exact h c hc
    · rw [List.mem_singleton.1 hc]; exact sgX_ok trQ_ok
theorem mulQ_mat {A B C : Nat} {L M : List F} (hA : A ≤ 12) (hC : C ≤ 12) (h : (mulQ A B C L M).2.2.1 = true) : (mulQ A B C L M) = ((A : Int), (C : Int), true, tabM A C (mulE B C L M)) := by
  unfold mulQ at *
  cases hb : (L.all fin32 && M.all fin32) && (tabM A C (mulE B C L M)).all fin32 with
  | false => rw [hb] at h; cases h
  | true => rfl
theorem sgStep_inv {n i : Nat} {L : List F} {s s' : SG} (h : SGInv n i s) (e : sgStep n L i s = .inl s') : SGInv n (i + 1) s' := by
  unfold sgStep at e
  cases hi : decide (0 < i) with
  | false => rw [hi, cond_false] at e; exact sgTr_inv h.m h.g h.h h.len e
  | true =>
    rw [hi, cond_true] at e
    unfold sgMul at e
    cases hq : (mulQ n n n L (sgAdd n (s.2.getD (i - 1) none) s.1)).2.2.1 with
    | false => rw [hq] at e; cases e
    | true =>
      rw [hq, cond_true, mulQ_mat h.m.A1 h.m.A1 hq] at e
      exact sgTr_inv (tabM_mat h.m.A1 h.m.A1) (tabM_oks h.m.A1 h.m.A1 (mulE_ok _ _ _ _)) h.h h.len e
theorem sgTr_ret {i : Nat} {M out : List F} {q : F × Bool} {r : Bool × List F} (e : sgTr i M out q = .inr r) : r = (false, []) := by
  unfold sgTr at e
  cases hq : q.2 with
  | true => rw [hq, cond_true] at e; cases e
  | false => rw [hq, cond_false] at e; cases e; rfl
theorem sgStep_ret {n i : Nat} {L : List F} {s : SG} {r : Bool × List F} (e : sgStep n L i s = .inr r) : r = (false, []) := by
  unfold sgStep sgMul at e
  cases h0 : decide (0 < i) with
  | false => rw [h0, cond_false] at e; exact sgTr_ret e
  | true =>
    rw [h0, cond_true] at e
    cases hq : (mulQ n n n L (sgAdd n (s.2.getD (i - 1) none) s.1)).2.2.1 with
    | false => rw [hq, cond_false] at e; cases e; rfl
    | true => rw [hq, cond_true] at e; exact sgTr_ret e
def sgNext {ρ : Type} (n i : Nat) : SG ⊕ ρ → LR (List F × List F × Int × Int × Int) (List F) ρ
  | .inl s => .next (s.1, s.2, (n : Int), (n : Int), ((i + 1 + 1 : Nat) : Int))
  | .inr r => .ret r
theorem gt1 (i : Nat) : decide ((1 : Int) < ((i + 1 : Nat) : Int)) = decide (0 < i) := by simp; omega
theorem eq1 (i : Nat) : decide (((i + 1 : Nat) : Int) = 1) = !decide (0 < i) := by
  cases i with
  | zero => rfl
  | succ i => simp; omega
theorem s_SignsOf_tr {n i : Nat} {M out : List F} (m : Mat n n M) (g : FOks M) (hn : 0 < n) (hl : out.length = i) (hi : i < n) : s_SignsOf_k5 out ((i + 1 : Nat) : Int) M (n : Int) (n : Int) = some (sgNext n i (sgTr i M out (trQ n M))) := by
  have h12 := m.A1
  unfold s_SignsOf_k5
  rw [s_TraceOf_eq m g hn]
  generalize trQ n M = q
  obtain ⟨t, b⟩ := q
  have ap : apok 4 out.length 1 = true := by simp [apok, hl]; omega
  rw [obind2_eq]
  cases b with
  | false => rfl
  | true =>
    unfold s_SignsOf_k6 sgTr sgX
    rw [bsel_true, olet_eq, gt1, ap, wsucc (by omega)]
    cases decide (0 < i) <;> rfl
theorem i_SignsOf_tr {n i : Nat} {M out : List F} (m : Mat n n M) (g : FOks M) (hn : 0 < n) (hl : out.length = i) (hi : i < n) : i_SignsOf_k5 out ((i + 1 : Nat) : Int) M (n : Int) (n : Int) = some (sgNext n i (sgTr i M out (trQ n M))) := by
  have h12 := m.A1
  unfold i_SignsOf_k5
  rw [i_TraceOf_eq m g hn]
  generalize trQ n M = q
  obtain ⟨t, b⟩ := q
  have ap : apok 4 out.length 1 = true := by simp [apok, hl]; omega
  rw [obind2_eq]
  cases b with
  | false => rfl
  | true =>
    unfold i_SignsOf_k6 sgTr sgX
    rw [bsel_true, eq1, ap, wsucc (by omega)]
    cases decide (0 < i) <;> rfl
theorem s_SignsOf_add {n i : Nat} {M out : List F} (m : Mat n n M) (hl : out.length = i) (h0 : 0 < i) (hi : i < n) : loopM (s_SignsOf_s4 (n : Int) out ((i + 1 : Nat) : Int)) (M, 0) = some (.inl (sgAdd n (out.getD (i - 1) none) M)) := by
  have h12 := m.A1
  have hw : IntKind.i64.wrap (((i + 1 : Nat) : Int) - 2) = ((i - 1 : Nat) : Int) := by rw [wrap_i64 (by omega) (by omega)]; omega
  exact (loop_run (step := s_SignsOf_s4 (n : Int) out ((i + 1 : Nat) : Int)) (fun (r : Nat) (M : List F) => (M, (r : Int))) (fun r M => sm M n r r (fop .add .f32 (gm none M n r r) (out.getD (i - 1) none))) (fun M => M) (fun _ M => Mat n n M) (lo := 0) (n := n) (Nat.zero_le _) (s0 := M) m
    (fun r M _ hr h => by
      refine ⟨?_, h.set _ _ _⟩
      show s_SignsOf_b4 _ _ _ _ _ = _
      unfold s_SignsOf_b4
      obtain ⟨e1, e2⟩ := idx_w h.A1 h.C1 hr hr
      rw [dlt hr, bsel_true, e1, olet_eq, e2, olet_eq, olet_eq, e2, olet_eq, at?_n none (h.lt hr hr), obind_eq, hw, olet_eq, at?_n none (by omega), obind_eq, olet_eq, setAt?_n _ (h.lt hr hr), obind_eq, wsucc (by omega)]
      rfl)
    (fun M _ => by
      show s_SignsOf_b4 _ _ _ _ _ = _
      unfold s_SignsOf_b4
      rw [dnlt, bsel_false])).1
theorem i_SignsOf_add {n i : Nat} {M out : List F} (m : Mat n n M) (hl : out.length = i) (h0 : 0 < i) (hi : i < n) : loopM (i_SignsOf_s4 (n : Int) M out (n : Int) (n : Int) ((i + 1 : Nat) : Int)) (M, 0) = some (.inl (sgAdd n (out.getD (i - 1) none) M)) := by
  have h12 := m.A1
  have hw : IntKind.i64.wrap (((i + 1 : Nat) : Int) - 2) = ((i - 1 : Nat) : Int) := by rw [wrap_i64 (by omega) (by omega)]; omega
  have key : ∀ r4 : List F, Mat n n r4 → loopM (i_SignsOf_s4 (n : Int) r4 out (n : Int) (n : Int) ((i + 1 : Nat) : Int)) (M, 0) = some (.inl (sgAdd n (out.getD (i - 1) none) M)) := by
    intro r4 m4
    exact (loop_run (step := i_SignsOf_s4 (n : Int) r4 out (n : Int) (n : Int) ((i + 1 : Nat) : Int)) (fun (r : Nat) (M : List F) => (M, (r : Int))) (fun r M => sm M n r r (fop .add .f32 (gm none M n r r) (out.getD (i - 1) none))) (fun M => M) (fun _ M => Mat n n M) (lo := 0) (n := n) (Nat.zero_le _) (s0 := M) m
      (fun r M _ hr h => by
        refine ⟨?_, h.set _ _ _⟩
        show i_SignsOf_b4 _ _ _ _ _ _ _ _ = _
        unfold i_SignsOf_b4
        have l1 : decide ((sm M n r r (fop .add .f32 (gm none M n r r) (out.getD (i - 1) none))).length = r4.length) = true := by simp [h.len, m4.len]
        rw [dlt hr, bsel_true, i_Matrix_at_eq _ h hr hr, obind_eq, hw, olet_eq, at?_n none (by omega), obind_eq, olet_eq, i_Matrix_set_02o_eq _ h hr hr, obind_eq, l1, need_true, wsucc (by omega)]
        rfl)
      (fun M _ => by
        show i_SignsOf_b4 _ _ _ _ _ _ _ _ = _
        unfold i_SignsOf_b4
        rw [dnlt, bsel_false])).1
  exact key M m
theorem s_SignsOf_step {n i : Nat} {L : List F} {s : SG} (mL : Mat n n L) (gL : FOks L) (h : SGInv n i s) (hi : i < n) : s_SignsOf_b7 (n : Int) (n : Int) L s.1 s.2 (n : Int) (n : Int) ((i + 1 : Nat) : Int) = some (sgNext n i (sgStep n L i s)) := by
  unfold s_SignsOf_b7 sgStep
  rw [dle (show i + 1 ≤ n by omega), bsel_true, gt1]
  cases h0 : decide (0 < i) with
  | false => rw [bsel_false, cond_false]; exact s_SignsOf_tr h.m h.g (by omega) h.len hi
  | true =>
    have h0' : 0 < i := of_decide_eq_true h0
    have mA := sgAdd_mat (x := s.2.getD (i - 1) none) h.m
    have gA := sgAdd_oks (n := n) (x := s.2.getD (i - 1) none) h.g
    rw [bsel_true, cond_true, s_SignsOf_add h.m h.len h0' hi, obind_eq, osum_inl]
    unfold s_SignsOf_k4 sgMul
    rw [s_MulMatrices_eq mL mA gL gA (by omega) (by omega) (by omega)]
    cases hq : (mulQ n n n L (sgAdd n (s.2.getD (i - 1) none) s.1)).2.2.1 with
    | false =>
      generalize mulQ n n n L (sgAdd n (s.2.getD (i - 1) none) s.1) = q at hq
      obtain ⟨x, y, b, R⟩ := q
      cases hq
      rfl
    | true =>
      rw [mulQ_mat h.m.A1 h.m.A1 hq, obind4_eq, bsel_true, cond_true]
      exact s_SignsOf_tr (tabM_mat h.m.A1 h.m.A1) (tabM_oks h.m.A1 h.m.A1 (mulE_ok _ _ _ _)) (by omega) h.len hi
theorem i_SignsOf_step {n i : Nat} {L : List F} {s : SG} (mL : Mat n n L) (gL : FOks L) (h : SGInv n i s) (hi : i < n) : i_SignsOf_b7 (n : Int) (n : Int) L s.1 s.2 (n : Int) (n : Int) ((i + 1 : Nat) : Int) = some (sgNext n i (sgStep n L i s)) := by
  unfold i_SignsOf_b7 sgStep
  rw [dle (show i + 1 ≤ n by omega), bsel_true, gt1]
  cases h0 : decide (0 < i) with
  | false => rw [bsel_false, cond_false]; exact i_SignsOf_tr h.m h.g (by omega) h.len hi
  | true =>
    have h0' : 0 < i := of_decide_eq_true h0
    have mA := sgAdd_mat (x := s.2.getD (i - 1) none) h.m
    have gA := sgAdd_oks (n := n) (x := s.2.getD (i - 1) none) h.g
    rw [bsel_true, cond_true, i_SignsOf_add h.m h.len h0' hi, obind_eq, osum_inl]
    unfold i_SignsOf_k4 sgMul
    rw [i_MulMatrices_eq mL mA gL gA (by omega) (by omega) (by omega)]
    cases hq : (mulQ n n n L (sgAdd n (s.2.getD (i - 1) none) s.1)).2.2.1 with
    | false =>
      generalize mulQ n n n L (sgAdd n (s.2.getD (i - 1) none) s.1) = q at hq
      obtain ⟨x, y, b, R⟩ := q
      cases hq
      rfl
    | true =>
      rw [mulQ_mat h.m.A1 h.m.A1 hq, obind4_eq, bsel_true, cond_true]
      exact i_SignsOf_tr (tabM_mat h.m.A1 h.m.A1) (tabM_oks h.m.A1 h.m.A1 (mulE_ok _ _ _ _)) (by omega) h.len hi
theorem SignsOf_loops {n : Nat} {L : List F} (m : Mat n n L) (g : FOks L) : ∃ q, loopM (s_SignsOf_s7 (n : Int) (n : Int) L) (L, [], (n : Int), (n : Int), 1) = some q ∧ loopM (i_SignsOf_s7 (n : Int) (n : Int) L) (L, [], (n : Int), (n : Int), 1) = some q ∧ ((∃ e, q = .inl e ∧ FOks e ∧ e.length = n) ∨ q = .inr (false, [])) := by
  have h0 : SGInv n 0 (L, []) := ⟨m, g, fun c hc => by (cases hc), rfl⟩
  have hn := m.A1
  have ap : ∀ {ε ρ : Type} (f : SG → ε) (i : Nat) (s : SG), SGInv n i s → (∃ s', sgStep n L i s = .inl s' ∧ SGInv n (i + 1) s') ∨ (∃ r, sgStep n L i s = .inr r) := by
    intro ε ρ f i s h
    cases e : sgStep n L i s with
    | inl s' => exact .inl ⟨s', rfl, sgStep_inv h e⟩
    | inr r => exact .inr ⟨r, rfl⟩
  have fin : ∀ i, decide (((i + 1 : Nat) : Int) ≤ (i : Int)) = false := fun i => by simp; omega
  refine ⟨endE (fun s => s.2) (runE (sgStep n L) 0 (n - 0) (L, [])), ?_, ?_, ?_⟩
  · exact (loop_endE (step := s_SignsOf_s7 (n : Int) (n : Int) L) (fun (i : Nat) (s : SG) => (s.1, s.2, (n : Int), (n : Int), ((i + 1 : Nat) : Int))) (sgStep n L) (fun s => s.2) (fun i s => SGInv n i s) (lo := 0) (n := n) (Nat.zero_le _) h0
      (fun i s _ hi hI => by
        have e := s_SignsOf_step m g hI hi
        rcases ap (ε := Unit) (ρ := Unit) (fun _ => ()) i s hI with ⟨s', e1, e2⟩ | ⟨r, e1⟩
        · rw [e1] at e; exact .inl ⟨s', e1, e, e2⟩
        · rw [e1] at e; exact .inr ⟨r, e1, e⟩)
      (fun s _ => by
        show s_SignsOf_b7 _ _ _ _ _ _ _ _ = _
        unfold s_SignsOf_b7
        rw [fin, bsel_false])).1
  · exact (loop_endE (step := i_SignsOf_s7 (n : Int) (n : Int) L) (fun (i : Nat) (s : SG) => (s.1, s.2, (n : Int), (n : Int), ((i + 1 : Nat) : Int))) (sgStep n L) (fun s => s.2) (fun i s => SGInv n i s) (lo := 0) (n := n) (Nat.zero_le _) h0
      (fun i s _ hi hI => by
        have e := i_SignsOf_step m g hI hi
        rcases ap (ε := Unit) (ρ := Unit) (fun _ => ()) i s hI with ⟨s', e1, e2⟩ | ⟨r, e1⟩
        · rw [e1] at e; exact .inl ⟨s', e1, e, e2⟩
        · rw [e1] at e; exact .inr ⟨r, e1, e⟩)
      (fun s _ => by
        show i_SignsOf_b7 _ _ _ _ _ _ _ _ = _
        unfold i_SignsOf_b7
        rw [fin, bsel_false])).1
  · cases e : runE (sgStep n L) 0 (n - 0) (L, []) with
    | inl s' =>
      have h := runE_inv (fun i s => SGInv n i s) (n - 0) 0 (L, []) h0 (fun j s s' _ _ hI e => sgStep_inv hI e) s' e
      exact .inl ⟨s'.2, rfl, h.h, by have := h.len; omega⟩
    | inr r =>
      have h := runE_ret (P := fun r => r = (false, [])) (fun i s r e => sgStep_ret e) e
      exact .inr (by rw [h]; rfl)
theorem SignsOf_eq (a0 a1 : Int) (a2 : List F) (g : FOks a2) (s2 : a2.length ≤ 1048576) : ∃ b l, s_SignsOf a0 a1 a2 = some (b, l) ∧ i_SignsOf a0 a1 a2 = some (b, l) ∧ l.length ≤ 1048576 := by
  unfold s_SignsOf i_SignsOf
  rw [s_l02Square_eq a0 a1 g s2, i_isSquare_eq a0 a1 g s2, obind_eq, obind_eq]
  cases hv : validM a0 a1 a2 && decide (a0 = a1) with
  | false => exact ⟨_, _, rfl, rfl, by simp⟩
  | true =>
    simp only [Bool.and_eq_true, decide_eq_true_eq] at hv
    obtain ⟨hv, he⟩ := hv
    obtain ⟨A, C, rfl, rfl, A0, C0, m, f⟩ := valid_mat hv
    have : A = C := by omega
    subst this
    obtain ⟨z, e1, e2, h⟩ := SignsOf_loops m g
    rw [bsel_true, bsel_true, s_l02Own_eq _ _ s2, i_Matrix_clone_eq _ _ s2, obind3_eq, obind3_eq, e1, e2, obind_eq, obind_eq]
    rcases h with ⟨e, rfl, h1, h2⟩ | rfl
    · have hn := m.A1
      rw [osum_inl, osum_inl]
      unfold s_SignsOf_k7 i_SignsOf_k7 s_l02List_0o i_allFinite_0o
      rw [s_l02Finite_eq h1 (by omega), i_areFinite_eq h1 (by omega)]
      cases e.all fin32 with
      | false => exact ⟨false, [], by simp [osum, obind, need, obind3, bsel], by simp [osum, obind, need, obind3, bsel], by simp⟩
      | true => exact ⟨true, e, by simp [osum, obind, need, obind2, bsel], by simp [osum, obind, need, obind2, bsel], by omega⟩
    · exact ⟨_, _, rfl, rfl, by simp⟩
theorem w_FnExactSignsOf_true (a0 : Int) (a1 : Int) (a2 : List F) (s_a2 : Small a2) (g_a2 : FOks a2) : w_FnExactSignsOf a0 a1 a2 = some true := by
  obtain ⟨l0, e0, h0⟩ := w_szFloat32S_ex a2 1048576 s_a2 (by omega) (by omega)
  rcases Int.lt_or_le l0 0 with c0 | c0
  · simp [w_FnExactSignsOf, w_eqMatrix, w_markMatrix_02o, w_szMatrix, w_toMatrix, e0, c0]
  have d0 : decide (l0 < 0) = false := by simp; omega
  have t0 := h0 c0
  have t_a2 : a2.length ≤ 1048576 := by omega
  have f1 : w_toFloat32S a2 = some a2 := w_toFloat32S_eq a2 t_a2
  obtain ⟨z0, z1, p1, p2, b_z1⟩ := SignsOf_eq a0 a1 a2 g_a2 t_a2
  have f2 : w_eqFloat32S z1 z1 = some true := w_eqFloat32S_refl z1 b_z1
  have f3 : (!(z0 == z0)) = false := by cases z0 <;> rfl
  have f4 : w_eqFloat32S a2 a2 = some true := w_eqFloat32S_refl a2 t_a2
  have f5 : w_markFloat32S_0o 1 a2 = some ((1 + (a2.length : Int)), marks 1 a2.length) := w_markFloat32S_0o_eq 1 a2 (by omega) (by omega) t_a2
  have f6 : decide ((1 + (a2.length : Int)) < 0) = false := by simp <;> omega
  have f7 : w_markFloat32S_0o 1 z1 = some ((1 + (z1.length : Int)), marks 1 z1.length) := w_markFloat32S_0o_eq 1 z1 (by omega) (by omega) b_z1
  have f8 : w_heldFloat32S (marks 1 z1.length) 1 = some (1 + (z1.length : Int)) := w_heldFloat32S_eq 1 z1.length (by omega) (by omega) b_z1
  have f9 : decide ((1 + (z1.length : Int)) < 0) = false := by simp <;> omega
  simp only [w_FnExactSignsOf, w_eqMatrix, w_markMatrix_02o, w_szMatrix, w_toMatrix, e0, d0, f1, p1, p2, f2, f3, f4, f5, f6, f7, f8, f9, obind_eq, obind2_eq, obind3_eq, obind4_eq, obind5_eq, obind6_eq, obind7_eq, obind8_eq, bsel_true, bsel_false, need_true, olet_eq, marks_len, marksI_len, decide_true, Bool.not_true, Bool.not_false]

end Go.Proofs.Ytjbifkimffmhpaa
