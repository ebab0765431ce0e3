/- The plain law of FnExactCrossOf. -/
import Derived.Test.YtjbifkimffmhpaaG2
namespace Go.Proofs.Ytjbifkimffmhpaa
set_option linter.unusedSimpArgs false
set_option linter.unusedVariables false
open Go Go.AM
def Small {α : Type} (l : List α) : Prop := l.length ≤ 9223372036854775807
theorem sz_one (n : Nat) (a : Int) (hn : n ≤ 9223372036854775807) (h0 : 0 ≤ a) (h1 : a ≤ 1048576) :
    ∃ r, olet (IntKind.i64.wrap (a - (n : Int))) (fun x1 => bsel (decide (x1 < 0)) (some (-1)) (some x1)) = some r ∧ (0 ≤ r → (n : Int) ≤ a ∧ r ≤ a) := by
  rw [wrap_i64 (by omega) (by omega)]
  simp only [olet_eq, bsel_if, decide_eq_true_eq]
  split
  · exact ⟨_, rfl, fun h => by omega⟩
  · exact ⟨_, rfl, fun h => by omega⟩
theorem w_szFloat32S_ex (l : List F) (a : Int) (hn : Small l) (h0 : 0 ≤ a) (h1 : a ≤ 1048576) : ∃ r, w_szFloat32S l a = some r ∧ (0 ≤ r → (l.length : Int) ≤ a ∧ r ≤ a) := sz_one l.length a hn h0 h1
theorem w_toFloat32S_eq (a : List F) (h : a.length ≤ 1048576) : w_toFloat32S a = some a := by
  unfold w_toFloat32S
  have hm : mkok 4 (a.length : Int) = true := by simp [mkok]; omega
  rw [hm, need_true, loop_copy (a := a) (ρ := List F) ?_ ?_ _ (by simp)]
  · rfl
  · intro L v x h0 hv hx hL
    show w_toFloat32S_b1 a L v = _
    unfold w_toFloat32S_b1
    have hs := setAt?_of (l := L) (x := x) h0 (by omega)
    simp [bsel_if, hv, at?_of h0 hx, hs, wrap_succ h0 hv (by omega : a.length ≤ 9223372036854775807)]
  · intro L hL
    show w_toFloat32S_b1 a L (a.length : Int) = _
    unfold w_toFloat32S_b1
    simp [bsel_if]
theorem w_sameFloat_refl (c : F) : w_sameFloat c c = some true := by
  unfold w_sameFloat
  cases h : feq .f64 c c <;> simp [w_sameFloat_k1, h, bsel_if]
theorem w_eqFloat32S_refl (a : List F) (h : a.length ≤ 1048576) : w_eqFloat32S a a = some true := by
  unfold w_eqFloat32S
  rw [loop_eq (l := a) (m := a) rfl ?_ ?_]
  · simp [bsel_if, w_eqFloat32S_k1]
  · intro v x y h0 hv hx hy
    rw [hx] at hy; cases hy
    show w_eqFloat32S_b1 a a v = _
    unfold w_eqFloat32S_b1
    rw [at?_of h0 hx, wrap_succ h0 hv (by omega)]
    simp [bsel_if, hv, w_sameFloat_refl]
  · show w_eqFloat32S_b1 a a (a.length : Int) = _
    unfold w_eqFloat32S_b1
    simp [bsel_if]
theorem w_eqInt64S_refl (a : List Int) (h : a.length ≤ 1048576) : w_eqInt64S a a = some true := by
  unfold w_eqInt64S
  rw [loop_eq (l := a) (m := a) rfl ?_ ?_]
  · simp [bsel_if, w_eqInt64S_k1]
  · intro v x y h0 hv hx hy
    rw [hx] at hy; cases hy
    show w_eqInt64S_b1 a a v = _
    unfold w_eqInt64S_b1
    rw [at?_of h0 hx, wrap_succ h0 hv (by omega)]
    simp [bsel_if, hv]
  · show w_eqInt64S_b1 a a (a.length : Int) = _
    unfold w_eqInt64S_b1
    simp [bsel_if]
def FOks (l : List F) : Prop := ∀ c ∈ l, FOk .f32 c
theorem FOks.at {l : List F} (h : FOks l) {i : Nat} {c : F} (e : l[i]? = some c) : FOk .f32 c := h c (List.mem_of_getElem? e)
theorem s_l00In_eq (n lo hi : Int) : s_l00In n lo hi = some (decide (lo ≤ n) && decide (n ≤ hi)) := by
  unfold s_l00In; cases decide (lo ≤ n) <;> rfl
theorem i_inRange_eq (n lo hi : Int) : i_inRange n lo hi = some (decide (lo ≤ n) && decide (n ≤ hi)) := by
  unfold i_inRange; cases decide (lo ≤ n) <;> rfl
theorem s_l01Finite_eq {c : F} (h : FOk .f32 c) : s_l01Finite c = some (fin32 c) := by
  unfold s_l01Finite; rw [olet_eq, sub_self h]
theorem s_l02Finite_eq {a : List F} (ha : FOks a) (sa : a.length ≤ 1048576) : s_l02Finite a = some (a.all fin32) := by
  unfold s_l02Finite
  rw [loop_all (l := a) (p := fin32) false ?_ ?_]
  · cases h : a.all fin32 <;> simp [s_l02Finite_k1]
  · intro v x h0 hv hx
    show s_l02Finite_b1 a v = _
    unfold s_l02Finite_b1
    rw [at?_of h0 hx, wrap_succ h0 hv (by omega)]
    simp [bsel_if, hv, s_l01Finite_eq (ha.at hx)]
  · show s_l02Finite_b1 a (a.length : Int) = _
    unfold s_l02Finite_b1
    simp [bsel_if]
theorem i_IsFinite_eq {c : F} (h : FOk .f32 c) : i_IsFinite c = some (fin32 c) := by
  unfold i_IsFinite i_isFinite64 x_math_IsNaN x_math_IsInf x_math_Abs x_math_IsInf_k1
  cases c with
  | none => simp [fwiden, fin32]
  | some b =>
    have hw := feq_refl (k := .f64) (b := FloatKind.f64.encode (FloatKind.f32.decode b)) (fwiden_ok h)
    have hw' : feq .f64 (fwiden (some b)) (fwiden (some b)) = true := hw
    have hm := fabs_max h (by simp)
    simp only [olet_eq, obind_eq, hw', Bool.not_true, bsel_false, decide_true, bsel_true, hm, Bool.not_not]
theorem i_areFinite_1_eq {c : F} (h : FOk .f32 c) : i_areFinite_1 c = some (!fin32 c) := by
  unfold i_areFinite_1; rw [i_IsFinite_eq h]; rfl
theorem any_not {α : Type} (l : List α) (p : α → Bool) : l.any (fun x => !p x) = !l.all p := by
  induction l with
  | nil => rfl
  | cons a l ih => simp [ih]
theorem i_areFinite_eq {a : List F} (ha : FOks a) (sa : a.length ≤ 1048576) : i_areFinite a = some (a.all fin32) := by
  unfold i_areFinite x_slices_ContainsFunc_float32_float32_1Fi_areFinite_1 x_slices_IndexFunc_float32_float32_1Fi_areFinite_1
  obtain ⟨r, h1, h2⟩ := loop_find (l := a) (p := fun c => !fin32 c) (step := x_slices_IndexFunc_float32_float32_1Fi_areFinite_1_s1 a) (by
    intro v x h0 hv hx
    show x_slices_IndexFunc_float32_float32_1Fi_areFinite_1_b1 a v = _
    unfold x_slices_IndexFunc_float32_float32_1Fi_areFinite_1_b1
    rw [at?_of h0 hx, wrap_succ h0 hv (by omega)]
    simp [bsel_if, hv, i_areFinite_1_eq (ha.at hx)]) (by
    show x_slices_IndexFunc_float32_float32_1Fi_areFinite_1_b1 a (a.length : Int) = _
    unfold x_slices_IndexFunc_float32_float32_1Fi_areFinite_1_b1
    simp [bsel_if])
  rw [h1, any_not]
  cases h : a.all fin32 <;> simp [x_slices_IndexFunc_float32_float32_1Fi_areFinite_1_k1, h2]
theorem fint_ok (n : Int) : FOk .f32 (fint .f32 n) := ⟨_, encode_FR .f32 (d := .number (n < 0) n.natAbs 0) rfl⟩
theorem feq_fint (n : Int) : feq .f32 (fint .f32 n) (fint .f32 n) = true := feq_refl (fint_ok n)
def marks (k : Int) (n : Nat) : List F := (List.range n).map fun (i : Nat) => fint .f32 (k + (i : Int))
def marksI (k : Int) (n : Nat) : List Int := (List.range n).map fun (i : Nat) => k + (i : Int)
theorem marks_len (k : Int) (n : Nat) : (marks k n).length = n := by simp [marks]
theorem marksI_len (k : Int) (n : Nat) : (marksI k n).length = n := by simp [marksI]
theorem loop_mark {α ρ : Type} (mk : Int → α) (k : Int) (n : Nat) {step : List α × Int × Int → Option (LR (List α × Int × Int) (List α × Int) ρ)}
    (hstep : ∀ (L : List α) (i : Nat), i < n → L.length = n → step (L, k + (i : Int), (i : Int)) = some (.next (L.set i (mk (k + (i : Int))), k + ((i + 1 : Nat) : Int), ((i + 1 : Nat) : Int))))
    (hend : ∀ L : List α, L.length = n → step (L, k + (n : Int), (n : Int)) = some (.out (L, k + (n : Int)))) (a : List α) (ha : a.length = n) :
    loopM step (a, k, 0) = some (.inl ((List.range n).map (fun (i : Nat) => mk (k + (i : Int))), k + (n : Int))) := by
  have key : ∀ (m i : Nat) (L : List α), m + i = n → L.length = n → L.take i = (List.range i).map (fun (i : Nat) => mk (k + (i : Int))) → loopM step (L, k + (i : Int), (i : Int)) = some (.inl ((List.range n).map (fun (i : Nat) => mk (k + (i : Int))), k + (n : Int))) := by
    intro m
    induction m with
    | zero =>
      intro i L hi hL ht
      have : i = n := by omega
      subst this
      rw [loopM_out (hend L hL), ← ht, ← hL, List.take_length]
    | succ m ih =>
      intro i L hi hL ht
      rw [loopM_next (hstep L i (by omega) hL)]
      refine ih (i + 1) _ (by omega) (by simpa using hL) ?_
      rw [List.take_succ_eq_append_getElem (by simp; omega), List.take_set_of_le (Nat.le_refl _), ht, List.range_succ, List.map_append]
      simp
  have := key n 0 a (by omega) ha (by simp)
  simpa using this
theorem w_markFloat32S_0o_eq (k : Int) (a : List F) (h0 : -1000000000 ≤ k) (h1 : k ≤ 1000000000) (ha : a.length ≤ 1048576) : w_markFloat32S_0o k a = some (k + (a.length : Int), marks k a.length) := by
  unfold w_markFloat32S_0o
  rw [loop_mark (fun n => fint .f32 n) k a.length (step := w_markFloat32S_0o_s1 a) ?_ ?_ a rfl]
  · rfl
  · intro L i hi hL
    show w_markFloat32S_0o_b1 a L (k + (i : Int)) (i : Int) = _
    unfold w_markFloat32S_0o_b1
    have hs := setAt?_of (l := L) (v := (i : Int)) (x := fint .f32 (k + (i : Int))) (by omega) (by omega)
    have e1 : IntKind.i64.wrap (k + (i : Int) + 1) = k + ((i + 1 : Nat) : Int) := by rw [wrap_i64 (by omega) (by omega)]; omega
    have e2 : IntKind.i64.wrap ((i : Int) + 1) = ((i + 1 : Nat) : Int) := by rw [wrap_i64 (by omega) (by omega)]; omega
    simp only [olet_eq, hs, obind_eq, e1, e2, bsel_if, decide_eq_true_eq]
    rw [if_pos (by omega)]
    rfl
  · intro L hL
    show w_markFloat32S_0o_b1 a L (k + (a.length : Int)) (a.length : Int) = _
    unfold w_markFloat32S_0o_b1
    simp [bsel_if]
theorem w_markInt64S_0o_eq (k : Int) (a : List Int) (h0 : -1000000000 ≤ k) (h1 : k ≤ 1000000000) (ha : a.length ≤ 1048576) : w_markInt64S_0o k a = some (k + (a.length : Int), marksI k a.length) := by
  unfold w_markInt64S_0o
  rw [loop_mark (fun n => n) k a.length (step := w_markInt64S_0o_s1 a) ?_ ?_ a rfl]
  · rfl
  · intro L i hi hL
    show w_markInt64S_0o_b1 a L (k + (i : Int)) (i : Int) = _
    unfold w_markInt64S_0o_b1
    have hs := setAt?_of (l := L) (v := (i : Int)) (x := k + (i : Int)) (by omega) (by omega)
    have e1 : IntKind.i64.wrap (k + (i : Int) + 1) = k + ((i + 1 : Nat) : Int) := by rw [wrap_i64 (by omega) (by omega)]; omega
    have e2 : IntKind.i64.wrap ((i : Int) + 1) = ((i + 1 : Nat) : Int) := by rw [wrap_i64 (by omega) (by omega)]; omega
    simp only [olet_eq, hs, obind_eq, e1, e2, bsel_if, decide_eq_true_eq]
    rw [if_pos (by omega)]
    rfl
  · intro L hL
    show w_markInt64S_0o_b1 a L (k + (a.length : Int)) (a.length : Int) = _
    unfold w_markInt64S_0o_b1
    simp [bsel_if]
theorem loop_held {k : Int} {n : Nat} {step : Int × Int → Option (LR (Int × Int) Int Int)}
    (hstep : ∀ i : Nat, i < n → step (k + (i : Int), (i : Int)) = some (.next (k + ((i + 1 : Nat) : Int), ((i + 1 : Nat) : Int)))) (hend : step (k + (n : Int), (n : Int)) = some (.out (k + (n : Int)))) :
    loopM step (k, 0) = some (.inl (k + (n : Int))) := by
  have key : ∀ (m i : Nat), m + i = n → loopM step (k + (i : Int), (i : Int)) = some (.inl (k + (n : Int))) := by
    intro m
    induction m with
    | zero => intro i hi; have : i = n := by omega
              subst this; exact loopM_out hend
    | succ m ih => intro i hi; rw [loopM_next (hstep i (by omega))]; exact ih (i + 1) (by omega)
  have := key n 0 (by omega)
  simpa using this
theorem w_heldFloat32S_eq (k : Int) (n : Nat) (h0 : -1000000000 ≤ k) (h1 : k ≤ 1000000000) (hn : n ≤ 1048576) : w_heldFloat32S (marks k n) k = some (k + (n : Int)) := by
  unfold w_heldFloat32S
  rw [loop_held (k := k) (n := n) (step := w_heldFloat32S_s1 (marks k n)) ?_ ?_]
  · rfl
  · intro i hi
    show w_heldFloat32S_b1 (marks k n) (k + (i : Int)) (i : Int) = _
    unfold w_heldFloat32S_b1
    have hx : (marks k n)[(i : Int).toNat]? = some (fint .f32 (k + (i : Int))) := by simp [marks, hi]
    have e1 : IntKind.i64.wrap (k + (i : Int) + 1) = k + ((i + 1 : Nat) : Int) := by rw [wrap_i64 (by omega) (by omega)]; omega
    have e2 : IntKind.i64.wrap ((i : Int) + 1) = ((i + 1 : Nat) : Int) := by rw [wrap_i64 (by omega) (by omega)]; omega
    rw [at?_of (by omega) hx]
    simp only [olet_eq, obind_eq, e1, e2, bsel_if, decide_eq_true_eq, marks_len, feq_fint]
    rw [if_pos (by omega)]
    simp
  · show w_heldFloat32S_b1 (marks k n) (k + (n : Int)) (n : Int) = _
    unfold w_heldFloat32S_b1
    simp [bsel_if, marks_len]
theorem w_heldInt64S_eq (k : Int) (n : Nat) (h0 : -1000000000 ≤ k) (h1 : k ≤ 1000000000) (hn : n ≤ 1048576) : w_heldInt64S (marksI k n) k = some (k + (n : Int)) := by
  unfold w_heldInt64S
  rw [loop_held (k := k) (n := n) (step := w_heldInt64S_s1 (marksI k n)) ?_ ?_]
  · rfl
  · intro i hi
    show w_heldInt64S_b1 (marksI k n) (k + (i : Int)) (i : Int) = _
    unfold w_heldInt64S_b1
    have hx : (marksI k n)[(i : Int).toNat]? = some (k + (i : Int)) := by simp [marksI, hi]
    have e1 : IntKind.i64.wrap (k + (i : Int) + 1) = k + ((i + 1 : Nat) : Int) := by rw [wrap_i64 (by omega) (by omega)]; omega
    have e2 : IntKind.i64.wrap ((i : Int) + 1) = ((i + 1 : Nat) : Int) := by rw [wrap_i64 (by omega) (by omega)]; omega
    rw [at?_of (by omega) hx]
    simp only [olet_eq, obind_eq, e1, e2, bsel_if, decide_eq_true_eq, marksI_len]
    rw [if_pos (by omega)]
    simp
  · show w_heldInt64S_b1 (marksI k n) (k + (n : Int)) (n : Int) = _
    unfold w_heldInt64S_b1
    simp [bsel_if, marksI_len]
theorem small_mul {x y : Nat} (hx : x ≤ 12) (hy : y ≤ 12) : x * y ≤ 144 := Nat.mul_le_mul hx hy
theorem div_at {i k c : Nat} (hk : k < c) : (i * c + k) / c = i ∧ (i * c + k) % c = k := by
  have hc : 0 < c := by omega
  constructor
  · rw [Nat.mul_comm, Nat.mul_add_div hc, Nat.div_eq_of_lt hk, Nat.add_zero]
  · rw [Nat.mul_comm, Nat.mul_add_mod, Nat.mod_eq_of_lt hk]
def side (n : Int) : Bool := decide (1 ≤ n) && decide (n ≤ 12)
theorem s_l02Sides_eq (x y : Int) : s_l02Sides x y = some (side x && side y) := by
  unfold s_l02Sides; rw [s_l00In_eq, s_l00In_eq]; unfold side
  cases decide (1 ≤ x) <;> cases decide (x ≤ 12) <;> rfl
theorem i_isSide_eq (x : Int) : i_isSide x = some (side x) := by
  unfold i_isSide; rw [i_inRange_eq]; rfl
def validM (a0 a1 : Int) (a2 : List F) : Bool := side a0 && side a1 && decide ((a2.length : Int) = IntKind.i64.wrap (a0 * a1)) && a2.all fin32
theorem s_l02Is_eq (a0 a1 : Int) {a2 : List F} (g2 : FOks a2) (s2 : a2.length ≤ 1048576) : s_l02Is a0 a1 a2 = some (validM a0 a1 a2) := by
  unfold s_l02Is validM
  rw [s_l02Sides_eq, s_l02Finite_eq g2 s2]
  cases side a0 <;> cases side a1 <;> simp [bsel_if] <;> split <;> simp_all
theorem i_ValidMatrix_eq (a0 a1 : Int) {a2 : List F} (g2 : FOks a2) (s2 : a2.length ≤ 1048576) : i_ValidMatrix a0 a1 a2 = some (validM a0 a1 a2) := by
  unfold i_ValidMatrix i_length_float32 validM
  rw [i_isSide_eq, i_isSide_eq, i_areFinite_eq g2 s2]
  cases side a0 <;> cases side a1 <;> simp [bsel_if] <;> split <;> simp_all
theorem side_nat {n : Int} (h : side n = true) : ∃ m : Nat, n = (m : Int) ∧ 0 < m ∧ m ≤ 12 := by
  simp [side] at h
  exact ⟨n.toNat, by omega, by omega, by omega⟩
theorem FOks.getD {l : List F} (h : FOks l) (n : Nat) : FOk .f32 (l.getD n none) := by
  simp only [List.getD]
  cases e : l[n]? with
  | none => exact fok_none _
  | some c => exact h.at e
theorem FOks.set {l : List F} (h : FOks l) {n : Nat} {x : F} (hx : FOk .f32 x) : FOks (l.set n x) := by
  intro c hc
  rcases List.mem_or_eq_of_mem_set hc with h1 | h1
  · exact h c h1
  · exact h1 ▸ hx
theorem wsucc {i : Nat} (h : i ≤ 1000000000) : IntKind.i64.wrap ((i : Int) + 1) = ((i + 1 : Nat) : Int) := by
  rw [wrap_i64 (by omega) (by omega)]; omega
theorem dlt {i n : Nat} (h : i < n) : decide ((i : Int) < (n : Int)) = true := by simp; omega
theorem dnlt {n : Nat} : decide ((n : Int) < (n : Int)) = false := by simp
theorem i_Matrix_at_eq {A C i k : Nat} {L : List F} (r : Int) (h : Mat A C L) (hi : i < A) (hk : k < C) : i_Matrix_at r (C : Int) L (i : Int) (k : Int) = some (gm none L C i k) := by
  obtain ⟨e1, e2⟩ := idx_w h.A1 h.C1 hi hk
  unfold i_Matrix_at
  rw [e1, olet_eq, e2, olet_eq, at?_n none (h.lt hi hk), obind_eq]
theorem s_l02At_eq {A C i k : Nat} {L : List F} (r : Int) (h : Mat A C L) (hi : i < A) (hk : k < C) : s_l02At r (C : Int) L (i : Int) (k : Int) = some (gm none L C i k) := by
  obtain ⟨e1, e2⟩ := idx_w h.A1 h.C1 hi hk
  unfold s_l02At
  rw [e1, olet_eq, e2, olet_eq, at?_n none (h.lt hi hk), obind_eq]
theorem i_absolute_eq {c : F} (h : FOk .f32 c) : i_absolute c = some (fabs32 c) := by
  unfold i_absolute x_math_Abs
  rw [olet_eq, olet_eq, obind_eq, abs_narrow h, obind_eq]
theorem s_l02Size_eq {c : F} (h : FOk .f32 c) : s_l02Size c = some (fabs32 c) := by
  unfold s_l02Size
  rw [← size_abs h, bsel_if, olet_eq]
  split <;> rfl
theorem i_mul_eq (a b : F) : i_mul a b = some (fop .mul .f32 a b) := rfl
theorem valid_mat {a0 a1 : Int} {a2 : List F} (h : validM a0 a1 a2 = true) : ∃ A C : Nat, a0 = (A : Int) ∧ a1 = (C : Int) ∧ 0 < A ∧ 0 < C ∧ Mat A C a2 ∧ a2.all fin32 = true := by
  simp only [validM, Bool.and_eq_true, decide_eq_true_eq] at h
  obtain ⟨⟨⟨v1, v2⟩, v3⟩, v4⟩ := h
  obtain ⟨A, rfl, A0, A1⟩ := side_nat v1
  obtain ⟨C, rfl, C0, C1⟩ := side_nat v2
  have hAC := small_mul A1 C1
  rw [← Int.natCast_mul, wn (by omega)] at v3
  exact ⟨A, C, rfl, rfl, A0, C0, ⟨A1, C1, by omega⟩, v4⟩
theorem mat_valid {A C : Nat} {L : List F} (h : Mat A C L) (hA : 0 < A) (hC : 0 < C) : validM (A : Int) (C : Int) L = L.all fin32 := by
  unfold validM side
  have hAC := small_mul h.A1 h.C1
  have h1 := h.A1
  have h2 := h.C1
  rw [← Int.natCast_mul, wn (by omega), h.len]
  have e1 : decide ((1 : Int) ≤ (A : Int)) = true := by simp; omega
  have e2 : decide ((A : Int) ≤ 12) = true := by simp; omega
  have e3 : decide ((1 : Int) ≤ (C : Int)) = true := by simp; omega
  have e4 : decide ((C : Int) ≤ 12) = true := by simp; omega
  rw [e1, e2, e3, e4]
  simp
theorem s_l02Own_eq (a0 a1 : Int) {L : List F} (h : L.length ≤ 1048576) : s_l02Own a0 a1 L = some (a0, a1, L) := by
  have ap : apok 4 0 L.length = true := by simp [apok]; omega
  unfold s_l02Own; rw [ap]; rfl
theorem i_Matrix_clone_eq (a0 a1 : Int) {L : List F} (h : L.length ≤ 1048576) : i_Matrix_clone a0 a1 L = some (a0, a1, L) := by
  have ap : apok 4 0 L.length = true := by simp [apok]; omega
  unfold i_Matrix_clone x_slices_Clone_float32_float32; rw [ap]; rfl
theorem ford_zero {x : F} (h : FOk .f32 x) (hf : fin32 x = true) : ∃ o, ford .f32 x (some 0) = some o := by
  cases x with
  | none => cases hf
  | some b =>
    have hn := h.some.2
    rcases read_cases (f := Ieee.single) (fmt_ok .f32) hn with ⟨g1, _⟩ | ⟨_, g2⟩
    · exact ⟨_, order_zero g1⟩
    · have : (Ieee.single.read b).isInfinity = true := by rw [g2]; rfl
      simp only [fin32, this] at hf
      cases hf
theorem least_eq {x : F} (h : FOk .f32 x) (hf : fin32 x = true) : fle .f32 (some 0) x = !flt .f32 x (some 0) := by
  obtain ⟨o, ho⟩ := ford_zero h hf
  unfold fle flt
  rw [ford_swap (a := x) (b := some 0), ho]
  cases o <;> rfl
theorem s_l02Least_eq {x : F} (h : FOk .f32 x) : s_l02Least x = some (fin32 x && !flt .f32 x (some 0)) := by
  unfold s_l02Least
  rw [s_l01Finite_eq h, obind_eq]
  cases hf : fin32 x with
  | false => rfl
  | true => rw [bsel_true, least_eq h hf]; rfl
theorem s_l02Zero_eq {A C : Nat} (hA : A ≤ 12) (hC : C ≤ 12) : s_l02Zero (A : Int) (C : Int) = some ((A : Int), (C : Int), List.replicate (A * C) (some 0)) := by
  have hAC := small_mul hA hC
  unfold s_l02Zero
  have mk : mkok 4 ((A * C : Nat) : Int) = true := by simp [mkok]; omega
  rw [← Int.natCast_mul, wn (by omega), olet_eq, mk]; rfl
theorem i_newMatrix_eq {A C : Nat} (hA : A ≤ 12) (hC : C ≤ 12) : i_newMatrix (A : Int) (C : Int) = some ((A : Int), (C : Int), List.replicate (A * C) (some 0)) := by
  have hAC := small_mul hA hC
  unfold i_newMatrix
  have mk : mkok 4 ((A * C : Nat) : Int) = true := by simp [mkok]; omega
  rw [← Int.natCast_mul, wn (by omega), olet_eq, mk]; rfl
theorem zmat {A C : Nat} (hA : A ≤ 12) (hC : C ≤ 12) : Mat A C (List.replicate (A * C) (some 0 : F)) := ⟨hA, hC, by simp⟩
theorem run_map {α : Type} (f : Nat → α) : ∀ n : Nat, run (fun i (l : List α) => l ++ [f i]) 0 n [] = (List.range n).map f
  | 0 => rfl
  | n + 1 => by rw [run_last, run_map f n]; simp [List.range_succ]
def colP (A C k : Nat) (L : List F) : List F := (List.range A).map fun i => gm none L C i k
theorem colP_len {A C k : Nat} {L : List F} : (colP A C k L).length = A := by simp [colP]
theorem colP_at {A C k i : Nat} {L : List F} (hi : i < A) : (colP A C k L).getD i none = gm none L C i k := by
  simp [colP, List.getD, hi]
theorem i_Matrix_column_eq {A C k : Nat} {L : List F} (h : Mat A C L) (hk : k < C) : i_Matrix_column (A : Int) (C : Int) L (k : Int) = some (colP A C k L) := by
  have hA := h.A1
  obtain ⟨e, _⟩ := loop_run (step := i_Matrix_column_s1 (A : Int) (C : Int) L (k : Int)) (fun (i : Nat) (l : List F) => (l, (i : Int))) (fun i l => l ++ [gm none L C i k]) (fun l => l) (fun i l => l.length = i) (lo := 0) (n := A) (Nat.zero_le _) (s0 := []) rfl
    (fun i l _ hi h3 => by
      refine ⟨?_, by simp [h3]⟩
      show i_Matrix_column_b1 _ _ _ _ _ _ = _
      unfold i_Matrix_column_b1
      have ap : apok 4 l.length 1 = true := by simp [apok]; omega
      rw [dlt hi, bsel_true, i_Matrix_at_eq _ h hi hk, obind_eq, ap, need_true, wsucc (by omega)]
      rfl)
    (fun l _ => by
      show i_Matrix_column_b1 _ _ _ _ _ _ = _
      unfold i_Matrix_column_b1
      rw [dnlt, bsel_false])
  unfold i_Matrix_column
  replace e : loopM (i_Matrix_column_s1 (A : Int) (C : Int) L (k : Int)) ([], 0) = some (.inl (run (fun i l => l ++ [gm none L C i k]) 0 (A - 0) [])) := e
  rw [e, Nat.sub_zero, run_map]; rfl
theorem zero_ok : FOk .f32 (some 0) := ⟨0, rfl, by decide, rfl⟩
theorem getD_gm {A C : Nat} {L : List F} {q : Nat} : gm none L C (q / C) (q % C) = L.getD q none := by
  unfold gm
  rw [show q / C * C + q % C = q by rw [Nat.mul_comm]; exact Nat.div_add_mod q C]
def coFind (L : List F) (q b : Nat) : Nat := bif flt .f32 (fabs32 (L.getD b none)) (fabs32 (L.getD q none)) then q else b
def coBest (L : List F) : Nat := run (coFind L) 0 L.length 0
theorem coFind_lt {L : List F} {q b : Nat} (hq : q < L.length) (hb : b < L.length) : coFind L q b < L.length := by
  unfold coFind
  cases flt .f32 (fabs32 (L.getD b none)) (fabs32 (L.getD q none)) <;> assumption
theorem s_CrossOf_find {L r6 : List F} (g : FOks L) (h6 : r6.length = L.length) (h0 : 0 < L.length) (hs : L.length ≤ 144) : loopM (s_CrossOf_s11 r6 L) (0, 0) = some (.inl ((coBest L : Nat) : Int)) ∧ coBest L < L.length := by
  obtain ⟨e, hI⟩ := loop_run (step := s_CrossOf_s11 r6 L) (fun (q b : Nat) => ((b : Int), (q : Int))) (coFind L) (fun (b : Nat) => (b : Int)) (fun _ b => b < L.length) (lo := 0) (n := L.length) (Nat.zero_le _) (s0 := 0) h0
    (fun q b _ hq hb => by
      refine ⟨?_, coFind_lt hq hb⟩
      show s_CrossOf_b11 _ _ _ _ = _
      unfold s_CrossOf_b11
      rw [h6, dlt hq, bsel_true, at?_n none hq, obind_eq, s_l02Size_eq (g.getD _), obind_eq, at?_n none hb, obind_eq, s_l02Size_eq (g.getD _), obind_eq]
      unfold s_CrossOf_k10 coFind
      rw [wsucc (by omega)]
      cases flt .f32 (fabs32 (L.getD b none)) (fabs32 (L.getD q none)) <;> rfl)
    (fun b _ => by
      show s_CrossOf_b11 _ _ _ _ = _
      unfold s_CrossOf_b11
      rw [h6, dnlt, bsel_false])
  exact ⟨e, hI⟩
theorem tdiv_n (q C : Nat) : (q : Int).tdiv (C : Int) = ((q / C : Nat) : Int) := by rw [Int.tdiv_eq_ediv_of_nonneg (by omega), Int.natCast_ediv]
theorem tmod_n (q C : Nat) : (q : Int).tmod (C : Int) = ((q % C : Nat) : Int) := by rw [Int.tmod_eq_emod_of_nonneg (by omega), Int.natCast_emod]
theorem dne0 {C : Nat} (h : 0 < C) : (!decide ((C : Int) = 0)) = true := by simp; omega
theorem i_CrossOf_find {A C : Nat} {L r6 : List F} (m : Mat A C L) (g : FOks L) (h6 : r6.length = L.length) (h0 : 0 < A) (hC : 0 < C) : loopM (i_CrossOf_s7 (A : Int) (C : Int) r6 L) (0, 0, 0) = some (.inl (((coBest L / C : Nat) : Int), ((coBest L % C : Nat) : Int))) := by
  have hs := m.small
  have hpos : 0 < L.length := by rw [m.len]; exact Nat.mul_pos h0 hC
  have hdiv : ∀ b, b < L.length → b / C < A ∧ b % C < C := fun b hb => ⟨(Nat.div_lt_iff_lt_mul hC).2 (by rw [← m.len]; exact hb), Nat.mod_lt _ hC⟩
  obtain ⟨e, _⟩ := loop_run (step := i_CrossOf_s7 (A : Int) (C : Int) r6 L) (fun (q b : Nat) => (((b / C : Nat) : Int), ((b % C : Nat) : Int), (q : Int))) (coFind L) (fun (b : Nat) => (((b / C : Nat) : Int), ((b % C : Nat) : Int))) (fun _ b => b < L.length) (lo := 0) (n := L.length) (Nat.zero_le _) (s0 := 0) hpos
    (fun q b _ hq hb => by
      refine ⟨?_, coFind_lt hq hb⟩
      show i_CrossOf_b7 _ _ _ _ _ _ _ = _
      unfold i_CrossOf_b7
      obtain ⟨d1, d2⟩ := hdiv b hb
      have hqd := Nat.div_le_self q C
      rw [h6, dlt hq, bsel_true, at?_n none hq, obind_eq, i_absolute_eq (g.getD _), obind_eq, i_Matrix_at_eq _ m d1 d2, obind_eq, getD_gm (A := A), i_absolute_eq (g.getD _), obind_eq]
      simp only [dne0 hC, need_true, tdiv_n, tmod_n, olet_eq, wn (show q / C ≤ 9223372036854775807 by omega)]
      unfold i_CrossOf_k6 coFind
      rw [wsucc (by omega)]
      cases flt .f32 (fabs32 (L.getD b none)) (fabs32 (L.getD q none)) <;> rfl)
    (fun b _ => by
      show i_CrossOf_b7 _ _ _ _ _ _ _ = _
      unfold i_CrossOf_b7
      rw [h6, dnlt, bsel_false])
  have z1 : ((0 / C : Nat) : Int) = 0 := by simp
  have z2 : ((0 % C : Nat) : Int) = 0 := by simp
  rw [z1, z2] at e
  exact e
def coC (C : Nat) (R : List F) (i k : Nat) (p : F) (q : Nat) : F := fop .mul .f32 (fop .quo .f32 (gm none R C (q / C) k) p) (gm none R C i (q % C))
def coE (C : Nat) (R : List F) (i k : Nat) (p : F) (q : Nat) (s : List F × List F) : List F × List F := (s.1.set q (fop .sub .f32 (s.1.getD q none) (coC C R i k p q)), s.2.set q (fop .add .f32 (s.2.getD q none) (coC C R i k p q)))
def coTake (A C : Nat) (R : List F) (i k : Nat) (p : F) (s : List F × List F) : List F × List F := run (coE C R i k p) 0 (A * C) s
structure COp (A C : Nat) (s : List F × List F) : Prop where
  m : Mat A C s.1
  g : FOks s.1
  n : Mat A C s.2
  h : FOks s.2
theorem coE_inv {A C i k q : Nat} {R : List F} {p : F} {s : List F × List F} (h : COp A C s) : COp A C (coE C R i k p q s) :=
  ⟨⟨h.m.A1, h.m.C1, by simp [coE, h.m.len]⟩, h.g.set (fop_fok _ _ _), ⟨h.m.A1, h.m.C1, by simp [coE, h.n.len]⟩, h.h.set (fop_fok _ _ _)⟩
theorem coTake_inv {A C i k : Nat} {R : List F} {p : F} {s : List F × List F} (h : COp A C s) : COp A C (coTake A C R i k p s) := run_inv (fun _ s => COp A C s) _ _ _ h fun _ _ _ _ h => coE_inv h
theorem run_add {σ : Type} (f : Nat → σ → σ) : ∀ (a b i : Nat) (s : σ), run f i (a + b) s = run f (i + a) b (run f i a s)
  | 0, b, i, s => by simp [run]
  | a + 1, b, i, s => by rw [show a + 1 + b = (a + b) + 1 by omega, run_succ, run_add f a b (i + 1), run_succ, show i + 1 + a = i + (a + 1) by omega]
theorem run_shift {σ : Type} (f : Nat → σ → σ) (d : Nat) : ∀ (m i : Nat) (s : σ), run (fun k s => f (d + k) s) i m s = run f (d + i) m s
  | 0, _, _ => rfl
  | m + 1, i, s => by rw [run_succ, run_succ, run_shift f d m (i + 1)]; rfl
theorem run_rows {σ : Type} (f : Nat → σ → σ) (C : Nat) : ∀ (A : Nat) (s : σ), run (fun r s => run (fun c s => f (r * C + c) s) 0 C s) 0 A s = run f 0 (A * C) s
  | 0, s => by simp [run]
  | A + 1, s => by
    rw [run_last, run_rows f C A, Nat.succ_mul, run_add]
    simp only [Nat.zero_add]
    have := run_shift f (A * C) C 0 (run f 0 (A * C) s)
    rw [Nat.add_zero] at this
    exact this
theorem s_CrossOf_take {A C i k : Nat} {R : List F} {p : F} {s : List F × List F} (r38 : Int) (mR : Mat A C R) (h : COp A C s) (hi : i < A) (hk : k < C) : loopM (s_CrossOf_s14 (A : Int) (C : Int) p (i : Int) (k : Int) r38 (C : Int) R) (s.1, s.2, 0) = some (.inl (coTake A C R i k p s)) := by
  have hA := mR.A1
  have hC := mR.C1
  have inner : ∀ (r : Nat) (s : List F × List F), r < A → COp A C s → loopM (s_CrossOf_s13 (C : Int) (i : Int) r38 (C : Int) R (r : Int) (fop .quo .f32 (gm none R C r k) p)) (s.1, s.2, 0) = some (.inl (run (fun c s => coE C R i k p (r * C + c) s) 0 C s)) := by
    intro r s hr hs
    exact (loop_run (step := s_CrossOf_s13 (C : Int) (i : Int) r38 (C : Int) R (r : Int) (fop .quo .f32 (gm none R C r k) p)) (fun (c : Nat) (s : List F × List F) => (s.1, s.2, (c : Int))) (fun c s => coE C R i k p (r * C + c) s) (fun s => s) (fun _ s => COp A C s) (lo := 0) (n := C) (Nat.zero_le _) (s0 := s) hs
      (fun c s _ hc hs => by
        refine ⟨?_, coE_inv hs⟩
        show s_CrossOf_b13 _ _ _ _ _ _ _ _ _ _ = _
        unfold s_CrossOf_b13
        obtain ⟨e1, e2⟩ := idx_w hA hC hr hc
        obtain ⟨d1, d2⟩ := div_at (i := r) hc
        have l1 := hs.m.lt hr hc
        have l2 := hs.n.lt hr hc
        rw [dlt hc, bsel_true, e1, olet_eq, e2, olet_eq, s_l02At_eq _ mR hi hc, obind_eq, olet_eq, at?_n none l2, obind_eq, olet_eq, setAt?_n _ l2, obind_eq, at?_n none l1, obind_eq, olet_eq, setAt?_n _ l1, obind_eq, wsucc (by omega)]
        unfold coE coC
        rw [d1, d2]; rfl)
      (fun s _ => by
        show s_CrossOf_b13 _ _ _ _ _ _ _ _ _ _ = _
        unfold s_CrossOf_b13
        rw [dnlt, bsel_false])).1
  have e := (loop_run (step := s_CrossOf_s14 (A : Int) (C : Int) p (i : Int) (k : Int) r38 (C : Int) R) (fun (r : Nat) (s : List F × List F) => (s.1, s.2, (r : Int))) (fun r s => run (fun c s => coE C R i k p (r * C + c) s) 0 C s) (fun s => s) (fun _ s => COp A C s) (lo := 0) (n := A) (Nat.zero_le _) (s0 := s) h
    (fun r s _ hr hs => by
      refine ⟨?_, run_inv (fun _ s => COp A C s) _ _ _ hs fun _ _ _ _ h => coE_inv h⟩
      show s_CrossOf_b14 _ _ _ _ _ _ _ _ _ _ _ = _
      unfold s_CrossOf_b14
      rw [dlt hr, bsel_true, s_l02At_eq _ mR hr hk, obind_eq, olet_eq, inner r s hr hs, obind_eq, osum_inl]
      unfold s_CrossOf_k13
      rw [wsucc (by omega)]; rfl)
    (fun s _ => by
      show s_CrossOf_b14 _ _ _ _ _ _ _ _ _ _ _ = _
      unfold s_CrossOf_b14
      rw [dnlt, bsel_false])).1
  rw [Nat.sub_zero, run_rows] at e
  exact e
def rowP (C i : Nat) (L : List F) : List F := (L.take ((i + 1) * C)).drop (i * C)
theorem rowP_at {A C i k : Nat} {L : List F} (m : Mat A C L) (hi : i < A) (hk : k < C) : (rowP C i L).getD k none = gm none L C i k := by
  have h1 := idx_lt hi hk
  have h2 : i * C + k < (i + 1) * C := by rw [Nat.add_mul, Nat.one_mul]; omega
  unfold rowP gm
  simp [List.getD, List.getElem?_drop, List.getElem?_take, h2]
theorem rowP_len {A C i : Nat} {L : List F} (m : Mat A C L) (hi : i < A) : (rowP C i L).length = C := by
  have h1 : (i + 1) * C ≤ A * C := Nat.mul_le_mul_right C hi
  unfold rowP
  rw [List.length_drop, List.length_take, m.len, Nat.min_eq_left h1, Nat.add_mul, Nat.one_mul]; omega
theorem sub?_n {α : Type} {L : List α} {a b : Nat} (h1 : a ≤ b) (h2 : b ≤ L.length) : sub? L (a : Int) (b : Int) = some ((L.take b).drop a) := by
  unfold sub?
  rw [if_pos (by omega)]; rfl
theorem i_Matrix_row_eq {A C i : Nat} {L : List F} (r : Int) (m : Mat A C L) (hi : i < A) : i_Matrix_row r (C : Int) L (i : Int) = some (rowP C i L) := by
  have hA := m.A1
  have h1 : (i + 1) * C ≤ A * C := Nat.mul_le_mul_right C hi
  have h2 : A * C ≤ 144 := small_mul m.A1 m.C1
  have h3 : i * C ≤ (i + 1) * C := Nat.mul_le_mul_right C (by omega)
  unfold i_Matrix_row x_slices_Clone_float32_float32
  rw [wsucc (by omega), ← Int.natCast_mul, wn (by omega), olet_eq, olet_eq, ← Int.natCast_mul, wn (by omega), olet_eq, sub?_n h3 (by rw [m.len]; exact h1), obind_eq]
  have ap : apok 4 0 ((L.take ((i + 1) * C)).drop (i * C)).length = true := by
    have := rowP_len m hi
    unfold rowP at this
    have hC := m.C1
    simp only [apok, this]; simp; omega
  rw [ap, need_true, obind_eq, List.nil_append]; rfl
theorem i_CrossOf_take {A C i k : Nat} {R r6 : List F} {p : F} {s : List F × List F} (mR : Mat A C R) (h6 : r6.length = A * C) (h : COp A C s) (hi : i < A) (hk : k < C) : loopM (i_CrossOf_s8 (C : Int) r6 p (rowP C i R) (colP A C k R)) (s.1, s.2, 0) = some (.inl (coTake A C R i k p s)) := by
  have hA := mR.A1
  have hC := mR.C1
  have hAC : A * C ≤ 144 := small_mul hA hC
  have hC0 : 0 < C := by omega
  exact (loop_run (step := i_CrossOf_s8 (C : Int) r6 p (rowP C i R) (colP A C k R)) (fun (q : Nat) (s : List F × List F) => (s.1, s.2, (q : Int))) (coE C R i k p) (fun s => s) (fun _ s => COp A C s) (lo := 0) (n := A * C) (Nat.zero_le _) (s0 := s) h
    (fun q s _ hq hs => by
      refine ⟨?_, coE_inv hs⟩
      show i_CrossOf_b8 _ _ _ _ _ _ _ _ = _
      unfold i_CrossOf_b8
      have d1 : q / C < A := (Nat.div_lt_iff_lt_mul hC0).2 hq
      have d2 : q % C < C := Nat.mod_lt _ hC0
      have l1 : q < s.1.length := by rw [hs.m.len]; exact hq
      have l2 : q < s.2.length := by rw [hs.n.len]; exact hq
      have c1 : q / C < (colP A C k R).length := by rw [colP_len]; exact d1
      have c2 : q % C < (rowP C i R).length := by rw [rowP_len mR hi]; exact d2
      rw [h6, dlt hq, bsel_true, dne0 hC0, need_true, tdiv_n, wn (by omega), olet_eq, at?_n none c1, obind_eq, olet_eq, need_true, tmod_n, olet_eq, at?_n none c2, obind_eq, i_mul_eq, obind_eq, at?_n none l2, obind_eq, olet_eq, setAt?_n _ l2, obind_eq, at?_n none l1, obind_eq, olet_eq, setAt?_n _ l1, obind_eq, wsucc (by omega), colP_at d1, rowP_at mR hi d2]
      rfl)
    (fun s _ => by
      show i_CrossOf_b8 _ _ _ _ _ _ _ _ = _
      unfold i_CrossOf_b8
      rw [h6, dnlt, bsel_false])).1
abbrev CO := (List F × List F) × List Int × List Int
abbrev COe := List F × List Int × List Int
abbrev COr := Int × Int × Bool × List F × List Int × List Int
structure CInv (A C j : Nat) (s : CO) : Prop where
  p : COp A C s.1
  r : s.2.1.length = j
  c : s.2.2.length = j
def coPick (A C : Nat) (near : F) (b : Nat) (s : CO) : LR CO COe COr :=
  bif fle .f32 (fabs32 (s.1.1.getD b none)) near then .out (s.1.2, s.2.1, s.2.2)
  else bif (coTake A C s.1.1 (b / C) (b % C) (s.1.1.getD b none) s.1).2.all fin32 && (coTake A C s.1.1 (b / C) (b % C) (s.1.1.getD b none) s.1).1.all fin32 then .next (coTake A C s.1.1 (b / C) (b % C) (s.1.1.getD b none) s.1, s.2.1 ++ [((b / C : Nat) : Int)], s.2.2 ++ [((b % C : Nat) : Int)])
  else .ret (0, 0, false, [], [], [])
def coStep (A C : Nat) (near : F) (_ : Nat) (s : CO) : LR CO COe COr := coPick A C near (coBest s.1.1) s
theorem coStep_inv {A C j : Nat} {near : F} {s s' : CO} (h : CInv A C j s) (e : coStep A C near j s = .next s') : CInv A C (j + 1) s' := by
  unfold coStep at e
  generalize coBest s.1.1 = b at e
  unfold coPick at e
  cases hz : fle .f32 (fabs32 (s.1.1.getD b none)) near with
  | true => rw [hz, cond_true] at e; cases e
  | false =>
    rw [hz, cond_false] at e
    cases hf : (coTake A C s.1.1 (b / C) (b % C) (s.1.1.getD b none) s.1).2.all fin32 && (coTake A C s.1.1 (b / C) (b % C) (s.1.1.getD b none) s.1).1.all fin32 with
    | false => rw [hf, cond_false] at e; cases e
    | true => rw [hf, cond_true] at e; cases e; exact ⟨coTake_inv h.p, by simp [h.r], by simp [h.c]⟩
theorem coStep_post {A C j : Nat} {near : F} {s : CO} (h : CInv A C j s) (hj : j ≤ 12) : (∀ e, coStep A C near j s = .out e → e.1.length ≤ 1048576 ∧ e.2.1.length ≤ 1048576 ∧ e.2.2.length ≤ 1048576) ∧ (∀ r, coStep A C near j s = .ret r → r = (0, 0, false, [], [], [])) := by
  unfold coStep
  generalize coBest s.1.1 = b
  unfold coPick
  cases hz : fle .f32 (fabs32 (s.1.1.getD b none)) near with
  | true => rw [cond_true]; exact ⟨fun e he => by cases he; exact ⟨h.p.n.le, by show s.2.1.length ≤ _; have := h.r; omega, by show s.2.2.length ≤ _; have := h.c; omega⟩, fun r hr => by cases hr⟩
  | false =>
    rw [cond_false]
    cases hf : (coTake A C s.1.1 (b / C) (b % C) (s.1.1.getD b none) s.1).2.all fin32 && (coTake A C s.1.1 (b / C) (b % C) (s.1.1.getD b none) s.1).1.all fin32 with
    | false => rw [cond_false]; exact ⟨fun e he => by (cases he), fun r hr => by cases hr; rfl⟩
    | true => rw [cond_true]; exact ⟨fun e he => by (cases he), fun r hr => by cases hr⟩
theorem s_CrossOf_step {A C j mm : Nat} {near : F} {s : CO} (r6 : List F) (h6 : r6.length = A * C) (h : CInv A C j s) (hA : 0 < A) (hC : 0 < C) (hj : j < mm) (hm : mm ≤ 12) :
    s_CrossOf_b15 (A : Int) (C : Int) near (A : Int) (C : Int) r6 (A : Int) (C : Int) s.1.1 s.1.2 s.2.1 s.2.2 ((mm : Int) - (j : Int)) = some (lrmap (fun s => (s.1.1, s.1.2, s.2.1, s.2.2, (mm : Int) - ((j + 1 : Nat) : Int))) (coStep A C near j s)) := by
  have hs := h.p.m.small
  have hpos : 0 < s.1.1.length := by rw [h.p.m.len]; exact Nat.mul_pos hA hC
  obtain ⟨e1, e2⟩ := s_CrossOf_find (r6 := r6) h.p.g (by rw [h6, h.p.m.len]) hpos hs
  have hd : decide ((0 : Int) < (mm : Int) - (j : Int)) = true := by simp; omega
  unfold s_CrossOf_b15 coStep
  rw [hd, bsel_true, e1, obind_eq, osum_inl]
  generalize coBest s.1.1 = b at e2
  have d1 : b / C < A := (Nat.div_lt_iff_lt_mul hC).2 (by rw [← h.p.m.len]; exact e2)
  have d2 : b % C < C := Nat.mod_lt _ hC
  unfold s_CrossOf_k11 coPick
  rw [at?_n none e2, obind_eq, s_l02Size_eq (h.p.g.getD _), obind_eq]
  cases fle .f32 (fabs32 (s.1.1.getD b none)) near with
  | true => rfl
  | false =>
    have hT := coTake_inv (i := b / C) (k := b % C) (R := s.1.1) (p := s.1.1.getD b none) h.p
    have hb := Nat.div_le_self b C
    rw [bsel_false, cond_false, dne0 hC, need_true, tdiv_n, wn (by omega), olet_eq, need_true, tmod_n, olet_eq, s_l02Own_eq _ _ h.p.m.le, obind3_eq, s_CrossOf_take _ h.p.m h.p d1 d2, obind_eq, osum_inl]
    generalize coTake A C s.1.1 (b / C) (b % C) (s.1.1.getD b none) s.1 = t at hT
    unfold s_CrossOf_k14
    have ap1 : apok 8 s.2.1.length 1 = true := by simp [apok, h.r]; omega
    have ap2 : apok 8 s.2.2.length 1 = true := by simp [apok, h.c]; omega
    have hw : IntKind.i64.wrap ((mm : Int) - (j : Int) - 1) = (mm : Int) - ((j + 1 : Nat) : Int) := by rw [wrap_i64 (by omega) (by omega)]; omega
    rw [s_l02Is_eq _ _ hT.g hT.m.le, mat_valid hT.m hA hC, s_l02Is_eq _ _ hT.h hT.n.le, mat_valid hT.n hA hC, obind_eq, obind_eq, ap1, ap2, need_true, need_true, hw]
    cases t.1.all fin32 <;> cases t.2.all fin32 <;> rfl
theorem i_CrossOf_step {A C j mm : Nat} {near : F} {s : CO} (r6 : List F) (h6 : r6.length = A * C) (h : CInv A C j s) (hA : 0 < A) (hC : 0 < C) (hj : j < mm) (hm : mm ≤ 12) :
    i_CrossOf_b9 near (mm : Int) (A : Int) (C : Int) r6 (A : Int) (C : Int) s.1.1 s.1.2 s.2.1 s.2.2 (j : Int) = some (lrmap (fun s => (s.1.1, s.1.2, s.2.1, s.2.2, ((j + 1 : Nat) : Int))) (coStep A C near j s)) := by
  have hs := h.p.m.small
  have hpos : 0 < s.1.1.length := by rw [h.p.m.len]; exact Nat.mul_pos hA hC
  obtain ⟨_, e2⟩ := s_CrossOf_find (r6 := r6) h.p.g (by rw [h6, h.p.m.len]) hpos hs
  have e1 := i_CrossOf_find (r6 := r6) h.p.m h.p.g (by rw [h6, h.p.m.len]) hA hC
  unfold i_CrossOf_b9 coStep
  rw [dlt hj, bsel_true, e1, obind_eq, osum_inl]
  generalize coBest s.1.1 = b at e2
  have d1 : b / C < A := (Nat.div_lt_iff_lt_mul hC).2 (by rw [← h.p.m.len]; exact e2)
  have d2 : b % C < C := Nat.mod_lt _ hC
  unfold i_CrossOf_k7 coPick
  rw [i_Matrix_at_eq _ h.p.m d1 d2, obind_eq, getD_gm (A := A), i_absolute_eq (h.p.g.getD _), obind_eq]
  cases fle .f32 (fabs32 (s.1.1.getD b none)) near with
  | true => rfl
  | false =>
    have hT := coTake_inv (i := b / C) (k := b % C) (R := s.1.1) (p := s.1.1.getD b none) h.p
    rw [bsel_false, cond_false, i_Matrix_row_eq _ h.p.m d1, obind_eq, i_Matrix_column_eq h.p.m d2, obind_eq, i_CrossOf_take h.p.m h6 h.p d1 d2, obind_eq, osum_inl]
    generalize coTake A C s.1.1 (b / C) (b % C) (s.1.1.getD b none) s.1 = t at hT
    unfold i_CrossOf_k8
    have ap1 : apok 8 s.2.1.length 1 = true := by simp [apok, h.r]; omega
    have ap2 : apok 8 s.2.2.length 1 = true := by simp [apok, h.c]; omega
    rw [i_ValidMatrix_eq _ _ hT.g hT.m.le, mat_valid hT.m hA hC, i_ValidMatrix_eq _ _ hT.h hT.n.le, mat_valid hT.n hA hC, obind_eq, obind_eq, ap1, ap2, need_true, need_true, wsucc (by omega)]
    cases t.1.all fin32 <;> cases t.2.all fin32 <;> rfl
theorem CrossOf_loops {A C mm : Nat} {near : F} {L : List F} (m : Mat A C L) (g : FOks L) (hA : 0 < A) (hC : 0 < C) (hm : mm ≤ 12) :
    ∃ q, loopM (s_CrossOf_s15 (A : Int) (C : Int) near (A : Int) (C : Int) L (A : Int) (C : Int)) (L, List.replicate (A * C) (some 0), [], [], (mm : Int)) = some q ∧ loopM (i_CrossOf_s9 near (mm : Int) (A : Int) (C : Int) L (A : Int) (C : Int)) (L, List.replicate (A * C) (some 0), [], [], 0) = some q ∧ ((∃ e, q = .inl e ∧ (e.1.length ≤ 1048576 ∧ e.2.1.length ≤ 1048576 ∧ e.2.2.length ≤ 1048576)) ∨ ∃ r, q = .inr r ∧ r = (0, 0, false, [], [], [])) := by
  have h0 : CInv A C 0 ((L, List.replicate (A * C) (some 0)), [], []) := ⟨⟨m, g, zmat m.A1 m.C1, fun c hc => by rw [(List.mem_replicate.1 hc).2]; exact zero_ok⟩, rfl, rfl⟩
  refine ⟨runL (coStep A C near) (fun s => (s.1.2, s.2.1, s.2.2)) 0 (mm - 0) ((L, List.replicate (A * C) (some 0)), [], []), ?_, ?_, ?_⟩
  · have e := loop_runL (step := s_CrossOf_s15 (A : Int) (C : Int) near (A : Int) (C : Int) L (A : Int) (C : Int)) (fun (j : Nat) (s : CO) => (s.1.1, s.1.2, s.2.1, s.2.2, (mm : Int) - (j : Int))) (coStep A C near) (fun s => (s.1.2, s.2.1, s.2.2)) (fun j s => CInv A C j s) (lo := 0) (n := mm) (Nat.zero_le _) h0
      (fun j s _ hj hI => ⟨s_CrossOf_step L m.len hI hA hC hj hm, fun s' e => coStep_inv hI e⟩)
      (fun s _ => by
        show s_CrossOf_b15 _ _ _ _ _ _ _ _ _ _ _ _ _ = _
        unfold s_CrossOf_b15
        rw [show decide ((0 : Int) < (mm : Int) - (mm : Int)) = false by simp, bsel_false])
    have hz : (mm : Int) - ((0 : Nat) : Int) = (mm : Int) := by omega
    rw [hz] at e
    exact e
  · exact loop_runL (step := i_CrossOf_s9 near (mm : Int) (A : Int) (C : Int) L (A : Int) (C : Int)) (fun (j : Nat) (s : CO) => (s.1.1, s.1.2, s.2.1, s.2.2, (j : Int))) (coStep A C near) (fun s => (s.1.2, s.2.1, s.2.2)) (fun j s => CInv A C j s) (lo := 0) (n := mm) (Nat.zero_le _) h0
      (fun j s _ hj hI => ⟨i_CrossOf_step L m.len hI hA hC hj hm, fun s' e => coStep_inv hI e⟩)
      (fun s _ => by
        show i_CrossOf_b9 _ _ _ _ _ _ _ _ _ _ _ _ = _
        unfold i_CrossOf_b9
        rw [dnlt, bsel_false])
  · exact runL_post (fun j s => CInv A C j s) _ _ (mm - 0) 0 _ h0 (fun j s _ hj hI => ⟨fun s' e => coStep_inv hI e, (coStep_post hI (by omega)).1, (coStep_post hI (by omega)).2⟩) (fun s hI => ⟨hI.p.n.le, by show s.2.1.length ≤ _; have := hI.r; omega, by show s.2.2.length ≤ _; have := hI.c; omega⟩)
theorem CrossOf_eq (a0 a1 : Int) (a2 : List F) (a3 : F) (a4 : Int) (g : FOks a2) (g3 : FOk .f32 a3) (s2 : a2.length ≤ 1048576) : ∃ x y b L r c, s_CrossOf a0 a1 a2 a3 a4 = some (x, y, b, L, r, c) ∧ i_CrossOf a0 a1 a2 a3 a4 = some (x, y, b, L, r, c) ∧ L.length ≤ 1048576 ∧ r.length ≤ 1048576 ∧ c.length ≤ 1048576 := by
  unfold s_CrossOf i_CrossOf
  rw [s_l02Is_eq a0 a1 g s2, i_ValidMatrix_eq a0 a1 g s2, obind_eq, obind_eq]
  cases hv : validM a0 a1 a2 with
  | false => exact ⟨_, _, _, _, _, _, rfl, rfl, by simp, by simp, by simp⟩
  | true =>
    rw [bsel_true, bsel_true, s_l02Least_eq g3, i_IsFinite_eq g3, obind_eq, obind_eq]
    cases hf : fin32 a3 with
    | false => exact ⟨_, _, _, _, _, _, rfl, rfl, by simp, by simp, by simp⟩
    | true =>
      rw [bsel_true, Bool.true_and]
      cases hl : flt .f32 a3 (some 0) with
      | true => exact ⟨_, _, _, _, _, _, rfl, rfl, by simp, by simp, by simp⟩
      | false =>
        rw [Bool.not_false, bsel_true, bsel_false, s_l00In_eq, i_isSide_eq, obind_eq, obind_eq]
        unfold side
        cases hr : decide (1 ≤ a4) && decide (a4 ≤ 12) with
        | false => exact ⟨_, _, _, _, _, _, rfl, rfl, by simp, by simp, by simp⟩
        | true =>
          rw [bsel_true, bsel_true]
          simp only [Bool.and_eq_true, decide_eq_true_eq] at hr
          obtain ⟨A, C, rfl, rfl, A0, C0, m, f⟩ := valid_mat hv
          obtain ⟨q, rfl⟩ : ∃ q : Nat, a4 = (q : Int) := ⟨a4.toNat, by omega⟩
          obtain ⟨z, e1, e2, h⟩ := CrossOf_loops (near := a3) (mm := q) m g A0 C0 (by omega)
          rw [s_l02Own_eq _ _ s2, i_Matrix_clone_eq _ _ s2, obind3_eq, obind3_eq, s_l02Zero_eq m.A1 m.C1, i_newMatrix_eq m.A1 m.C1, obind3_eq, obind3_eq, e1, e2, obind_eq, obind_eq]
          rcases h with ⟨e, rfl, h1, h2, h3⟩ | ⟨r, rfl, rfl⟩
          · exact ⟨_, _, _, _, _, _, rfl, rfl, h1, h2, h3⟩
          · exact ⟨_, _, _, _, _, _, rfl, rfl, by simp, by simp, by simp⟩
theorem w_FnExactCrossOf_true (a0 : Int) (a1 : Int) (a2 : List F) (a3 : F) (a4 : Int) (s_a2 : Small a2) (g_a2 : FOks a2) (g_a3 : FOk .f32 a3) : w_FnExactCrossOf a0 a1 a2 a3 a4 = some true := by
  obtain ⟨l0, e0, h0⟩ := w_szFloat32S_ex a2 1048576 s_a2 (by omega) (by omega)
  rcases Int.lt_or_le l0 0 with c0 | c0
  · simp [w_FnExactCrossOf, w_eqMatrix, w_heldMatrix, w_markMatrix_02o, w_szMatrix, w_toMatrix, e0, c0]
  have d0 : decide (l0 < 0) = false := by simp; omega
  have t0 := h0 c0
  have t_a2 : a2.length ≤ 1048576 := by omega
  have f1 : w_toFloat32S a2 = some a2 := w_toFloat32S_eq a2 t_a2
  obtain ⟨z0, z1, z2, z3, z4, z5, p1, p2, b_z3, b_z4, b_z5⟩ := CrossOf_eq a0 a1 a2 a3 a4 g_a2 g_a3 t_a2
  have f2 : w_eqFloat32S z3 z3 = some true := w_eqFloat32S_refl z3 b_z3
  have f3 : w_eqInt64S z4 z4 = some true := w_eqInt64S_refl z4 b_z4
  have f4 : w_eqInt64S z5 z5 = some true := w_eqInt64S_refl z5 b_z5
  have f5 : (!(z2 == z2)) = false := by cases z2 <;> rfl
  have f6 : w_eqFloat32S a2 a2 = some true := w_eqFloat32S_refl a2 t_a2
  have f7 : w_markFloat32S_0o 1 a2 = some ((1 + (a2.length : Int)), marks 1 a2.length) := w_markFloat32S_0o_eq 1 a2 (by omega) (by omega) t_a2
  have f8 : decide ((1 + (a2.length : Int)) < 0) = false := by simp <;> omega
  have f9 : w_markFloat32S_0o 1 z3 = some ((1 + (z3.length : Int)), marks 1 z3.length) := w_markFloat32S_0o_eq 1 z3 (by omega) (by omega) b_z3
  have f10 : w_markInt64S_0o (1 + (z3.length : Int)) z4 = some (((1 + (z3.length : Int)) + (z4.length : Int)), marksI (1 + (z3.length : Int)) z4.length) := w_markInt64S_0o_eq (1 + (z3.length : Int)) z4 (by omega) (by omega) b_z4
  have f11 : w_markInt64S_0o ((1 + (z3.length : Int)) + (z4.length : Int)) z5 = some ((((1 + (z3.length : Int)) + (z4.length : Int)) + (z5.length : Int)), marksI ((1 + (z3.length : Int)) + (z4.length : Int)) z5.length) := w_markInt64S_0o_eq ((1 + (z3.length : Int)) + (z4.length : Int)) z5 (by omega) (by omega) b_z5
  have f12 : w_heldFloat32S (marks 1 z3.length) 1 = some (1 + (z3.length : Int)) := w_heldFloat32S_eq 1 z3.length (by omega) (by omega) b_z3
  have f13 : decide ((1 + (z3.length : Int)) < 0) = false := by simp <;> omega
  have f14 : w_heldInt64S (marksI (1 + (z3.length : Int)) z4.length) (1 + (z3.length : Int)) = some ((1 + (z3.length : Int)) + (z4.length : Int)) := w_heldInt64S_eq (1 + (z3.length : Int)) z4.length (by omega) (by omega) b_z4
  have f15 : decide (((1 + (z3.length : Int)) + (z4.length : Int)) < 0) = false := by simp <;> omega
  have f16 : w_heldInt64S (marksI ((1 + (z3.length : Int)) + (z4.length : Int)) z5.length) ((1 + (z3.length : Int)) + (z4.length : Int)) = some (((1 + (z3.length : Int)) + (z4.length : Int)) + (z5.length : Int)) := w_heldInt64S_eq ((1 + (z3.length : Int)) + (z4.length : Int)) z5.length (by omega) (by omega) b_z5
  have f17 : decide ((((1 + (z3.length : Int)) + (z4.length : Int)) + (z5.length : Int)) < 0) = false := by simp <;> omega
  simp only [w_FnExactCrossOf, w_eqMatrix, w_heldMatrix, w_markMatrix_02o, w_szMatrix, w_toMatrix, e0, d0, f1, p1, p2, f2, f3, f4, f5, f6, f7, f8, f9, f10, f11, f12, f13, f14, f15, f16, f17, obind_eq, obind2_eq, obind3_eq, obind4_eq, obind5_eq, obind6_eq, obind7_eq, obind8_eq, bsel_true, bsel_false, need_true, olet_eq, marks_len, marksI_len, decide_true, Bool.not_true, Bool.not_false]

end Go.Proofs.Ytjbifkimffmhpaa
