/- The plain law of FnExactUpdatedSolve. -/
import Derived.Test.YtjdonddobkpghaaGreatG2
namespace Go.Proofs.YtjdonddobkpghaaGreat
set_option linter.unusedSimpArgs false
set_option linter.unusedVariables false
open Go Go.AM
def Small {α : Type} (l : List α) : Prop := l.length ≤ 9223372036854775807
theorem sz_one (n : Nat) (a : Int) (hn : n ≤ 9223372036854775807) (h0 : 0 ≤ a) (h1 : a ≤ 1048576) :
    ∃ r, olet (IntKind.i64.wrap (a - (n : Int))) (fun x1 => bsel (decide (x1 < 0)) (some (-1)) (some x1)) = some r ∧ (0 ≤ r → (n : Int) ≤ a ∧ r ≤ a) := by
  rw [wrap_i64 (by omega) (by omega)]
  simp only [olet_eq, bsel_if, decide_eq_true_eq]
  split
  · exact ⟨_, rfl, fun h => by omega⟩
  · exact ⟨_, rfl, fun h => by omega⟩
theorem w_szFloat32S_ex (l : List F) (a : Int) (hn : Small l) (h0 : 0 ≤ a) (h1 : a ≤ 1048576) : ∃ r, w_szFloat32S l a = some r ∧ (0 ≤ r → (l.length : Int) ≤ a ∧ r ≤ a) := sz_one l.length a hn h0 h1
theorem w_szInt64S_ex (l : List Int) (a : Int) (hn : Small l) (h0 : 0 ≤ a) (h1 : a ≤ 1048576) : ∃ r, w_szInt64S l a = some r ∧ (0 ≤ r → (l.length : Int) ≤ a ∧ r ≤ a) := sz_one l.length a hn h0 h1
theorem w_toFloat32S_eq (a : List F) (h : a.length ≤ 1048576) : w_toFloat32S a = some a := by
  unfold w_toFloat32S
  have hm : mkok 4 (a.length : Int) = true := by simp [mkok]; omega
  rw [hm, need_true, loop_copy (a := a) (ρ := List F) ?_ ?_ _ (by simp)]
  · rfl
  · intro L v x h0 hv hx hL
    show w_toFloat32S_b1 a L v = _
    unfold w_toFloat32S_b1
    have hs := setAt?_of (l := L) (x := x) h0 (by omega)
    simp [bsel_if, hv, at?_of h0 hx, hs, wrap_succ h0 hv (by omega : a.length ≤ 9223372036854775807)]
  · intro L hL
    show w_toFloat32S_b1 a L (a.length : Int) = _
    unfold w_toFloat32S_b1
    simp [bsel_if]
theorem w_toInt64S_eq (a : List Int) (h : a.length ≤ 1048576) : w_toInt64S a = some a := by
  unfold w_toInt64S
  have hm : mkok 8 (a.length : Int) = true := by simp [mkok]; omega
  rw [hm, need_true, loop_copy (a := a) (ρ := List Int) ?_ ?_ _ (by simp)]
  · rfl
  · intro L v x h0 hv hx hL
    show w_toInt64S_b1 a L v = _
    unfold w_toInt64S_b1
    have hs := setAt?_of (l := L) (x := x) h0 (by omega)
    simp [bsel_if, hv, at?_of h0 hx, hs, wrap_succ h0 hv (by omega : a.length ≤ 9223372036854775807)]
  · intro L hL
    show w_toInt64S_b1 a L (a.length : Int) = _
    unfold w_toInt64S_b1
    simp [bsel_if]
theorem w_sameFloat_refl (c : F) : w_sameFloat c c = some true := by
  unfold w_sameFloat
  cases h : feq .f64 c c <;> simp [w_sameFloat_k1, h, bsel_if]
theorem w_eqFloat32S_refl (a : List F) (h : a.length ≤ 1048576) : w_eqFloat32S a a = some true := by
  unfold w_eqFloat32S
  rw [loop_eq (l := a) (m := a) rfl ?_ ?_]
  · simp [bsel_if, w_eqFloat32S_k1]
  · intro v x y h0 hv hx hy
    rw [hx] at hy; cases hy
    show w_eqFloat32S_b1 a a v = _
    unfold w_eqFloat32S_b1
    rw [at?_of h0 hx, wrap_succ h0 hv (by omega)]
    simp [bsel_if, hv, w_sameFloat_refl]
  · show w_eqFloat32S_b1 a a (a.length : Int) = _
    unfold w_eqFloat32S_b1
    simp [bsel_if]
theorem w_eqInt64S_refl (a : List Int) (h : a.length ≤ 1048576) : w_eqInt64S a a = some true := by
  unfold w_eqInt64S
  rw [loop_eq (l := a) (m := a) rfl ?_ ?_]
  · simp [bsel_if, w_eqInt64S_k1]
  · intro v x y h0 hv hx hy
    rw [hx] at hy; cases hy
    show w_eqInt64S_b1 a a v = _
    unfold w_eqInt64S_b1
    rw [at?_of h0 hx, wrap_succ h0 hv (by omega)]
    simp [bsel_if, hv]
  · show w_eqInt64S_b1 a a (a.length : Int) = _
    unfold w_eqInt64S_b1
    simp [bsel_if]
def FOks (l : List F) : Prop := ∀ c ∈ l, FOk .f32 c
theorem FOks.at {l : List F} (h : FOks l) {i : Nat} {c : F} (e : l[i]? = some c) : FOk .f32 c := h c (List.mem_of_getElem? e)
theorem s_l00In_eq (n lo hi : Int) : s_l00In n lo hi = some (decide (lo ≤ n) && decide (n ≤ hi)) := by
  unfold s_l00In; cases decide (lo ≤ n) <;> rfl
theorem i_inRange_eq (n lo hi : Int) : i_inRange n lo hi = some (decide (lo ≤ n) && decide (n ≤ hi)) := by
  unfold i_inRange; cases decide (lo ≤ n) <;> rfl
theorem s_l01Finite_eq {c : F} (h : FOk .f32 c) : s_l01Finite c = some (fin32 c) := by
  unfold s_l01Finite; rw [olet_eq, sub_self h]
theorem s_l02Finite_eq {a : List F} (ha : FOks a) (sa : a.length ≤ 1048576) : s_l02Finite a = some (a.all fin32) := by
  unfold s_l02Finite
  rw [loop_all (l := a) (p := fin32) false ?_ ?_]
  · cases h : a.all fin32 <;> simp [s_l02Finite_k1]
  · intro v x h0 hv hx
    show s_l02Finite_b1 a v = _
    unfold s_l02Finite_b1
    rw [at?_of h0 hx, wrap_succ h0 hv (by omega)]
    simp [bsel_if, hv, s_l01Finite_eq (ha.at hx)]
  · show s_l02Finite_b1 a (a.length : Int) = _
    unfold s_l02Finite_b1
    simp [bsel_if]
theorem i_IsFinite_eq {c : F} (h : FOk .f32 c) : i_IsFinite c = some (fin32 c) := by
  unfold i_IsFinite i_isFinite64 x_math_IsNaN x_math_IsInf x_math_Abs x_math_IsInf_k1
  cases c with
  | none => simp [fwiden, fin32]
  | some b =>
    have hw := feq_refl (k := .f64) (b := FloatKind.f64.encode (FloatKind.f32.decode b)) (fwiden_ok h)
    have hw' : feq .f64 (fwiden (some b)) (fwiden (some b)) = true := hw
    have hm := fabs_max h (by simp)
    simp only [olet_eq, obind_eq, hw', Bool.not_true, bsel_false, decide_true, bsel_true, hm, Bool.not_not]
theorem i_areFinite_1_eq {c : F} (h : FOk .f32 c) : i_areFinite_1 c = some (!fin32 c) := by
  unfold i_areFinite_1; rw [i_IsFinite_eq h]; rfl
theorem any_not {α : Type} (l : List α) (p : α → Bool) : l.any (fun x => !p x) = !l.all p := by
  induction l with
  | nil => rfl
  | cons a l ih => simp [ih]
theorem i_areFinite_eq {a : List F} (ha : FOks a) (sa : a.length ≤ 1048576) : i_areFinite a = some (a.all fin32) := by
  unfold i_areFinite x_slices_ContainsFunc_float32_float32_1Fi_areFinite_1 x_slices_IndexFunc_float32_float32_1Fi_areFinite_1
  obtain ⟨r, h1, h2⟩ := loop_find (l := a) (p := fun c => !fin32 c) (step := x_slices_IndexFunc_float32_float32_1Fi_areFinite_1_s1 a) (by
    intro v x h0 hv hx
    show x_slices_IndexFunc_float32_float32_1Fi_areFinite_1_b1 a v = _
    unfold x_slices_IndexFunc_float32_float32_1Fi_areFinite_1_b1
    rw [at?_of h0 hx, wrap_succ h0 hv (by omega)]
    simp [bsel_if, hv, i_areFinite_1_eq (ha.at hx)]) (by
    show x_slices_IndexFunc_float32_float32_1Fi_areFinite_1_b1 a (a.length : Int) = _
    unfold x_slices_IndexFunc_float32_float32_1Fi_areFinite_1_b1
    simp [bsel_if])
  rw [h1, any_not]
  cases h : a.all fin32 <;> simp [x_slices_IndexFunc_float32_float32_1Fi_areFinite_1_k1, h2]
theorem fint_ok (n : Int) : FOk .f32 (fint .f32 n) := ⟨_, encode_FR .f32 (d := .number (n < 0) n.natAbs 0) rfl⟩
theorem feq_fint (n : Int) : feq .f32 (fint .f32 n) (fint .f32 n) = true := feq_refl (fint_ok n)
def marks (k : Int) (n : Nat) : List F := (List.range n).map fun (i : Nat) => fint .f32 (k + (i : Int))
def marksI (k : Int) (n : Nat) : List Int := (List.range n).map fun (i : Nat) => k + (i : Int)
theorem marks_len (k : Int) (n : Nat) : (marks k n).length = n := by simp [marks]
theorem marksI_len (k : Int) (n : Nat) : (marksI k n).length = n := by simp [marksI]
theorem loop_mark {α ρ : Type} (mk : Int → α) (k : Int) (n : Nat) {step : List α × Int × Int → Option (LR (List α × Int × Int) (List α × Int) ρ)}
    (hstep : ∀ (L : List α) (i : Nat), i < n → L.length = n → step (L, k + (i : Int), (i : Int)) = some (.next (L.set i (mk (k + (i : Int))), k + ((i + 1 : Nat) : Int), ((i + 1 : Nat) : Int))))
    (hend : ∀ L : List α, L.length = n → step (L, k + (n : Int), (n : Int)) = some (.out (L, k + (n : Int)))) (a : List α) (ha : a.length = n) :
    loopM step (a, k, 0) = some (.inl ((List.range n).map (fun (i : Nat) => mk (k + (i : Int))), k + (n : Int))) := by
  have key : ∀ (m i : Nat) (L : List α), m + i = n → L.length = n → L.take i = (List.range i).map (fun (i : Nat) => mk (k + (i : Int))) → loopM step (L, k + (i : Int), (i : Int)) = some (.inl ((List.range n).map (fun (i : Nat) => mk (k + (i : Int))), k + (n : Int))) := by
    intro m
    induction m with
    | zero =>
      intro i L hi hL ht
      have : i = n := by omega
      subst this
      rw [loopM_out (hend L hL), ← ht, ← hL, List.take_length]
    | succ m ih =>
      intro i L hi hL ht
      rw [loopM_next (hstep L i (by omega) hL)]
      refine ih (i + 1) _ (by omega) (by simpa using hL) ?_
      rw [List.take_succ_eq_append_getElem (by simp; omega), List.take_set_of_le (Nat.le_refl _), ht, List.range_succ, List.map_append]
      simp
  have := key n 0 a (by omega) ha (by simp)
  simpa using this
theorem w_markFloat32S_0o_eq (k : Int) (a : List F) (h0 : -1000000000 ≤ k) (h1 : k ≤ 1000000000) (ha : a.length ≤ 1048576) : w_markFloat32S_0o k a = some (k + (a.length : Int), marks k a.length) := by
  unfold w_markFloat32S_0o
  rw [loop_mark (fun n => fint .f32 n) k a.length (step := w_markFloat32S_0o_s1 a) ?_ ?_ a rfl]
  · rfl
  · intro L i hi hL
    show w_markFloat32S_0o_b1 a L (k + (i : Int)) (i : Int) = _
    unfold w_markFloat32S_0o_b1
    have hs := setAt?_of (l := L) (v := (i : Int)) (x := fint .f32 (k + (i : Int))) (by omega) (by omega)
    have e1 : IntKind.i64.wrap (k + (i : Int) + 1) = k + ((i + 1 : Nat) : Int) := by rw [wrap_i64 (by omega) (by omega)]; omega
    have e2 : IntKind.i64.wrap ((i : Int) + 1) = ((i + 1 : Nat) : Int) := by rw [wrap_i64 (by omega) (by omega)]; omega
    simp only [olet_eq, hs, obind_eq, e1, e2, bsel_if, decide_eq_true_eq]
    rw [if_pos (by omega)]
    rfl
  · intro L hL
    show w_markFloat32S_0o_b1 a L (k + (a.length : Int)) (a.length : Int) = _
    unfold w_markFloat32S_0o_b1
    simp [bsel_if]
theorem w_markInt64S_0o_eq (k : Int) (a : List Int) (h0 : -1000000000 ≤ k) (h1 : k ≤ 1000000000) (ha : a.length ≤ 1048576) : w_markInt64S_0o k a = some (k + (a.length : Int), marksI k a.length) := by
  unfold w_markInt64S_0o
  rw [loop_mark (fun n => n) k a.length (step := w_markInt64S_0o_s1 a) ?_ ?_ a rfl]
  · rfl
  · intro L i hi hL
    show w_markInt64S_0o_b1 a L (k + (i : Int)) (i : Int) = _
    unfold w_markInt64S_0o_b1
    have hs := setAt?_of (l := L) (v := (i : Int)) (x := k + (i : Int)) (by omega) (by omega)
    have e1 : IntKind.i64.wrap (k + (i : Int) + 1) = k + ((i + 1 : Nat) : Int) := by rw [wrap_i64 (by omega) (by omega)]; omega
    have e2 : IntKind.i64.wrap ((i : Int) + 1) = ((i + 1 : Nat) : Int) := by rw [wrap_i64 (by omega) (by omega)]; omega
    simp only [olet_eq, hs, obind_eq, e1, e2, bsel_if, decide_eq_true_eq]
    rw [if_pos (by omega)]
    rfl
  · intro L hL
    show w_markInt64S_0o_b1 a L (k + (a.length : Int)) (a.length : Int) = _
    unfold w_markInt64S_0o_b1
    simp [bsel_if]
theorem loop_held {k : Int} {n : Nat} {step : Int × Int → Option (LR (Int × Int) Int Int)}
    (hstep : ∀ i : Nat, i < n → step (k + (i : Int), (i : Int)) = some (.next (k + ((i + 1 : Nat) : Int), ((i + 1 : Nat) : Int)))) (hend : step (k + (n : Int), (n : Int)) = some (.out (k + (n : Int)))) :
    loopM step (k, 0) = some (.inl (k + (n : Int))) := by
  have key : ∀ (m i : Nat), m + i = n → loopM step (k + (i : Int), (i : Int)) = some (.inl (k + (n : Int))) := by
    intro m
    induction m with
    | zero => intro i hi; have : i = n := by omega
              subst this; exact loopM_out hend
    | succ m ih => intro i hi; rw [loopM_next (hstep i (by omega))]; exact ih (i + 1) (by omega)
  have := key n 0 (by omega)
  simpa using this
theorem w_heldFloat32S_eq (k : Int) (n : Nat) (h0 : -1000000000 ≤ k) (h1 : k ≤ 1000000000) (hn : n ≤ 1048576) : w_heldFloat32S (marks k n) k = some (k + (n : Int)) := by
  unfold w_heldFloat32S
  rw [loop_held (k := k) (n := n) (step := w_heldFloat32S_s1 (marks k n)) ?_ ?_]
  · rfl
  · intro i hi
    show w_heldFloat32S_b1 (marks k n) (k + (i : Int)) (i : Int) = _
    unfold w_heldFloat32S_b1
    have hx : (marks k n)[(i : Int).toNat]? = some (fint .f32 (k + (i : Int))) := by simp [marks, hi]
    have e1 : IntKind.i64.wrap (k + (i : Int) + 1) = k + ((i + 1 : Nat) : Int) := by rw [wrap_i64 (by omega) (by omega)]; omega
    have e2 : IntKind.i64.wrap ((i : Int) + 1) = ((i + 1 : Nat) : Int) := by rw [wrap_i64 (by omega) (by omega)]; omega
    rw [at?_of (by omega) hx]
    simp only [olet_eq, obind_eq, e1, e2, bsel_if, decide_eq_true_eq, marks_len, feq_fint]
    rw [if_pos (by omega)]
    simp
  · show w_heldFloat32S_b1 (marks k n) (k + (n : Int)) (n : Int) = _
    unfold w_heldFloat32S_b1
    simp [bsel_if, marks_len]
abbrev q1 : List F := [some 1073741824, some 1065353216, some 1065353216, some 1073741824]
theorem small_mul {x y : Nat} (hx : x ≤ 12) (hy : y ≤ 12) : x * y ≤ 144 := Nat.mul_le_mul hx hy
def side (n : Int) : Bool := decide (1 ≤ n) && decide (n ≤ 12)
theorem s_l02Sides_eq (x y : Int) : s_l02Sides x y = some (side x && side y) := by
  unfold s_l02Sides; rw [s_l00In_eq, s_l00In_eq]; unfold side
  cases decide (1 ≤ x) <;> cases decide (x ≤ 12) <;> rfl
theorem i_isSide_eq (x : Int) : i_isSide x = some (side x) := by
  unfold i_isSide; rw [i_inRange_eq]; rfl
def validM (a0 a1 : Int) (a2 : List F) : Bool := side a0 && side a1 && decide ((a2.length : Int) = IntKind.i64.wrap (a0 * a1)) && a2.all fin32
theorem s_l02Is_eq (a0 a1 : Int) {a2 : List F} (g2 : FOks a2) (s2 : a2.length ≤ 1048576) : s_l02Is a0 a1 a2 = some (validM a0 a1 a2) := by
  unfold s_l02Is validM
  rw [s_l02Sides_eq, s_l02Finite_eq g2 s2]
  cases side a0 <;> cases side a1 <;> simp [bsel_if] <;> split <;> simp_all
theorem i_ValidMatrix_eq (a0 a1 : Int) {a2 : List F} (g2 : FOks a2) (s2 : a2.length ≤ 1048576) : i_ValidMatrix a0 a1 a2 = some (validM a0 a1 a2) := by
  unfold i_ValidMatrix i_length_float32 validM
  rw [i_isSide_eq, i_isSide_eq, i_areFinite_eq g2 s2]
  cases side a0 <;> cases side a1 <;> simp [bsel_if] <;> split <;> simp_all
theorem side_nat {n : Int} (h : side n = true) : ∃ m : Nat, n = (m : Int) ∧ 0 < m ∧ m ≤ 12 := by
  simp [side] at h
  exact ⟨n.toNat, by omega, by omega, by omega⟩
theorem FOks.getD {l : List F} (h : FOks l) (n : Nat) : FOk .f32 (l.getD n none) := by
  simp only [List.getD]
  cases e : l[n]? with
  | none => exact fok_none _
  | some c => exact h.at e
theorem FOks.set {l : List F} (h : FOks l) {n : Nat} {x : F} (hx : FOk .f32 x) : FOks (l.set n x) := by
  intro c hc
  rcases List.mem_or_eq_of_mem_set hc with h1 | h1
  · exact h c h1
  · exact h1 ▸ hx
theorem wsucc {i : Nat} (h : i ≤ 1000000000) : IntKind.i64.wrap ((i : Int) + 1) = ((i + 1 : Nat) : Int) := by
  rw [wrap_i64 (by omega) (by omega)]; omega
theorem dlt {i n : Nat} (h : i < n) : decide ((i : Int) < (n : Int)) = true := by simp; omega
theorem dnlt {n : Nat} : decide ((n : Int) < (n : Int)) = false := by simp
theorem i_Matrix_at_eq {A C i k : Nat} {L : List F} (r : Int) (h : Mat A C L) (hi : i < A) (hk : k < C) : i_Matrix_at r (C : Int) L (i : Int) (k : Int) = some (gm none L C i k) := by
  obtain ⟨e1, e2⟩ := idx_w h.A1 h.C1 hi hk
  unfold i_Matrix_at
  rw [e1, olet_eq, e2, olet_eq, at?_n none (h.lt hi hk), obind_eq]
theorem s_l02At_eq {A C i k : Nat} {L : List F} (r : Int) (h : Mat A C L) (hi : i < A) (hk : k < C) : s_l02At r (C : Int) L (i : Int) (k : Int) = some (gm none L C i k) := by
  obtain ⟨e1, e2⟩ := idx_w h.A1 h.C1 hi hk
  unfold s_l02At
  rw [e1, olet_eq, e2, olet_eq, at?_n none (h.lt hi hk), obind_eq]
theorem i_mul_eq (a b : F) : i_mul a b = some (fop .mul .f32 a b) := rfl
def upTo (n : Nat) : List Int := (List.range n).map fun (i : Nat) => (i : Int)
theorem upTo_len (n : Nat) : (upTo n).length = n := by simp [upTo]
theorem s_l02Square_eq (a0 a1 : Int) {a2 : List F} (g2 : FOks a2) (s2 : a2.length ≤ 1048576) : s_l02Square a0 a1 a2 = some (validM a0 a1 a2 && decide (a0 = a1)) := by
  unfold s_l02Square
  rw [s_l02Is_eq a0 a1 g2 s2, obind_eq]
  cases validM a0 a1 a2 <;> rfl
theorem i_isSquare_eq (a0 a1 : Int) {a2 : List F} (g2 : FOks a2) (s2 : a2.length ≤ 1048576) : i_isSquare a0 a1 a2 = some (validM a0 a1 a2 && decide (a0 = a1)) := by
  unfold i_isSquare
  rw [i_ValidMatrix_eq a0 a1 g2 s2, obind_eq]
  cases validM a0 a1 a2 <;> rfl
theorem valid_mat {a0 a1 : Int} {a2 : List F} (h : validM a0 a1 a2 = true) : ∃ A C : Nat, a0 = (A : Int) ∧ a1 = (C : Int) ∧ 0 < A ∧ 0 < C ∧ Mat A C a2 ∧ a2.all fin32 = true := by
  simp only [validM, Bool.and_eq_true, decide_eq_true_eq] at h
  obtain ⟨⟨⟨v1, v2⟩, v3⟩, v4⟩ := h
  obtain ⟨A, rfl, A0, A1⟩ := side_nat v1
  obtain ⟨C, rfl, C0, C1⟩ := side_nat v2
  have hAC := small_mul A1 C1
  rw [← Int.natCast_mul, wn (by omega)] at v3
  exact ⟨A, C, rfl, rfl, A0, C0, ⟨A1, C1, by omega⟩, v4⟩
theorem run_map {α : Type} (f : Nat → α) : ∀ n : Nat, run (fun i (l : List α) => l ++ [f i]) 0 n [] = (List.range n).map f
  | 0 => rfl
  | n + 1 => by rw [run_last, run_map f n]; simp [List.range_succ]
def dotE (f g : Nat → F) (i : Nat) (y : F) : F := fop .add .f32 y (fop .mul .f32 (f i) (g i))
def dotN (f g : Nat → F) (n : Nat) : F := run (dotE f g) 0 n (some 0)
theorem zero_ok : FOk .f32 (some 0) := ⟨0, rfl, by decide, rfl⟩
theorem dotN_ok (f g : Nat → F) (n : Nat) : FOk .f32 (dotN f g n) := run_inv (fun _ y => FOk .f32 y) n 0 (some 0) zero_ok fun _ _ _ _ _ => fop_fok _ _ _
theorem i_dot_eq {l m : List F} (hl : l.length ≤ m.length) (hs : l.length ≤ 1000000) : i_dot l m = some (dotN (fun i => l.getD i none) (fun i => m.getD i none) l.length) := by
  obtain ⟨e, _⟩ := loop_run (step := i_dot_s1 l m) (fun (i : Nat) (y : F) => (y, (i : Int))) (dotE (fun i => l.getD i none) (fun i => m.getD i none)) (fun y => y) (fun _ _ => True) (lo := 0) (n := l.length) (Nat.zero_le _) (s0 := some 0) trivial
    (fun i y _ hi _ => by
      refine ⟨?_, trivial⟩
      show i_dot_b1 _ _ _ _ = _
      unfold i_dot_b1
      rw [dlt hi, bsel_true, at?_n none hi, obind_eq, at?_n none (by omega), obind_eq, i_mul_eq, obind_eq, olet_eq, wsucc (by omega)]
      rfl)
    (fun y _ => by
      show i_dot_b1 _ _ _ _ = _
      unfold i_dot_b1
      rw [dnlt, bsel_false])
  unfold i_dot
  replace e : loopM (i_dot_s1 l m) (some 0, 0) = some (.inl (run (dotE (fun i => l.getD i none) (fun i => m.getD i none)) 0 (l.length - 0) (some 0))) := e
  rw [e]; rfl
abbrev gI (l : List Int) (i : Nat) : Int := l.getD i 0
structure SpIn (S : Nat) (a1 a2 : List Int) : Prop where
  S1 : 1 ≤ S
  S2 : S ≤ 32
  l1 : a1.length = S + 1
  l2 : a2.length ≤ 512
  z : gI a1 0 = 0
  e : gI a1 S = (a2.length : Int)
structure SpGood (S : Nat) (a1 a2 : List Int) : Prop where
  s : ∀ i, i < S → gI a1 i ≤ gI a1 (i + 1)
  c : ∀ k, k < a2.length → 0 ≤ gI a2 k ∧ gI a2 k ≤ (S : Int) - 1
  o : ∀ i, i < S → ∀ k : Nat, gI a1 i < (k : Int) → (k : Int) < gI a1 (i + 1) → gI a2 (k - 1) < gI a2 k
theorem SpGood.mono {S : Nat} {a1 a2 : List Int} (h : SpGood S a1 a2) : ∀ (d i : Nat), i + d ≤ S → gI a1 i ≤ gI a1 (i + d)
  | 0, i, _ => Int.le_refl _
  | d + 1, i, hd => Int.le_trans (h.mono d i (by omega)) (h.s (i + d) (by omega))
theorem SpGood.lo {S : Nat} {a1 a2 : List Int} (h : SpGood S a1 a2) (i0 : SpIn S a1 a2) {i : Nat} (hi : i ≤ S) : 0 ≤ gI a1 i ∧ gI a1 i ≤ (a2.length : Int) := by
  have h1 := h.mono i 0 (by omega)
  have h2 := h.mono (S - i) i (by omega)
  rw [Nat.zero_add, i0.z] at h1
  rw [show i + (S - i) = S by omega, i0.e] at h2
  exact ⟨h1, h2⟩
def zipW (f : F → F → F) (n : Nat) (l m : List F) : List F := (List.range n).map fun i => f (l.getD i none) (m.getD i none)
def fms (t x y : F) : F := fop .sub .f32 x (fop .mul .f32 t y)
structure SpOk (S : Nat) (a1 a2 : List Int) (a3 : List F) : Prop where
  i : SpIn S a1 a2
  g : SpGood S a1 a2
  l : a3.length = a2.length
theorem at?_i {α : Type} {L : List α} {v : Int} (d : α) (h0 : 0 ≤ v) (h : v.toNat < L.length) : at? L v = some (L.getD v.toNat d) := at?_of h0 (by simp [List.getD, h])
theorem SpOk.row {S : Nat} {a1 a2 : List Int} {a3 : List F} (h : SpOk S a1 a2 a3) {i : Nat} (hi : i < S) : 0 ≤ gI a1 i ∧ gI a1 i ≤ gI a1 (i + 1) ∧ gI a1 (i + 1) ≤ (a2.length : Int) :=
  ⟨(h.g.lo h.i (by omega)).1, h.g.s i hi, (h.g.lo h.i (i := i + 1) (by omega)).2⟩
abbrev GrS := List F × List F × List F × F
def gR (S : Nat) (q : List F) (t : F) (s : GrS) : List F := zipW (fms t) S s.2.1 q
def loK (a1 : List Int) (i : Nat) : Nat := (gI a1 i).toNat
def laK (a1 : List Int) (i : Nat) : Nat := (gI a1 (i + 1)).toNat - 1
structure Root (S : Nat) (a1 a2 : List Int) (a3 : List F) : Prop where
  ok : SpOk S a1 a2 a3
  low : ∀ i, i < S → gI a1 i ≤ gI a1 (i + 1) - 1 ∧ gI a2 (laK a1 i) = (i : Int)
theorem Root.at {S : Nat} {a1 a2 : List Int} {a3 : List F} (h : Root S a1 a2 a3) {i : Nat} (hi : i < S) : loK a1 i ≤ laK a1 i ∧ laK a1 i < a2.length ∧ ((laK a1 i : Nat) : Int) = gI a1 (i + 1) - 1 ∧ ((loK a1 i : Nat) : Int) = gI a1 i := by
  obtain ⟨r1, r2, r3⟩ := h.ok.row hi
  obtain ⟨q1, _⟩ := h.low i hi
  unfold loK laK
  omega
def vget (v : List F) (x : Int) : F := v.getD x.toNat none
def Names (n : Nat) (L : List Int) : Prop := ∀ x ∈ L, 0 ≤ x ∧ x < (n : Int)
theorem Names.at {n : Nat} {L : List Int} (h : Names n L) {j : Nat} (hj : j < L.length) : 0 ≤ L.getD j 0 ∧ L.getD j 0 < (n : Int) := by
  rw [List.getD_eq_getElem?_getD, List.getElem?_eq_getElem hj]
  exact h _ (List.getElem_mem hj)
theorem Names.set {n : Nat} {L : List Int} (h : Names n L) {j : Nat} {x : Int} (hx : 0 ≤ x ∧ x < (n : Int)) : Names n (L.set j x) := fun y hy => (List.mem_or_eq_of_mem_set hy).elim (fun k => h y k) (fun k => by rw [k]; exact hx)
def diagL (n : Nat) (L : List F) : List F := (List.range n).map fun i => gm none L n i i
theorem diagL_len {n : Nat} {L : List F} : (diagL n L).length = n := by simp [diagL]
theorem i_Matrix_middle_eq {n : Nat} {L : List F} (m : Mat n n L) : i_Matrix_middle (n : Int) (n : Int) L = some (diagL n L) := by
  have hn := m.A1
  have hm : imin (n : Int) (n : Int) = (n : Int) := by simp [imin]
  have e := (loop_run (step := i_Matrix_middle_s1 (n : Int) (n : Int) L) (fun (i : Nat) (l : List F) => (l, (i : Int))) (fun i l => l ++ [gm none L n i i]) (fun l => l) (fun i l => l.length = i) (lo := 0) (n := n) (Nat.zero_le _) (s0 := []) rfl
    (fun i l _ hi hl => by
      refine ⟨?_, by simp [hl]⟩
      show i_Matrix_middle_b1 _ _ _ _ _ = _
      unfold i_Matrix_middle_b1
      dsimp only
      have ap : apok 4 l.length 1 = true := by simp [apok, hl]; omega
      rw [hm, dlt hi, bsel_true, i_Matrix_at_eq _ m hi hi, obind_eq, ap, need_true, wsucc (by omega)]
      rfl)
    (fun l _ => by
      show i_Matrix_middle_b1 _ _ _ _ _ = _
      unfold i_Matrix_middle_b1
      rw [hm, dnlt, bsel_false])).1
  rw [Nat.sub_zero, run_map] at e
  unfold i_Matrix_middle
  replace e : loopM (i_Matrix_middle_s1 (n : Int) (n : Int) L) ([], 0) = some (.inl (diagL n L)) := e
  rw [e]; rfl
def swapG {α : Type} (d : α) (j : Nat) (L : List α) : List α := (L.set (j + 1) (L.getD j d)).set j (L.getD (j + 1) d)
def insG {α : Type} (d : α) (lt : α → α → Bool) : Nat → List α → List α
  | 0, L => L
  | j + 1, L => bif lt (L.getD (j + 1) d) (L.getD j d) then insG d lt j (swapG d j L) else L
theorem swapG_len {α : Type} {d : α} {j : Nat} {L : List α} : (swapG d j L).length = L.length := by simp [swapG]
theorem insG_len {α : Type} {d : α} {lt : α → α → Bool} : ∀ (j : Nat) (L : List α), (insG d lt j L).length = L.length
  | 0, _ => rfl
  | j + 1, L => by
    unfold insG
    cases lt (L.getD (j + 1) d) (L.getD j d) with
    | false => rfl
    | true => rw [cond_true, insG_len j, swapG_len]
theorem getD_appG {α : Type} {d : α} {P R : List α} {j : Nat} (h : j < P.length) : (P ++ R).getD j d = P.getD j d := by
  rw [List.getD_eq_getElem?_getD, List.getElem?_append_left h, ← List.getD_eq_getElem?_getD]
theorem swapG_app {α : Type} {d : α} {j : Nat} {P R : List α} (h : j + 1 < P.length) : swapG d j (P ++ R) = swapG d j P ++ R := by
  unfold swapG
  rw [getD_appG h, getD_appG (by omega), List.set_append_left _ _ h, List.set_append_left _ _ (by simp; omega)]
theorem insG_app {α : Type} {d : α} {lt : α → α → Bool} : ∀ (j : Nat) (P R : List α), j < P.length → insG d lt j (P ++ R) = insG d lt j P ++ R
  | 0, _, _, _ => rfl
  | j + 1, P, R, h => by
    unfold insG
    rw [getD_appG h, getD_appG (by omega)]
    cases lt (P.getD (j + 1) d) (P.getD j d) with
    | false => rfl
    | true => rw [cond_true, cond_true, swapG_app h]; exact insG_app j _ _ (by rw [swapG_len]; omega)
theorem swapG_end {α : Type} {d : α} (Q : List α) (a x : α) : swapG d Q.length (Q ++ [a, x]) = Q ++ [x, a] := by
  unfold swapG
  have e1 : (Q ++ [a, x]).getD Q.length d = a := by simp [List.getD_eq_getElem?_getD]
  have e2 : (Q ++ [a, x]).getD (Q.length + 1) d = x := by simp [List.getD_eq_getElem?_getD]
  rw [e1, e2, List.set_append_right _ _ (by omega), List.set_append_right _ _ (by omega)]
  simp
theorem insG_mem {α : Type} {d : α} {lt : α → α → Bool} : ∀ (j : Nat) (P : List α) (x : α), P.length = j → (insG d lt j (P ++ [x])).Perm (P ++ [x])
  | 0, _, _, _ => List.Perm.refl _
  | j + 1, P, x, h => by
    have hne : P ≠ [] := by intro e; rw [e] at h; cases h
    obtain ⟨Q, a, rfl⟩ : ∃ Q a, P = Q ++ [a] := ⟨P.dropLast, P.getLast hne, (List.dropLast_concat_getLast hne).symm⟩
    have hQ : Q.length = j := by simpa using h
    unfold insG
    have e0 : Q ++ [a] ++ [x] = Q ++ [a, x] := by simp
    have e1 : (Q ++ [a, x]).getD j d = a := by subst hQ; simp [List.getD_eq_getElem?_getD]
    have e2 : (Q ++ [a, x]).getD (j + 1) d = x := by subst hQ; simp [List.getD_eq_getElem?_getD]
    rw [e0, e1, e2]
    cases lt x a with
    | false => exact List.Perm.refl _
    | true =>
      rw [cond_true]
      have e3 : swapG d j (Q ++ [a, x]) = (Q ++ [x]) ++ [a] := by subst hQ; rw [swapG_end]; simp
      rw [e3, insG_app j _ _ (by simp; omega)]
      refine ((insG_mem j Q x hQ).append_right [a]).trans ?_
      rw [List.append_assoc]
      exact List.Perm.append_left Q (List.Perm.swap a x [])
theorem insG_sorted {α : Type} {d : α} {lt : α → α → Bool} (key : α → Nat) : ∀ (j : Nat) (P : List α) (x : α), P.length = j → (∀ a ∈ P, lt x a = decide (key x < key a)) → P.Pairwise (fun a b => key a ≤ key b) → (insG d lt j (P ++ [x])).Pairwise (fun a b => key a ≤ key b)
  | 0, P, x, h, _, _ => by
    have : P = [] := List.length_eq_zero_iff.1 h
    subst this
    simp [insG]
  | j + 1, P, x, h, hk, hp => by
    have hne : P ≠ [] := by intro e; rw [e] at h; cases h
    obtain ⟨Q, a, rfl⟩ : ∃ Q a, P = Q ++ [a] := ⟨P.dropLast, P.getLast hne, (List.dropLast_concat_getLast hne).symm⟩
    have hQ : Q.length = j := by simpa using h
    rw [List.pairwise_append] at hp
    obtain ⟨p1, _, p2⟩ := hp
    have p2 : ∀ q ∈ Q, key q ≤ key a := fun q hq => p2 q hq a (by simp)
    unfold insG
    have e0 : Q ++ [a] ++ [x] = Q ++ [a, x] := by simp
    have e1 : (Q ++ [a, x]).getD j d = a := by subst hQ; simp [List.getD_eq_getElem?_getD]
    have e2 : (Q ++ [a, x]).getD (j + 1) d = x := by subst hQ; simp [List.getD_eq_getElem?_getD]
    rw [e0, e1, e2, hk a (by simp)]
    by_cases hlt : key x < key a
    · rw [decide_eq_true hlt, cond_true]
      have e3 : swapG d j (Q ++ [a, x]) = (Q ++ [x]) ++ [a] := by subst hQ; rw [swapG_end]; simp
      rw [e3, insG_app j _ _ (by simp; omega), List.pairwise_append]
      refine ⟨insG_sorted key j Q x hQ (fun b hb => hk b (by simp [hb])) p1, by simp, fun b hb c hc => ?_⟩
      have hc : c = a := by simpa using hc
      subst hc
      have hb := (insG_mem j Q x hQ).mem_iff.1 hb
      rcases List.mem_append.1 hb with hb | hb
      · exact p2 b hb
      · have : b = x := by simpa using hb
        subst this; omega
    · rw [decide_eq_false hlt, cond_false, ← e0, List.pairwise_append, List.pairwise_append]
      refine ⟨⟨p1, by simp, fun q hq b hb => by have : b = a := by simpa using hb
                                                subst this; exact p2 q hq⟩, by simp, fun q hq b hb => ?_⟩
      have hb : b = x := by simpa using hb
      subst hb
      rcases List.mem_append.1 hq with hq | hq
      · have := p2 q hq; omega
      · have : q = a := by simpa using hq
        subst this; omega
def sortG {α : Type} (d : α) (lt : α → α → Bool) (L : List α) : Nat → List α
  | 0 => []
  | n + 1 => insG d lt n (sortG d lt L n ++ [L.getD n d])
theorem sortG_len {α : Type} {d : α} {lt : α → α → Bool} {L : List α} : ∀ n, (sortG d lt L n).length = n
  | 0 => rfl
  | n + 1 => by unfold sortG; rw [insG_len]; simp [sortG_len n]
theorem sortG_perm {α : Type} {d : α} {lt : α → α → Bool} {L : List α} : ∀ n, n ≤ L.length → (sortG d lt L n).Perm (L.take n)
  | 0, _ => by simp [sortG]
  | n + 1, h => by
    unfold sortG
    refine (insG_mem n _ _ (sortG_len n)).trans ?_
    rw [List.take_succ_eq_append_getElem (by omega)]
    have : L.getD n d = L[n] := by
      rw [List.getD_eq_getElem?_getD, List.getElem?_eq_getElem (by omega)]; rfl
    rw [this]
    exact (sortG_perm n (by omega)).append_right _
theorem sortG_mem {α : Type} {d : α} {lt : α → α → Bool} {L : List α} {n : Nat} (h : n ≤ L.length) {x : α} (hx : x ∈ sortG d lt L n) : x ∈ L := List.mem_of_mem_take ((sortG_perm n h).mem_iff.1 hx)
theorem sortG_sorted {α : Type} {d : α} {lt : α → α → Bool} {L : List α} (key : α → Nat) (hk : ∀ a ∈ L, ∀ b ∈ L, lt a b = decide (key a < key b)) : ∀ n, n ≤ L.length → (sortG d lt L n).Pairwise (fun a b => key a ≤ key b)
  | 0, _ => by simp [sortG]
  | n + 1, h => by
    unfold sortG
    refine insG_sorted key n _ _ (sortG_len n) (fun a ha => hk _ ?_ a (sortG_mem (by omega) ha)) (sortG_sorted key hk n (by omega))
    have : L.getD n d = L[n] := by
      rw [List.getD_eq_getElem?_getD, List.getElem?_eq_getElem (by omega)]; rfl
    rw [this]
    exact List.getElem_mem _
theorem wpredG {j : Nat} (h : j ≤ 1000000000) : IntKind.i64.wrap (((j + 1 : Nat) : Int) - 1) = (j : Int) := by rw [wrap_i64 (by omega) (by omega)]; omega
theorem loop_insG {α β ρ : Type} {d : α} {lt : α → α → Bool} {step : β × Int → Option (LR (β × Int) β ρ)} (f : List α → β) (h0 : ∀ L, step (f L, 0) = some (.out (f L))) (Ok : List α → Prop) (hok : ∀ j L, Ok L → j + 1 < L.length → Ok (swapG d j L))
    (hs : ∀ (j : Nat) (L : List α), Ok L → j + 1 < L.length → L.length ≤ 1000000 → step (f L, ((j + 1 : Nat) : Int)) = some (bif lt (L.getD (j + 1) d) (L.getD j d) then .next (f (swapG d j L), (j : Int)) else .out (f L))) :
    ∀ (j : Nat) (L : List α), Ok L → j < L.length → L.length ≤ 1000000 → loopM step (f L, (j : Int)) = some (.inl (f (insG d lt j L)))
  | 0, L, _, _, _ => loopM_out (h0 L)
  | j + 1, L, h, hj, hl => by
    have e := hs j L h hj hl
    unfold insG
    cases hc : lt (L.getD (j + 1) d) (L.getD j d) with
    | false => rw [hc, cond_false] at e; rw [loopM_out e]; rfl
    | true =>
      rw [hc, cond_true] at e
      rw [loopM_next e, cond_true]
      exact loop_insG f h0 Ok hok hs j _ (hok j L h hj) (by rw [swapG_len]; omega) (by rw [swapG_len]; omega)
theorem loop_sortG {α ρ : Type} {d : α} {lt : α → α → Bool} {step : List α × Int → Option (LR (List α × Int) (List α) ρ)} {R : List α} {n : Nat} (hR : R.length = n) (h0 : 0 < n)
    (hs : ∀ (i : Nat) (L : List α), 1 ≤ i → i < n → L.length = n → (∀ x ∈ L, x ∈ R) → step (L, (i : Int)) = some (.next (insG d lt i L, ((i + 1 : Nat) : Int)))) (he : ∀ L, step (L, (n : Int)) = some (.out L)) : loopM step (R, 1) = some (.inl (sortG d lt R n)) := by
  have hd : ∀ i, i < n → R.drop i = R.getD i d :: R.drop (i + 1) := fun i hi => by
    rw [List.drop_eq_getElem_cons (by omega)]
    congr 1
    rw [List.getD_eq_getElem?_getD, List.getElem?_eq_getElem (by omega)]; rfl
  have e := (loop_run (step := step) (fun (i : Nat) (_ : Unit) => (sortG d lt R i ++ R.drop i, (i : Int))) (fun _ _ => ()) (fun _ => sortG d lt R n) (fun _ _ => True) (lo := 1) (n := n) h0 (s0 := ()) trivial
    (fun i _ h1 hi _ => by
      refine ⟨?_, trivial⟩
      rw [hs i _ h1 hi (by rw [List.length_append, sortG_len, List.length_drop]; omega) (fun x hx => by
        rcases List.mem_append.1 hx with hx | hx
        · exact sortG_mem (by omega) hx
        · exact List.mem_of_mem_drop hx)]
      rw [hd i hi]
      have : sortG d lt R i ++ R.getD i d :: R.drop (i + 1) = (sortG d lt R i ++ [R.getD i d]) ++ R.drop (i + 1) := by simp
      rw [this, insG_app i _ _ (by simp [sortG_len])]
      rfl)
    (fun _ _ => by
      rw [he, List.drop_of_length_le (by omega), List.append_nil])).1
  have h1 : sortG d lt R 1 ++ R.drop 1 = R := by
    show [] ++ [R.getD 0 d] ++ R.drop 1 = R
    have := hd 0 h0
    rw [List.drop_zero] at this
    rw [List.nil_append, List.singleton_append, ← this]
  replace e : loopM step (sortG d lt R 1 ++ R.drop 1, 1) = some (.inl (sortG d lt R n)) := e
  rw [h1] at e
  exact e
theorem vget_mem {v : List F} {x : Int} (h0 : 0 ≤ x) (h1 : x < (v.length : Int)) : vget v x ∈ v := by
  unfold vget
  rw [List.getD_eq_getElem?_getD, List.getElem?_eq_getElem (by omega)]
  exact List.getElem_mem _
def wkey (c : F) : Nat := c.getD 0
def sqW (v : List F) (x : Int) : Nat := wkey (vget v x)
def SqOk (v : List F) : Prop := ∀ c ∈ v, ∃ b, c = some b ∧ b ≤ 2139095040
theorem SqOk.at {v : List F} (h : SqOk v) {x : Int} (h0 : 0 ≤ x) (h1 : x < (v.length : Int)) : vget v x = some (sqW v x) ∧ sqW v x ≤ 2139095040 := by
  obtain ⟨b, e, hb⟩ := h _ (vget_mem h0 h1)
  unfold sqW
  rw [e]; exact ⟨rfl, hb⟩
theorem upTo_getD {n m : Nat} (h : n < m) : (upTo m).getD n 0 = (n : Int) := by
  simp [upTo, List.getD_eq_getElem?_getD, List.getElem?_range, h]
theorem upTo_mem {n : Nat} {x : Int} (h : x ∈ upTo n) : 0 ≤ x ∧ x < (n : Int) := by
  simp [upTo] at h
  obtain ⟨q, hq, rfl⟩ := h
  omega
def ltI (x y : Int) : Bool := decide (x < y)
theorem x_cmp_Less_int64_eq (x y : Int) : x_cmp_Less_int64 x y = some (ltI x y) := by
  unfold x_cmp_Less_int64 x_cmp_isNaN_int64
  rw [obind_eq, decide_eq_true (rfl : x = x)]
  rfl
theorem x_slices_insertionSortOrdered_int64_0o_eq {R : List Int} {n : Nat} (hR : R.length = n) (hn : n ≤ 12) : x_slices_insertionSortOrdered_int64_0o 0 (n : Int) R = some (sortG 0 ltI R n) := by
  have inner : ∀ (j : Nat) (L : List Int), j < L.length → L.length ≤ 1000000 → loopM (x_slices_insertionSortOrdered_int64_0o_s2 0) (L, (j : Int)) = some (.inl (insG 0 ltI j L)) := fun j L hj hl =>
    loop_insG (fun L => L) (fun L => by
      show x_slices_insertionSortOrdered_int64_0o_b2 _ _ _ = _
      unfold x_slices_insertionSortOrdered_int64_0o_b2
      rw [show decide ((0 : Int) < 0) = false from rfl, bsel_false]) (fun _ => True) (fun _ _ _ _ => trivial) (fun j L _ hj hl => by
      show x_slices_insertionSortOrdered_int64_0o_b2 _ _ _ = _
      unfold x_slices_insertionSortOrdered_int64_0o_b2
      dsimp only
      have hd : decide ((0 : Int) < ((j + 1 : Nat) : Int)) = true := decide_eq_true (by omega)
      have l1 : ∀ x : Int, j < (L.set (j + 1) x).length := fun x => by simp; omega
      rw [hd, bsel_true, at?_n 0 hj, obind_eq, wpredG (by omega), olet_eq, at?_n 0 (by omega), obind_eq, x_cmp_Less_int64_eq, obind_eq]
      cases ltI (L.getD (j + 1) 0) (L.getD j 0) with
      | false => rfl
      | true =>
        rw [bsel_true, olet_eq, olet_eq, at?_n 0 (by omega), obind_eq, obind_eq, setAt?_n _ hj, obind_eq, setAt?_n _ (l1 _), obind_eq, olet_eq]
        rfl) j L trivial hj hl
  unfold x_slices_insertionSortOrdered_int64_0o
  rw [show IntKind.i64.wrap (0 + 1) = 1 from rfl, olet_eq]
  have he : ∀ (L : List Int) (k : Int), (n : Int) ≤ k → x_slices_insertionSortOrdered_int64_0o_s3 0 (n : Int) (L, k) = some (.out L) := fun L k hk => by
    show x_slices_insertionSortOrdered_int64_0o_b3 _ _ _ _ = _
    unfold x_slices_insertionSortOrdered_int64_0o_b3
    dsimp only
    rw [show decide (k < (n : Int)) = false from decide_eq_false (by omega), bsel_false]
  by_cases h0 : 0 < n
  · have e := loop_sortG (d := 0) (lt := ltI) (step := x_slices_insertionSortOrdered_int64_0o_s3 0 (n : Int)) hR h0
      (fun i L h1 hi hl _ => by
        show x_slices_insertionSortOrdered_int64_0o_b3 _ _ _ _ = _
        unfold x_slices_insertionSortOrdered_int64_0o_b3
        dsimp only
        rw [dlt hi, bsel_true, inner i L (by omega) (by omega), obind_eq, osum_inl]
        unfold x_slices_insertionSortOrdered_int64_0o_k2
        rw [wsucc (by omega)]; rfl)
      (fun L => he L n (Int.le_refl _))
    rw [e]; rfl
  · have hn0 : n = 0 := by omega
    subst hn0
    have : R = [] := List.length_eq_zero_iff.1 hR
    subst this
    rw [loopM_out (he [] 1 (by omega))]; rfl
theorem bitsLen_some {n : Nat} (h : n ≤ 12) : ∃ r, x_math_bits_Len (n : Int) = some r := by
  have hn : n = 0 ∨ n = 1 ∨ n = 2 ∨ n = 3 ∨ n = 4 ∨ n = 5 ∨ n = 6 ∨ n = 7 ∨ n = 8 ∨ n = 9 ∨ n = 10 ∨ n = 11 ∨ n = 12 := by omega
  have : (x_math_bits_Len (n : Int)).isSome = true := by
    rcases hn with rfl | rfl | rfl | rfl | rfl | rfl | rfl | rfl | rfl | rfl | rfl | rfl | rfl <;> kernel_rfl
  exact Option.isSome_iff_exists.1 this
theorem x_slices_Sort_int64_int64_0o_eq {R : List Int} (hn : R.length ≤ 12) : x_slices_Sort_int64_int64_0o R = some (sortG 0 ltI R R.length) := by
  unfold x_slices_Sort_int64_int64_0o x_slices_pdqsortOrdered_int64_0o
  obtain ⟨r, hr⟩ := bitsLen_some hn
  have hw : IntKind.u64.wrap ((R.length : Nat) : Int) = ((R.length : Nat) : Int) := by
    simp only [IntKind.wrap, IntKind.bits, IntKind.signed]
    simp
    omega
  have e : loopM (x_slices_pdqsortOrdered_int64_0o_s1 0 ((R.length : Nat) : Int) r R) () = some (.inr (sortG 0 ltI R R.length)) := by
    refine loopM_ret ?_
    show x_slices_pdqsortOrdered_int64_0o_b1 _ _ _ _ = _
    unfold x_slices_pdqsortOrdered_int64_0o_b1
    have h1 : IntKind.i64.wrap ((R.length : Int) - 0) = (R.length : Int) := by rw [wrap_i64 (by omega) (by omega)]; omega
    rw [h1, olet_eq, show decide ((R.length : Int) ≤ 12) = true from decide_eq_true (by omega), bsel_true, x_slices_insertionSortOrdered_int64_0o_eq rfl hn, obind_eq, sortG_len, decide_eq_true rfl, need_true]
  rw [hw, olet_eq, hr, obind_eq, e, obind_eq, osum_inr, obind_eq, sortG_len, decide_eq_true rfl, need_true]
def setAll (g : Nat → F → F) (n : Nat) (L : List F) : List F := run (fun q L => L.set q (g q (L.getD q none))) 0 n L
theorem setAll_spec (g : Nat → F → F) (n : Nat) (L : List F) (hn : n ≤ L.length) : (setAll g n L).length = L.length ∧ ∀ q, q < n → (setAll g n L).getD q none = g q (L.getD q none) := by
  have := run_inv (f := fun q L => L.set q (g q (L.getD q none))) (fun c (L' : List F) => L'.length = L.length ∧ ∀ q, q < L.length → L'.getD q none = if q < c then g q (L.getD q none) else L.getD q none) n 0 L ⟨rfl, fun q _ => by simp⟩ (fun c L' _ hc hI => by
    refine ⟨by simp [hI.1], fun q hq => ?_⟩
    have hc' : c < L'.length := by omega
    rw [List.getD_eq_getElem?_getD, List.getElem?_set]
    by_cases e : c = q
    · subst e
      rw [if_pos rfl, if_pos hc', if_pos (by omega), hI.2 c hq, if_neg (by omega)]
      rfl
    · rw [if_neg e, ← List.getD_eq_getElem?_getD, hI.2 q hq]
      by_cases h : q < c
      · rw [if_pos h, if_pos (by omega)]
      · rw [if_neg h, if_neg (by omega)])
  rw [Nat.zero_add] at this
  refine ⟨this.1, fun q hq => ?_⟩
  have := this.2 q (by omega)
  rw [if_pos hq] at this
  exact this
def GoodO (n : Nat) (L : List Int) : Prop := (∀ x ∈ L, 0 ≤ x ∧ x < (n : Int)) ∧ L.Nodup
theorem upTo_nodup {n : Nat} : (upTo n).Nodup := by
  unfold upTo List.Nodup
  rw [List.pairwise_map]
  exact List.Pairwise.imp (fun {a b} h e => h (Int.ofNat.inj e)) (List.nodup_range (n := n))
theorem mem_upTo {n : Nat} {x : Int} : x ∈ upTo n ↔ 0 ≤ x ∧ x < (n : Int) := by
  refine ⟨upTo_mem, fun h => ?_⟩
  unfold upTo
  rw [List.mem_map]
  exact ⟨x.toNat, List.mem_range.2 (by omega), by omega⟩
theorem good_perm {n : Nat} {L : List Int} (hl : L.length = n) (h : GoodO n L) : L.Perm (upTo n) := by
  refine (List.perm_ext_iff_of_nodup h.2 upTo_nodup).2 fun x => ⟨fun hx => mem_upTo.2 (h.1 x hx), fun hx => ?_⟩
  by_cases hm : x ∈ L
  · exact hm
  · exfalso
    have := List.Nodup.length_le_of_subset (l₁ := x :: L) (l₂ := upTo n) (List.nodup_cons.2 ⟨hm, h.2⟩) (fun y hy => by
      rcases List.mem_cons.1 hy with rfl | hy
      · exact hx
      · exact mem_upTo.2 (h.1 y hy))
    simp [upTo_len] at this
    omega
theorem good_sorted {n : Nat} {L : List Int} (hl : L.length = n) : sortG 0 ltI L n = upTo n ↔ GoodO n L := by
  have p := sortG_perm (d := 0) (lt := ltI) (L := L) n (by omega)
  rw [List.take_of_length_le (by omega)] at p
  constructor
  · intro e
    rw [e] at p
    exact ⟨fun x hx => mem_upTo.1 (p.mem_iff.2 hx), p.nodup_iff.1 upTo_nodup⟩
  · intro h
    have s1 := sortG_sorted (d := 0) (lt := ltI) (L := L) Int.toNat (fun a ha b hb => by
      have := h.1 a ha
      have := h.1 b hb
      unfold ltI
      by_cases hlt : a < b
      · rw [decide_eq_true hlt, decide_eq_true (by omega)]
      · rw [decide_eq_false hlt, decide_eq_false (by omega)]) n (by omega)
    have s2 : (upTo n).Pairwise (fun a b => a.toNat ≤ b.toNat) := by
      unfold upTo
      rw [List.pairwise_map]
      refine List.Pairwise.imp (fun {a b} (h : a < b) => ?_) (List.pairwise_lt_range (n := n))
      show (a : Int).toNat ≤ (b : Int).toNat
      omega
    refine List.Perm.eq_of_pairwise (le := fun a b => a.toNat ≤ b.toNat) (fun a b ha hb h1 h2 => ?_) s1 s2 (p.trans (good_perm hl h))
    have ha := h.1 a (p.mem_iff.1 ha)
    have hb := mem_upTo.1 hb
    omega
def ordQ (l : List Int) (i : Nat) (fl : List Bool) : List Bool ⊕ Bool :=
  bif decide (0 ≤ l.getD i 0) && decide (l.getD i 0 < (l.length : Int)) then (bif fl.getD (l.getD i 0).toNat false then .inr false else .inl (fl.set (l.getD i 0).toNat true)) else .inr false
theorem ord_run {l : List Int} {n : Nat} (hn : l.length = n) : ∀ (m i : Nat) (fl : List Bool), i + m = n → fl.length = n → (∀ x : Nat, x < n → fl.getD x false = decide ((x : Int) ∈ l.take i)) → GoodO n (l.take i) →
    (∃ s', runE (ordQ l) i m fl = .inl s' ∧ GoodO n l) ∨ (runE (ordQ l) i m fl = .inr false ∧ ¬ GoodO n l)
  | 0, i, fl, h, _, _, hg => by
    rw [List.take_of_length_le (by omega)] at hg
    exact .inl ⟨fl, rfl, hg⟩
  | m + 1, i, fl, h, hl, hf, hg => by
    have hi : i < l.length := by omega
    have hx : l.getD i 0 = l[i] := by rw [List.getD_eq_getElem?_getD, List.getElem?_eq_getElem hi]; rfl
    have ht : l.take (i + 1) = l.take i ++ [l[i]] := List.take_succ_eq_append_getElem hi
    have eQ : ordQ l i fl = bif decide (0 ≤ l[i]) && decide (l[i] < (n : Int)) then (bif fl.getD l[i].toNat false then .inr false else .inl (fl.set l[i].toNat true)) else .inr false := by
      unfold ordQ
      rw [hx, hn]
    simp only [runE]
    rw [eQ]
    cases hr : decide (0 ≤ l[i]) && decide (l[i] < (n : Int)) with
    | false =>
      rw [cond_false]
      refine .inr ⟨rfl, fun hG => ?_⟩
      have := hG.1 l[i] (List.getElem_mem _)
      simp only [Bool.and_eq_false_iff, decide_eq_false_iff_not] at hr
      omega
    | true =>
      simp only [Bool.and_eq_true, decide_eq_true_eq] at hr
      have hc := hf l[i].toNat (by omega)
      rw [show ((l[i].toNat : Nat) : Int) = l[i] by omega] at hc
      rw [cond_true, hc]
      by_cases hm : l[i] ∈ l.take i
      · rw [decide_eq_true hm, cond_true]
        refine .inr ⟨rfl, fun hG => ?_⟩
        have hN : (l.take (i + 1)).Nodup := List.Pairwise.sublist (List.take_sublist _ _) hG.2
        rw [ht] at hN
        have := (List.nodup_append.1 hN).2.2 _ hm _ (List.mem_singleton.2 rfl)
        exact this rfl
      · rw [decide_eq_false hm, cond_false]
        refine ord_run hn m (i + 1) (fl.set l[i].toNat true) (by omega) (by rw [List.length_set]; exact hl) (fun x hx2 => ?_) ⟨fun x hx2 => ?_, ?_⟩
        · have hmem : (x : Int) ∈ l.take (i + 1) ↔ (x : Int) ∈ l.take i ∨ (x : Int) = l[i] := by rw [ht, List.mem_append, List.mem_singleton]
          have hxl : x < fl.length := by omega
          rw [List.getD_eq_getElem?_getD, List.getElem?_set]
          by_cases e : l[i].toNat = x
          · rw [if_pos e, if_pos (by omega)]
            exact (decide_eq_true (hmem.2 (.inr (by omega)))).symm
          · rw [if_neg e, ← List.getD_eq_getElem?_getD, hf x hx2]
            have hne : ¬ (x : Int) = l[i] := by omega
            by_cases h3 : (x : Int) ∈ l.take i
            · rw [decide_eq_true h3, decide_eq_true (hmem.2 (.inl h3))]
            · rw [decide_eq_false h3, decide_eq_false (fun h4 => (hmem.1 h4).elim h3 hne)]
        · rw [ht] at hx2
          rcases List.mem_append.1 hx2 with h3 | h3
          · exact hg.1 x h3
          · rw [List.mem_singleton.1 h3]; exact hr
        · rw [ht]
          refine List.nodup_append.2 ⟨hg.2, by simp, fun a ha b hb e => ?_⟩
          rw [List.mem_singleton.1 hb] at e
          exact hm (e ▸ ha)
def ordB (l : List Int) : Bool := decide (1 ≤ l.length) && (decide (l.length ≤ 12) && decide (sortG 0 ltI l l.length = upTo l.length))
theorem s_l02Order_eq (l : List Int) : s_l02Order l = some (ordB l) := by
  unfold s_l02Order ordB
  by_cases h1 : 1 ≤ l.length
  · rw [show decide ((l.length : Int) < 1) = false from decide_eq_false (by omega), bsel_false, decide_eq_true h1, Bool.true_and]
    by_cases h2 : l.length ≤ 12
    · have hk : mkok 1 (l.length : Int) = true := by simp [mkok]; omega
      rw [show decide (12 < (l.length : Int)) = false from decide_eq_false (by omega), bsel_false, decide_eq_true h2, Bool.true_and, hk, need_true]
      obtain ⟨e, _⟩ := loop_endE (step := s_l02Order_s1 l) (fun (i : Nat) (fl : List Bool) => (fl, (i : Int))) (ordQ l) (fun _ => ()) (fun _ fl => fl.length = l.length) (lo := 0) (n := l.length) (Nat.zero_le _) (s0 := List.replicate l.length false) (by simp)
        (fun i fl _ hi hl => by
          have hstep : s_l02Order_s1 l (fl, (i : Int)) = s_l02Order_b1 l fl (i : Int) := rfl
          have hw : IntKind.i64.wrap ((l.length : Int) - 1) = (l.length : Int) - 1 := wrap_i64 (by omega) (by omega)
          have hb : decide (l.getD i 0 ≤ (l.length : Int) - 1) = decide (l.getD i 0 < (l.length : Int)) := by
            by_cases h : l.getD i 0 < (l.length : Int)
            · rw [decide_eq_true h, decide_eq_true (by omega)]
            · rw [decide_eq_false h, decide_eq_false (by omega)]
          rw [hstep]
          unfold s_l02Order_b1 ordQ
          rw [dlt hi, bsel_true, at?_n 0 hi, obind_eq, hw, olet_eq, s_l00In_eq, hb, obind_eq]
          cases hr : decide (0 ≤ l.getD i 0) && decide (l.getD i 0 < (l.length : Int)) with
          | false => exact .inr ⟨false, by rw [cond_false], by rw [bsel_false]⟩
          | true =>
            simp only [Bool.and_eq_true, decide_eq_true_eq] at hr
            have hz : l.getD i 0 = ((l.getD i 0).toNat : Int) := by omega
            have hlt : (l.getD i 0).toNat < fl.length := by omega
            rw [cond_true, bsel_true, obind_eq]
            have ha : at? fl (l.getD i 0) = some (fl.getD (l.getD i 0).toNat false) := by rw [hz]; exact at?_n false hlt
            have hs : setAt? fl (l.getD i 0) true = some (fl.set (l.getD i 0).toNat true) := by rw [hz]; exact setAt?_n _ hlt
            rw [ha, obind_eq]
            cases fl.getD (l.getD i 0).toNat false with
            | true => exact .inr ⟨false, by rw [cond_true], by rw [bsel_true]⟩
            | false => exact .inl ⟨_, by rw [cond_false], by rw [bsel_false, obind_eq, hs, obind_eq, wsucc (by omega)]; rfl, by simp [hl]⟩)
        (fun fl _ => by
          show s_l02Order_b1 _ _ _ = _
          unfold s_l02Order_b1
          rw [dnlt, bsel_false])
      rw [Nat.sub_zero] at e
      have e : loopM (s_l02Order_s1 l) (List.replicate (l.length : Int).toNat false, 0) = some (endE (fun _ => ()) (runE (ordQ l) 0 l.length (List.replicate l.length false))) := e
      rw [e]
      rcases ord_run (l := l) rfl l.length 0 (List.replicate l.length false) (by omega) (by simp) (fun x hx => by simp [List.getD_eq_getElem?_getD, List.getElem?_replicate, hx]) ⟨by simp, by simp⟩ with ⟨s', h3, h4⟩ | ⟨h3, h4⟩
      · rw [h3, decide_eq_true ((good_sorted rfl).2 h4)]; rfl
      · rw [h3, decide_eq_false (fun h5 => h4 ((good_sorted rfl).1 h5))]; rfl
    · rw [show decide (12 < (l.length : Int)) = true from decide_eq_true (by omega), bsel_true, decide_eq_false h2, Bool.false_and]
  · rw [show decide ((l.length : Int) < 1) = true from decide_eq_true (by omega), bsel_true, decide_eq_false h1, Bool.false_and]
theorem x_slices_Sorted_eq {l : List Int} (h : l.length ≤ 12) : x_slices_Sorted_int64_0Fx_slices_Values_int64_int64_1 l = some (sortG 0 ltI l l.length) := by
  unfold x_slices_Sorted_int64_0Fx_slices_Values_int64_int64_1 x_slices_Collect_int64_0Fx_slices_Values_int64_int64_1 x_slices_AppendSeq
  rw [show decide ((l.length : Int) * 8 ≤ 140737488351232) = true from decide_eq_true (by omega), need_true, obind_eq, obind_eq, x_slices_Sort_int64_int64_0o_eq h, obind_eq, sortG_len, decide_eq_true rfl, need_true]
theorem i_IsOrder_eq (l : List Int) : i_IsOrder l = some (ordB l) := by
  unfold i_IsOrder i_length_int64 ordB
  rw [obind_eq, i_isSide_eq, obind_eq]
  unfold side
  by_cases h1 : 1 ≤ l.length
  · rw [decide_eq_true (show (1 : Int) ≤ (l.length : Int) by omega), decide_eq_true h1, Bool.true_and, Bool.true_and]
    by_cases h2 : l.length ≤ 12
    · rw [decide_eq_true (show (l.length : Int) ≤ 12 by omega), decide_eq_true h2, Bool.true_and, bsel_true]
      unfold i_isPermutation x_slices_Values_int64_int64
      rw [obind_eq, x_slices_Sorted_eq h2, obind_eq]
      have e := loop_eq (l := sortG 0 ltI l l.length) (m := upTo l.length) (by rw [sortG_len, upTo_len]) (step := i_isPermutation_s1 (sortG 0 ltI l l.length)) (fun v x y h0 h1 hx hy => by
        rw [sortG_len] at h1
        have hv : v = ((v.toNat : Nat) : Int) := by omega
        have hlt : v.toNat < l.length := by omega
        have hy : y = v := by
          have := upTo_getD hlt
          rw [List.getD_eq_getElem?_getD, hy] at this
          have : y = (v.toNat : Int) := this
          omega
        subst hy
        have ha : at? (sortG 0 ltI l l.length) y = some x := at?_of h0 hx
        show i_isPermutation_b1 _ _ = _
        unfold i_isPermutation_b1
        rw [sortG_len, show decide (y < ((l.length : Nat) : Int)) = true from decide_eq_true (by omega), bsel_true, ha, obind_eq, wrap_i64 (by omega) (by omega)]
        by_cases e : x = y
        · rw [if_pos e, decide_eq_true e]; rfl
        · rw [if_neg e, decide_eq_false e]; rfl) (by
        show i_isPermutation_b1 _ _ = _
        unfold i_isPermutation_b1
        rw [dnlt, bsel_false])
      rw [e]
      by_cases hs : sortG 0 ltI l l.length = upTo l.length
      · rw [if_pos hs, decide_eq_true hs]; rfl
      · rw [if_neg hs, decide_eq_false hs]; rfl
    · rw [decide_eq_false (show ¬ (l.length : Int) ≤ 12 by omega), decide_eq_false h2, Bool.false_and, bsel_false]
  · rw [decide_eq_false (show ¬ (1 : Int) ≤ (l.length : Int) by omega), decide_eq_false h1, Bool.false_and, Bool.false_and, bsel_false]
def lessG (f : Nat → F) (L : List F) (lo m : Nat) (y : F) : F := run (fun k s => fop .sub .f32 s (fop .mul .f32 (f k) (L.getD k none))) lo m y
theorem lessG_ok {f : Nat → F} {L : List F} {lo m : Nat} {y : F} (h : FOk .f32 y) : FOk .f32 (lessG f L lo m y) := by
  have := run_inv (f := fun k s => fop .sub .f32 s (fop .mul .f32 (f k) (L.getD k none))) (fun _ s => FOk .f32 s) m lo y h fun _ _ _ _ _ => fop_fok _ _ _
  exact this
theorem lessG_app {f : Nat → F} {L R : List F} {m : Nat} {y : F} (h : m ≤ L.length) : lessG f (L ++ R) 0 m y = lessG f L 0 m y :=
  run_congr (fun _ _ => True) m 0 y trivial fun j s _ hj _ => ⟨by rw [getD_appG (by omega)], trivial⟩
theorem loop_less {σ : Type} {ρ : Type} {step : F × Int → Option (LR (F × Int) F ρ)} {f : Nat → F} {L : List F} {lo n : Nat} (hlo : lo ≤ n) {y : F}
    (hs : ∀ k s, lo ≤ k → k < n → step (s, (k : Int)) = some (.next (fop .sub .f32 s (fop .mul .f32 (f k) (L.getD k none)), ((k + 1 : Nat) : Int)))) (he : ∀ s, step (s, (n : Int)) = some (.out s)) : loopM step (y, (lo : Int)) = some (.inl (lessG f L lo (n - lo) y)) :=
  (loop_run (step := step) (fun (k : Nat) (s : F) => (s, (k : Int))) (fun k s => fop .sub .f32 s (fop .mul .f32 (f k) (L.getD k none))) (fun s => s) (fun _ _ => True) hlo (s0 := y) trivial (fun k s h1 h2 _ => ⟨hs k s h1 h2, trivial⟩) (fun s _ => he s)).1
def lowL (h : Nat → F → List F → F) (c : List F) : Nat → List F
  | 0 => []
  | i + 1 => lowL h c i ++ [h i (c.getD i none) (lowL h c i)]
theorem lowL_len {h : Nat → F → List F → F} {c : List F} : ∀ i, (lowL h c i).length = i
  | 0 => rfl
  | i + 1 => by simp [lowL, lowL_len i]
theorem lowL_oks {h : Nat → F → List F → F} {c : List F} (hh : ∀ i y L, FOk .f32 y → FOk .f32 (h i y L)) (hc : FOks c) : ∀ i, FOks (lowL h c i)
  | 0 => fun x hx => by cases hx
  | i + 1 => fun x hx => by
    rcases List.mem_append.1 hx with hx | hx
    · exact lowL_oks hh hc i x hx
    · rw [List.mem_singleton.1 hx]; exact hh _ _ _ (hc.getD _)
theorem lowL_set {h : Nat → F → List F → F} {c : List F} {i : Nat} (hi : i < c.length) : (lowL h c i ++ c.drop i).set i (h i (c.getD i none) (lowL h c i)) = lowL h c (i + 1) ++ c.drop (i + 1) := by
  have e : c.drop i = c.getD i none :: c.drop (i + 1) := by
    rw [List.drop_eq_getElem_cons hi]
    congr 1
    rw [List.getD_eq_getElem?_getD, List.getElem?_eq_getElem hi]; rfl
  rw [List.set_append_right _ _ (by rw [lowL_len]; exact Nat.le_refl _), lowL_len, Nat.sub_self, e]
  show lowL h c i ++ (_ :: _) = (lowL h c i ++ [_]) ++ _
  simp
theorem lowL_get {h : Nat → F → List F → F} {c : List F} {i : Nat} (hi : i < c.length) : (lowL h c i ++ c.drop i).getD i none = c.getD i none := by
  rw [List.getD_eq_getElem?_getD, List.getElem?_append_right (by rw [lowL_len]; exact Nat.le_refl _), lowL_len, Nat.sub_self, List.getElem?_drop, Nat.add_zero, ← List.getD_eq_getElem?_getD]
def upL (h : Nat → F → List F → F) (n : Nat) (L : List F) : List F := run (fun j L => L.set (n - 1 - j) (h (n - 1 - j) (L.getD (n - 1 - j) none) L)) 0 n L
theorem upL_len {h : Nat → F → List F → F} {n : Nat} {L : List F} : (upL h n L).length = L.length := by
  have := run_inv (f := fun j L => L.set (n - 1 - j) (h (n - 1 - j) (L.getD (n - 1 - j) none) L)) (fun _ (L' : List F) => L'.length = L.length) n 0 L rfl (fun j s _ _ hs => by simp [hs])
  exact this
theorem upL_oks {h : Nat → F → List F → F} {n : Nat} {L : List F} (hh : ∀ i y L, FOk .f32 y → FOk .f32 (h i y L)) (g : FOks L) : FOks (upL h n L) := by
  have := run_inv (f := fun j L => L.set (n - 1 - j) (h (n - 1 - j) (L.getD (n - 1 - j) none) L)) (fun _ (L' : List F) => FOks L') n 0 L g (fun j s _ _ hs => hs.set (hh _ _ _ (hs.getD _)))
  exact this
theorem loop_up {ρ : Type} {step : List F × Int → Option (LR (List F × Int) (List F) ρ)} {h : Nat → F → List F → F} {n : Nat} {L : List F} (hl : L.length = n)
    (hs : ∀ i L, i < n → L.length = n → step (L, (i : Int)) = some (.next (L.set i (h i (L.getD i none) L), (i : Int) - 1))) (he : ∀ L, step (L, -1) = some (.out L)) : loopM step (L, (n : Int) - 1) = some (.inl (upL h n L)) := by
  have e := (loop_run (step := step) (fun (j : Nat) (L : List F) => (L, (n : Int) - 1 - (j : Int))) (fun j L => L.set (n - 1 - j) (h (n - 1 - j) (L.getD (n - 1 - j) none) L)) (fun L => L) (fun _ L => L.length = n) (lo := 0) (n := n) (Nat.zero_le _) (s0 := L) hl
    (fun j L2 _ hj hI => by
      refine ⟨?_, by simp [hI]⟩
      have hz : (n : Int) - 1 - (j : Int) = ((n - 1 - j : Nat) : Int) := by omega
      rw [hz, hs _ _ (by omega) hI]
      have hz2 : (n : Int) - 1 - ((j + 1 : Nat) : Int) = ((n - 1 - j : Nat) : Int) - 1 := by omega
      rw [hz2])
    (fun L2 _ => by rw [show (n : Int) - 1 - (n : Int) = -1 by omega, he])).1
  rw [show ((n : Int) - 1 - ((0 : Nat) : Int)) = (n : Int) - 1 by omega, Nat.sub_zero] at e
  exact e
def rowH (n : Nat) (X : List F) (i : Nat) (y : F) (L : List F) : F := lessG (fun k => gm none X n i k) L 0 i y
def upH (n : Nat) (X : List F) (i : Nat) (y : F) (L : List F) : F := fop .quo .f32 (lessG (fun k => gm none X n i k) L (i + 1) (n - (i + 1)) y) (gm none X n i i)
theorem i_Matrix_lessRow_eq {n i lo hi : Nat} {X L : List F} {y : F} (m : Mat n n X) (hl : L.length = n) (hi2 : i < n) (h1 : lo ≤ hi) (h2 : hi ≤ n) : i_Matrix_lessRow (n : Int) (n : Int) X y (i : Int) (lo : Int) (hi : Int) L = some (lessG (fun k => gm none X n i k) L lo (hi - lo) y) := by
  have hn := m.A1
  unfold i_Matrix_lessRow
  rw [loop_less (σ := Unit) (f := fun k => gm none X n i k) (L := L) h1 (fun k s _ hk => by
    show i_Matrix_lessRow_b1 _ _ _ _ _ _ _ _ = _
    unfold i_Matrix_lessRow_b1
    rw [dlt hk, bsel_true, i_Matrix_at_eq _ m hi2 (by omega), obind_eq, at?_n none (by omega), obind_eq, i_mul_eq, obind_eq, olet_eq, wsucc (by omega)]
    rfl) (fun s => by
    show i_Matrix_lessRow_b1 _ _ _ _ _ _ _ _ = _
    unfold i_Matrix_lessRow_b1
    rw [dnlt, bsel_false])]
  rfl
theorem i_Matrix_upperSolve_eq {n : Nat} {X L : List F} (m : Mat n n X) (hl : L.length = n) : i_Matrix_upperSolve (n : Int) (n : Int) X L = some (upL (upH n X) n L) := by
  have hn := m.A1
  unfold i_Matrix_upperSolve x_slices_Clone_float32_float32
  have ap : apok 4 0 L.length = true := by simp [apok]; omega
  rw [ap, need_true, obind_eq, List.nil_append, show IntKind.i64.wrap ((n : Int) - 1) = (n : Int) - 1 from wrap_i64 (by omega) (by omega), olet_eq]
  rw [loop_up (h := upH n X) hl (fun i L2 hi h2 => by
    show i_Matrix_upperSolve_b1 _ _ _ _ _ = _
    unfold i_Matrix_upperSolve_b1
    dsimp only
    rw [show decide ((0 : Int) ≤ (i : Int)) = true from decide_eq_true (by omega), bsel_true, at?_n none (by omega), obind_eq, wsucc (by omega), olet_eq, i_Matrix_lessRow_eq m h2 hi (by omega) (Nat.le_refl _), obind_eq, i_Matrix_at_eq _ m hi hi, obind_eq, olet_eq, setAt?_n _ (by omega), obind_eq, show IntKind.i64.wrap ((i : Int) - 1) = (i : Int) - 1 from wrap_i64 (by omega) (by omega)]
    rfl) (fun L2 => by
    show i_Matrix_upperSolve_b1 _ _ _ _ _ = _
    unfold i_Matrix_upperSolve_b1
    rfl)]
  rfl
def ordC (o : List Int) (b : List F) (n : Nat) : List F := (List.range n).map fun i => b.getD (o.getD i 0).toNat none
theorem ordC_len {o : List Int} {b : List F} {n : Nat} : (ordC o b n).length = n := by simp [ordC]
theorem ordC_oks {o : List Int} {b : List F} {n : Nat} (g : FOks b) : FOks (ordC o b n) := fun c hc => by
  obtain ⟨i, _, rfl⟩ := List.mem_map.1 hc
  exact g.getD _
theorem ordC_at {o : List Int} {b : List F} {n i : Nat} (h : i < n) : (ordC o b n).getD i none = b.getD (o.getD i 0).toNat none := by
  unfold ordC
  rw [List.getD_eq_getElem?_getD, List.getElem?_map, List.getElem?_range h]; rfl
theorem i_Factor_solve_eq {n : Nat} {X b : List F} {o : List Int} (m : Mat n n X) (n0 : 0 < n) (hb : b.length = n) (ho : o.length = n) (hr : ∀ i, i < n → 0 ≤ o.getD i 0 ∧ o.getD i 0 < (n : Int)) : i_Factor_solve (n : Int) (n : Int) X o b = some (upL (upH n X) n (lowL (rowH n X) (ordC o b n) n)) := by
  have hn := m.A1
  have e1 := (loop_run (step := i_Factor_solve_s1 o b) (fun (i : Nat) (l : List F) => (l, (i : Int))) (fun i l => l ++ [b.getD (o.getD i 0).toNat none]) (fun l => l) (fun i l => l.length = i) (lo := 0) (n := n) (Nat.zero_le _) (s0 := []) rfl
    (fun i l _ hi hI => by
      refine ⟨?_, by simp [hI]⟩
      show i_Factor_solve_b1 _ _ _ _ = _
      unfold i_Factor_solve_b1
      dsimp only
      have ap : apok 4 l.length 1 = true := by simp [apok, hI]; omega
      have h := hr i hi
      rw [ho, dlt hi, bsel_true, at?_n 0 (by omega), obind_eq, at?_i none h.1 (by omega), obind_eq, ap, need_true, wsucc (by omega)]
      rfl)
    (fun l _ => by
      show i_Factor_solve_b1 _ _ _ _ = _
      unfold i_Factor_solve_b1
      rw [ho, dnlt, bsel_false])).1
  rw [Nat.sub_zero, run_map] at e1
  replace e1 : loopM (i_Factor_solve_s1 o b) ([], 0) = some (.inl (ordC o b n)) := e1
  have lc : (ordC o b n).length = n := ordC_len
  have e2 := (loop_run (step := i_Factor_solve_s2 (n : Int) (n : Int) X) (fun (i : Nat) (_ : Unit) => (lowL (rowH n X) (ordC o b n) i ++ (ordC o b n).drop i, (i : Int))) (fun _ _ => ()) (fun _ => lowL (rowH n X) (ordC o b n) n) (fun _ _ => True) (lo := 1) (n := n) n0 (s0 := ()) trivial
    (fun i _ h1 hi _ => by
      refine ⟨?_, trivial⟩
      show i_Factor_solve_b2 _ _ _ _ _ = _
      unfold i_Factor_solve_b2
      dsimp only
      have hl : (lowL (rowH n X) (ordC o b n) i ++ (ordC o b n).drop i).length = n := by rw [List.length_append, lowL_len, List.length_drop]; omega
      rw [dlt hi, bsel_true, at?_n none (by omega), obind_eq, lowL_get (by omega), show (0 : Int) = ((0 : Nat) : Int) from rfl, i_Matrix_lessRow_eq m hl hi (Nat.zero_le _) (by omega), obind_eq, Nat.sub_zero, lessG_app (by rw [lowL_len]; exact Nat.le_refl _), setAt?_n _ (by omega), obind_eq, wsucc (by omega)]
      show some (LR.next ((lowL (rowH n X) (ordC o b n) i ++ (ordC o b n).drop i).set i (rowH n X i ((ordC o b n).getD i none) (lowL (rowH n X) (ordC o b n) i)), _)) = _
      rw [lowL_set (by omega)])
    (fun _ _ => by
      show i_Factor_solve_b2 _ _ _ _ _ = _
      unfold i_Factor_solve_b2
      dsimp only
      rw [dnlt, bsel_false, List.drop_of_length_le (by omega), List.append_nil])).1
  have h1 : lowL (rowH n X) (ordC o b n) 1 ++ (ordC o b n).drop 1 = ordC o b n := by
    have := lowL_set (h := rowH n X) (c := ordC o b n) (i := 0) (by omega)
    rw [← this]
    show (ordC o b n).set 0 (lessG _ [] 0 0 ((ordC o b n).getD 0 none)) = _
    show (ordC o b n).set 0 ((ordC o b n).getD 0 none) = _
    apply List.ext_getElem?
    intro q
    rw [List.getElem?_set]
    by_cases hq : 0 = q
    · subst hq
      rw [if_pos rfl, if_pos (by omega), List.getD_eq_getElem?_getD, List.getElem?_eq_getElem (by omega)]; rfl
    · rw [if_neg hq]
  replace e2 : loopM (i_Factor_solve_s2 (n : Int) (n : Int) X) (lowL (rowH n X) (ordC o b n) 1 ++ (ordC o b n).drop 1, 1) = some (.inl (lowL (rowH n X) (ordC o b n) n)) := e2
  rw [h1] at e2
  unfold i_Factor_solve
  rw [e1, obind_eq, osum_inl]
  unfold i_Factor_solve_k1
  rw [e2, obind_eq, osum_inl]
  unfold i_Factor_solve_k2
  rw [i_Matrix_upperSolve_eq m (by rw [lowL_len]), obind_eq]
theorem s_l03Solve_eq {n : Nat} {X b : List F} {o : List Int} (m : Mat n n X) (hb : b.length = n) (ho : o.length = n) (hr : ∀ i, i < n → 0 ≤ o.getD i 0 ∧ o.getD i 0 < (n : Int)) : s_l03Solve (n : Int) (n : Int) X o b = some (upL (upH n X) n (lowL (rowH n X) (ordC o b n) n)) := by
  have hn := m.A1
  have e1 := (loop_run (step := s_l03Solve_s3 (n : Int) (n : Int) X o b) (fun (i : Nat) (_ : Unit) => (lowL (rowH n X) (ordC o b n) i, (i : Int))) (fun _ _ => ()) (fun _ => lowL (rowH n X) (ordC o b n) n) (fun _ _ => True) (lo := 0) (n := n) (Nat.zero_le _) (s0 := ()) trivial
    (fun i _ _ hi _ => by
      refine ⟨?_, trivial⟩
      show s_l03Solve_b3 _ _ _ _ _ _ _ = _
      unfold s_l03Solve_b3
      dsimp only
      have h := hr i hi
      have ll : (lowL (rowH n X) (ordC o b n) i).length = i := lowL_len i
      have ap : apok 4 (lowL (rowH n X) (ordC o b n) i).length 1 = true := by simp [apok, ll]; omega
      rw [dlt hi, bsel_true, at?_n 0 (by omega), obind_eq, at?_i none h.1 (by omega), obind_eq, ← ordC_at hi, show (0 : Int) = ((0 : Nat) : Int) from rfl, loop_less (σ := Unit) (f := fun k => gm none X n i k) (L := lowL (rowH n X) (ordC o b n) i) (Nat.zero_le i) (fun k s _ hk => by
        show s_l03Solve_b2 _ _ _ _ _ _ _ = _
        unfold s_l03Solve_b2
        rw [dlt hk, bsel_true, s_l02At_eq _ m hi (by omega), obind_eq, at?_n none (by omega), obind_eq, olet_eq, olet_eq, wsucc (by omega)]
        rfl) (fun s => by
        show s_l03Solve_b2 _ _ _ _ _ _ _ = _
        unfold s_l03Solve_b2
        rw [dnlt, bsel_false]), obind_eq, osum_inl]
      unfold s_l03Solve_k2
      rw [ap, need_true, wsucc (by omega)]
      rfl)
    (fun _ _ => by
      show s_l03Solve_b3 _ _ _ _ _ _ _ = _
      unfold s_l03Solve_b3
      rw [dnlt, bsel_false])).1
  replace e1 : loopM (s_l03Solve_s3 (n : Int) (n : Int) X o b) ([], 0) = some (.inl (lowL (rowH n X) (ordC o b n) n)) := e1
  unfold s_l03Solve
  rw [e1, obind_eq, osum_inl]
  unfold s_l03Solve_k3
  rw [show IntKind.i64.wrap ((n : Int) - 1) = (n : Int) - 1 from wrap_i64 (by omega) (by omega), olet_eq]
  rw [loop_up (h := upH n X) (L := lowL (rowH n X) (ordC o b n) n) (lowL_len n) (fun i L2 hi h2 => by
    show s_l03Solve_b6 _ _ _ _ _ = _
    unfold s_l03Solve_b6
    dsimp only
    rw [show decide ((0 : Int) ≤ (i : Int)) = true from decide_eq_true (by omega), bsel_true, at?_n none (by omega), obind_eq, wsucc (by omega), olet_eq, loop_less (σ := Unit) (f := fun k => gm none X n i k) (L := L2) (show i + 1 ≤ n by omega) (fun k s _ hk => by
      show s_l03Solve_b5 _ _ _ _ _ _ _ = _
      unfold s_l03Solve_b5
      rw [dlt hk, bsel_true, s_l02At_eq _ m hi hk, obind_eq, at?_n none (by omega), obind_eq, olet_eq, olet_eq, wsucc (by omega)]
      rfl) (fun s => by
      show s_l03Solve_b5 _ _ _ _ _ _ _ = _
      unfold s_l03Solve_b5
      rw [dnlt, bsel_false]), obind_eq, osum_inl]
    unfold s_l03Solve_k5
    rw [s_l02At_eq _ m hi hi, obind_eq, olet_eq, setAt?_n _ (by omega), obind_eq, show IntKind.i64.wrap ((i : Int) - 1) = (i : Int) - 1 from wrap_i64 (by omega) (by omega)]
    rfl) (fun L2 => by
    show s_l03Solve_b6 _ _ _ _ _ = _
    unfold s_l03Solve_b6
    rfl)]
  rfl
def vecB (b : List F) : Bool := decide (1 ≤ b.length) && (decide (b.length ≤ 256) && b.all fin32)
theorem s_l02Vector_eq {b : List F} (g : FOks b) (s : b.length ≤ 1048576) : s_l02Vector b = some (vecB b) := by
  unfold s_l02Vector vecB
  by_cases h1 : 1 ≤ b.length
  · rw [decide_eq_true h1, decide_eq_true (show (1 : Int) ≤ (b.length : Int) by omega), bsel_true, Bool.true_and]
    by_cases h2 : b.length ≤ 256
    · rw [decide_eq_true h2, decide_eq_true (show (b.length : Int) ≤ 256 by omega), bsel_true, Bool.true_and, s_l02Finite_eq g s, obind_eq]
    · rw [decide_eq_false h2, decide_eq_false (show ¬ (b.length : Int) ≤ 256 by omega), bsel_false, Bool.false_and]
  · rw [decide_eq_false h1, decide_eq_false (show ¬ (1 : Int) ≤ (b.length : Int) by omega), bsel_false, Bool.false_and]
theorem i_IsVector_eq {b : List F} (g : FOks b) (s : b.length ≤ 1048576) : i_IsVector b = some (vecB b) := by
  unfold i_IsVector i_length_float32 vecB
  rw [obind_eq, i_inRange_eq, obind_eq]
  by_cases h1 : 1 ≤ b.length
  · rw [decide_eq_true h1, decide_eq_true (show (1 : Int) ≤ (b.length : Int) by omega), Bool.true_and, Bool.true_and]
    by_cases h2 : b.length ≤ 256
    · rw [decide_eq_true h2, decide_eq_true (show (b.length : Int) ≤ 256 by omega), bsel_true, Bool.true_and, i_areFinite_eq g s, obind_eq]
    · rw [decide_eq_false h2, decide_eq_false (show ¬ (b.length : Int) ≤ 256 by omega), bsel_false, Bool.false_and]
  · rw [decide_eq_false h1, decide_eq_false (show ¬ (1 : Int) ≤ (b.length : Int) by omega), Bool.false_and, Bool.false_and, bsel_false]
def midB (n : Nat) (X : List F) : Bool := (diagL n X).all fun x => !feq .f32 (some 0) x
theorem dorder_comm (d e : Ieee.Datum) : (d.order e == some .eq) = (e.order d == some .eq) := by
  cases d with
  | nan _ _ => cases e <;> rfl
  | infinity s =>
    cases e with
    | nan _ _ => rfl
    | infinity t => cases s <;> cases t <;> rfl
    | number t n j => cases s <;> rfl
  | number s m i =>
    cases e with
    | nan _ _ => rfl
    | infinity t => cases t <;> rfl
    | number t n j =>
      show (some (compare (Ieee.signed s m (i - min i j).toNat) (Ieee.signed t n (j - min i j).toNat)) == some Ordering.eq) = (some (compare (Ieee.signed t n (j - min j i).toNat) (Ieee.signed s m (i - min j i).toNat)) == some Ordering.eq)
      rw [Int.min_comm j i]
      generalize Ieee.signed s m (i - min i j).toNat = a
      generalize Ieee.signed t n (j - min i j).toNat = b
      by_cases h : a = b
      · subst h; rfl
      · have h1 : compare a b ≠ .eq := fun e => h (Int.compare_eq_eq.1 e)
        have h2 : compare b a ≠ .eq := fun e => h (Int.compare_eq_eq.1 e).symm
        revert h1 h2
        cases compare a b <;> cases compare b a <;> simp
theorem feq_comm (k : FloatKind) (x y : F) : feq k x y = feq k y x := by
  cases x with
  | none => cases y <;> rfl
  | some a =>
    cases y with
    | none => rfl
    | some b => exact dorder_comm _ _
theorem diagL_at {n : Nat} {X : List F} {i : Nat} {x : F} (h : (diagL n X)[i]? = some x) : i < n ∧ x = gm none X n i i := by
  unfold diagL at h
  rw [List.getElem?_map] at h
  by_cases hi : i < n
  · rw [List.getElem?_range hi] at h
    exact ⟨hi, (Option.some.inj h).symm⟩
  · rw [List.getElem?_eq_none (by simpa using hi)] at h; cases h
theorem i_Contains_zero {n : Nat} {X : List F} (hn : n ≤ 12) : x_slices_Contains_float32_float32 (diagL n X) (some 0) = some (!midB n X) := by
  unfold x_slices_Contains_float32_float32 x_slices_Index_float32_float32
  have ld : (diagL n X).length = n := diagL_len
  obtain ⟨r, h1, h2⟩ := loop_find (l := diagL n X) (p := fun x => feq .f32 (some 0) x) (step := x_slices_Index_float32_float32_s1 (diagL n X) (some 0)) (by
    intro v x h0 hv hx
    show x_slices_Index_float32_float32_b1 _ _ v = _
    unfold x_slices_Index_float32_float32_b1
    rw [at?_of h0 hx, wrap_succ h0 hv (by omega), show decide (v < ((diagL n X).length : Int)) = true from decide_eq_true hv, bsel_true, obind_eq]
    cases feq .f32 (some 0) x <;> rfl) (by
    show x_slices_Index_float32_float32_b1 _ _ _ = _
    unfold x_slices_Index_float32_float32_b1
    rw [dnlt, bsel_false])
  have e : (diagL n X).any (fun x => feq .f32 (some 0) x) = !midB n X := by
    unfold midB
    generalize diagL n X = l
    induction l with
    | nil => rfl
    | cons a l ih => simp [ih]
  rw [h1, e]
  cases midB n X with
  | true => rfl
  | false =>
    show some (decide (0 ≤ r)) = some true
    rw [decide_eq_true h2]
theorem s_l03Is_loop {n : Nat} {X : List F} (m : Mat n n X) : loopM (s_l03Is_s1 (n : Int) (n : Int) X) 0 = some (if midB n X then .inl () else .inr false) := by
  have hn := m.A1
  have ld : (diagL n X).length = n := diagL_len
  have e := loop_all (l := diagL n X) (p := fun x => !feq .f32 (some 0) x) false (step := s_l03Is_s1 (n : Int) (n : Int) X) (by
    intro v x h0 hv hx
    obtain ⟨i, rfl⟩ : ∃ i : Nat, v = (i : Int) := ⟨v.toNat, by omega⟩
    obtain ⟨hi, rfl⟩ := diagL_at hx
    rw [Int.toNat_natCast] at hi
    show s_l03Is_b1 _ _ _ _ = _
    unfold s_l03Is_b1
    rw [dlt hi, bsel_true, s_l02At_eq _ m hi hi, obind_eq, Int.toNat_natCast, feq_comm, wsucc (by omega)]
    cases feq .f32 (some 0) (gm none X n i i) <;> rfl) (by
    show s_l03Is_b1 _ _ _ _ = _
    unfold s_l03Is_b1
    rw [ld, dnlt, bsel_false])
  exact e
def facB (a0 a1 : Int) (a2 : List F) (a3 : List Int) : Bool := validM a0 a1 a2 && decide (a0 = a1) && (ordB a3 && (decide ((a3.length : Int) = a0) && midB a0.toNat a2))
theorem s_l03Is_eq (a0 a1 : Int) {a2 : List F} (a3 : List Int) (g : FOks a2) (s : a2.length ≤ 1048576) : s_l03Is a0 a1 a2 a3 = some (facB a0 a1 a2 a3) := by
  unfold s_l03Is facB
  rw [s_l02Square_eq a0 a1 g s, obind_eq]
  cases hv : validM a0 a1 a2 && decide (a0 = a1) with
  | false => rfl
  | true =>
    rw [bsel_true, Bool.true_and, s_l02Order_eq, obind_eq]
    cases ordB a3 with
    | false => rfl
    | true =>
      rw [bsel_true, Bool.true_and]
      cases decide ((a3.length : Int) = a0) with
      | false => rfl
      | true =>
        simp only [Bool.and_eq_true, decide_eq_true_eq] at hv
        obtain ⟨hv, he⟩ := hv
        obtain ⟨n, C, rfl, rfl, n0, C0, m, f⟩ := valid_mat hv
        have : n = C := by omega
        subst this
        show obind (loopM _ _) _ = _
        rw [s_l03Is_loop m, Int.toNat_natCast]
        cases midB n a2 <;> rfl
theorem i_ValidFactor_eq (a0 a1 : Int) {a2 : List F} (a3 : List Int) (g : FOks a2) (s : a2.length ≤ 1048576) : i_ValidFactor a0 a1 a2 a3 = some (facB a0 a1 a2 a3) := by
  unfold i_ValidFactor facB
  rw [i_isSquare_eq a0 a1 g s, obind_eq]
  cases hv : validM a0 a1 a2 && decide (a0 = a1) with
  | false => rfl
  | true =>
    simp only [Bool.and_eq_true, decide_eq_true_eq] at hv
    obtain ⟨hv, he⟩ := hv
    obtain ⟨n, C, rfl, rfl, n0, C0, m, f⟩ := valid_mat hv
    have : n = C := by omega
    subst this
    rw [bsel_true, Bool.true_and, i_Matrix_middle_eq m, obind_eq, i_Contains_zero m.A1, obind_eq, Int.toNat_natCast, i_IsOrder_eq]
    unfold i_length_int64
    cases midB n a2 with
    | false => cases ordB a3 <;> cases decide ((a3.length : Int) = (n : Int)) <;> rfl
    | true =>
      cases ordB a3 with
      | false => rfl
      | true =>
        show some (decide ((a3.length : Int) = (n : Int))) = _
        rw [Bool.true_and, Bool.and_true]
def fitB (a0 a1 : Int) (a2 : List F) (a3 : List Int) (a4 : List F) : Bool := facB a0 a1 a2 a3 && (vecB a4 && decide ((a4.length : Int) = a0))
theorem s_l03Fits_eq (a0 a1 : Int) {a2 : List F} (a3 : List Int) {a4 : List F} (g : FOks a2) (s : a2.length ≤ 1048576) (g4 : FOks a4) (s4 : a4.length ≤ 1048576) : s_l03Fits a0 a1 a2 a3 a4 = some (fitB a0 a1 a2 a3 a4) := by
  unfold s_l03Fits fitB
  rw [s_l03Is_eq a0 a1 a3 g s, obind_eq, s_l02Vector_eq g4 s4, obind_eq]
  cases facB a0 a1 a2 a3 <;> cases vecB a4 <;> rfl
theorem i_Factor_takes_eq (a0 a1 : Int) {a2 : List F} (a3 : List Int) {a4 : List F} (g : FOks a2) (s : a2.length ≤ 1048576) (g4 : FOks a4) (s4 : a4.length ≤ 1048576) : i_Factor_takes a0 a1 a2 a3 a4 = some (fitB a0 a1 a2 a3 a4) := by
  unfold i_Factor_takes i_length_float32 fitB
  rw [i_ValidFactor_eq a0 a1 a3 g s, obind_eq, i_IsVector_eq g4 s4, obind_eq]
  cases facB a0 a1 a2 a3 <;> cases vecB a4 <;> rfl
theorem fit_parts {a0 a1 : Int} {a2 : List F} {a3 : List Int} {a4 : List F} (h : fitB a0 a1 a2 a3 a4 = true) : ∃ n : Nat, a0 = (n : Int) ∧ a1 = (n : Int) ∧ 0 < n ∧ Mat n n a2 ∧ a2.all fin32 = true ∧ a4.length = n ∧ a3.length = n ∧ ∀ i, i < n → 0 ≤ a3.getD i 0 ∧ a3.getD i 0 < (n : Int) := by
  unfold fitB facB at h
  simp only [Bool.and_eq_true, decide_eq_true_eq] at h
  obtain ⟨⟨⟨hv, he⟩, ho, h3, hm⟩, h4, h5⟩ := h
  obtain ⟨n, C, rfl, rfl, n0, C0, m, f⟩ := valid_mat hv
  have : n = C := by omega
  subst this
  refine ⟨n, rfl, rfl, n0, m, f, by omega, by omega, fun i hi => ?_⟩
  have hl : a3.length = n := by omega
  unfold ordB at ho
  simp only [Bool.and_eq_true, decide_eq_true_eq] at ho
  have hG := (good_sorted rfl).1 ho.2.2
  rw [List.getD_eq_getElem?_getD, List.getElem?_eq_getElem (by omega)]
  have := hG.1 a3[i] (List.getElem_mem _)
  exact ⟨this.1, by have h6 := this.2; show a3[i] < (n : Int); omega⟩
theorem rowH_ok {n : Nat} {X : List F} : ∀ i y L, FOk .f32 y → FOk .f32 (rowH n X i y L) := fun _ _ _ h => lessG_ok h
theorem upH_ok {n : Nat} {X : List F} : ∀ i y L, FOk .f32 y → FOk .f32 (upH n X i y L) := fun _ _ _ _ => fop_fok _ _ _
theorem FactorSolve_full (a0 a1 : Int) (a2 : List F) (a3 : List Int) (a4 : List F) (g : FOks a2) (g4 : FOks a4) (s2 : a2.length ≤ 1048576) (s3 : a3.length ≤ 1048576) (s4 : a4.length ≤ 1048576) : ∃ b l, s_FactorSolve a0 a1 a2 a3 a4 = some (b, l) ∧ i_FactorSolve a0 a1 a2 a3 a4 = some (b, l) ∧ FOks l ∧ l.length ≤ 12 ∧ (b = true → (l.length : Int) = a0) := by
  unfold s_FactorSolve i_FactorSolve
  rw [s_l03Fits_eq a0 a1 a3 g s2 g4 s4, i_Factor_takes_eq a0 a1 a3 g s2 g4 s4, obind_eq, obind_eq]
  cases hf : fitB a0 a1 a2 a3 a4 with
  | false => exact ⟨_, _, rfl, rfl, (fun x hx => by cases hx), by simp, fun h => by cases h⟩
  | true =>
    obtain ⟨n, rfl, rfl, n0, m, f, hb, ho, hr⟩ := fit_parts hf
    have hn := m.A1
    have gR : FOks (upL (upH n a2) n (lowL (rowH n a2) (ordC a3 a4 n) n)) := upL_oks upH_ok (lowL_oks rowH_ok (ordC_oks g4) n)
    have lR : (upL (upH n a2) n (lowL (rowH n a2) (ordC a3 a4 n) n)).length = n := by rw [upL_len, lowL_len]
    rw [bsel_true, bsel_true, s_l03Solve_eq m hb ho hr, i_Factor_solve_eq m n0 hb ho hr, obind_eq, obind_eq]
    unfold s_l02List_0o i_allFinite_0o
    rw [s_l02Finite_eq gR (by omega), i_areFinite_eq gR (by omega), obind_eq]
    cases (upL (upH n a2) n (lowL (rowH n a2) (ordC a3 a4 n) n)).all fin32 with
    | true =>
      rw [bsel_true, obind_eq, osum_inl, obind2_eq, decide_eq_true rfl, need_true]
      exact ⟨_, _, rfl, rfl, gR, by omega, fun _ => by rw [lR]⟩
    | false =>
      rw [bsel_false, obind_eq, osum_inr, obind3_eq, decide_eq_true rfl, need_true]
      exact ⟨_, _, rfl, rfl, (fun x hx => by cases hx), by simp, fun h => by cases h⟩
def dotB (a b : List F) : Bool := vecB a && (vecB b && decide ((a.length : Int) = (b.length : Int)))
theorem i_areVectors_eq {a b : List F} (g : FOks a) (s : a.length ≤ 1048576) (g' : FOks b) (s' : b.length ≤ 1048576) : i_areVectors a b = some (dotB a b) := by
  unfold i_areVectors dotB
  rw [i_IsVector_eq g s, i_IsVector_eq g' s', obind_eq, obind_eq]
  cases vecB a <;> cases vecB b <;> rfl
def dvP (a b : List F) : F × Bool := bif dotB a b then (bif fin32 (dotN (fun i => a.getD i none) (fun i => b.getD i none) a.length) then (dotN (fun i => a.getD i none) (fun i => b.getD i none) a.length, true) else (some 0, false)) else (some 0, false)
theorem dotB_len {a b : List F} (h : dotB a b = true) : a.length = b.length ∧ a.length ≤ 256 := by
  unfold dotB vecB at h
  simp only [Bool.and_eq_true, decide_eq_true_eq] at h
  omega
theorem i_DotVectors_eq {a b : List F} (g : FOks a) (s : a.length ≤ 1048576) (g' : FOks b) (s' : b.length ≤ 1048576) : i_DotVectors a b = some (dvP a b) := by
  unfold i_DotVectors dvP i_finite
  rw [i_areVectors_eq g s g' s', obind_eq]
  cases hd : dotB a b with
  | false => rfl
  | true =>
    obtain ⟨h1, h2⟩ := dotB_len hd
    rw [bsel_true, cond_true, i_dot_eq (by omega) (by omega), obind_eq, i_IsFinite_eq (dotN_ok _ _ _), obind_eq]
    cases fin32 (dotN (fun i => a.getD i none) (fun i => b.getD i none) a.length) <;> rfl
theorem s_l02Dot_dotN {l m : List F} (h : l.length ≤ m.length) (hl : l.length ≤ 1000000) : s_l02Dot l m = some (dotN (fun i => l.getD i none) (fun i => m.getD i none) l.length) := by
  obtain ⟨e, _⟩ := loop_run (step := s_l02Dot_s1 l m) (fun (i : Nat) (y : F) => (y, (i : Int))) (dotE (fun i => l.getD i none) (fun i => m.getD i none)) (fun y => y) (fun _ _ => True) (lo := 0) (n := l.length) (Nat.zero_le _) (s0 := some 0) trivial
    (fun i y _ hi _ => by
      refine ⟨?_, trivial⟩
      show s_l02Dot_b1 _ _ _ _ = _
      unfold s_l02Dot_b1
      rw [dlt hi, bsel_true, at?_n none hi, obind_eq, at?_n none (by omega), obind_eq, olet_eq, olet_eq, wsucc (by omega)]
      rfl)
    (fun y _ => by
      show s_l02Dot_b1 _ _ _ _ = _
      unfold s_l02Dot_b1
      rw [dnlt, bsel_false])
  unfold s_l02Dot
  replace e : loopM (s_l02Dot_s1 l m) (some 0, 0) = some (.inl (run (dotE (fun i => l.getD i none) (fun i => m.getD i none)) 0 (l.length - 0) (some 0))) := e
  rw [e]; rfl
theorem s_DotVectors_eq {a b : List F} (g : FOks a) (s : a.length ≤ 1048576) (g' : FOks b) (s' : b.length ≤ 1048576) : s_DotVectors a b = some (dvP a b) := by
  unfold s_DotVectors s_l02Vectors dvP s_l02Number
  rw [s_l02Vector_eq g s, s_l02Vector_eq g' s', obind_eq, obind_eq]
  have e : bsel (vecB a) (bsel (vecB b) (some (decide ((a.length : Int) = (b.length : Int)))) (some false)) (some false) = some (dotB a b) := by
    unfold dotB
    cases vecB a <;> cases vecB b <;> rfl
  rw [e, obind_eq]
  cases hd : dotB a b with
  | false => rfl
  | true =>
    obtain ⟨h1, h2⟩ := dotB_len hd
    rw [bsel_true, cond_true, s_l02Dot_dotN (by omega) (by omega), obind_eq, s_l01Finite_eq (dotN_ok _ _ _), obind_eq]
    cases fin32 (dotN (fun i => a.getD i none) (fun i => b.getD i none) a.length) <;> rfl
def usL (q : F) (x z : List F) : List F := (List.range x.length).map fun i => fop .sub .f32 (x.getD i none) (fop .mul .f32 q (z.getD i none))
theorem usL_len {q : F} {x z : List F} : (usL q x z).length = x.length := by simp [usL]
theorem usL_oks {q : F} {x z : List F} : FOks (usL q x z) := fun c hc => by
  obtain ⟨i, _, rfl⟩ := List.mem_map.1 hc
  exact fop_fok _ _ _
theorem s_UpdatedSolve_loop {q : F} {x z : List F} (hz : x.length ≤ z.length) (hl : x.length ≤ 1000) : loopM (s_UpdatedSolve_s1 x z q) ([], 0) = some (.inl (usL q x z)) := by
  have e := (loop_run (step := s_UpdatedSolve_s1 x z q) (fun (i : Nat) (l : List F) => (l, (i : Int))) (fun i l => l ++ [fop .sub .f32 (x.getD i none) (fop .mul .f32 q (z.getD i none))]) (fun l => l) (fun i l => l.length = i) (lo := 0) (n := x.length) (Nat.zero_le _) (s0 := []) rfl
    (fun i l _ hi hI => by
      refine ⟨?_, by simp [hI]⟩
      show s_UpdatedSolve_b1 _ _ _ _ _ = _
      unfold s_UpdatedSolve_b1
      dsimp only
      have ap : apok 4 l.length 1 = true := by simp [apok, hI]; omega
      rw [dlt hi, bsel_true, at?_n none hi, obind_eq, at?_n none (by omega), obind_eq, olet_eq, olet_eq, ap, need_true, wsucc (by omega)]
      rfl)
    (fun l _ => by
      show s_UpdatedSolve_b1 _ _ _ _ _ = _
      unfold s_UpdatedSolve_b1
      rw [dnlt, bsel_false])).1
  rw [Nat.sub_zero, run_map] at e
  exact e
theorem i_less_eq {q : F} {x z : List F} (hz : x.length ≤ z.length) (hl : x.length ≤ 1000) : i_less_0o_2o1 q x z = some (usL q x z, z) := by
  have e := (loop_run (step := i_less_0o_2o1_s1 q x z) (fun (i : Nat) (L : List F) => (L, (i : Int))) (fun i L => L.set i (fop .sub .f32 (L.getD i none) (fop .mul .f32 q (z.getD i none)))) (fun l => l) (fun _ L => L.length = x.length) (lo := 0) (n := x.length) (Nat.zero_le _) (s0 := x) rfl
    (fun i L _ hi hI => by
      refine ⟨?_, by simp [hI]⟩
      show i_less_0o_2o1_b1 _ _ _ _ _ = _
      unfold i_less_0o_2o1_b1
      dsimp only
      rw [dlt hi, bsel_true, at?_n none (by omega), obind_eq, at?_n none (by omega), obind_eq, i_mul_eq, obind_eq, olet_eq, setAt?_n _ (by omega), obind_eq, wsucc (by omega)]
      rfl)
    (fun l _ => by
      show i_less_0o_2o1_b1 _ _ _ _ _ = _
      unfold i_less_0o_2o1_b1
      rw [dnlt, bsel_false])).1
  rw [Nat.sub_zero] at e
  replace e : loopM (i_less_0o_2o1_s1 q x z) (x, 0) = some (.inl (setAll (fun i y => fop .sub .f32 y (fop .mul .f32 q (z.getD i none))) x.length x)) := e
  have hs : setAll (fun i y => fop .sub .f32 y (fop .mul .f32 q (z.getD i none))) x.length x = usL q x z := by
    obtain ⟨h1, h2⟩ := setAll_spec (fun i y => fop .sub .f32 y (fop .mul .f32 q (z.getD i none))) x.length x (Nat.le_refl _)
    apply List.ext_getElem
    · rw [h1, usL_len]
    · intro i h3 h4
      have hi : i < x.length := by rw [usL_len] at h4; exact h4
      have := h2 i hi
      rw [List.getD_eq_getElem?_getD, List.getElem?_eq_getElem h3] at this
      have e5 : (usL q x z)[i] = fop .sub .f32 (x.getD i none) (fop .mul .f32 q (z.getD i none)) := by simp [usL]
      rw [e5]
      exact this
  unfold i_less_0o_2o1
  rw [e, hs]; rfl
theorem UpdatedSolve_eq (a0 a1 : Int) (a2 : List F) (a3 : List Int) (a4 a5 a6 : List F) (g : FOks a2) (g4 : FOks a4) (g5 : FOks a5) (g6 : FOks a6) (s2 : a2.length ≤ 1048576) (s3 : a3.length ≤ 1048576) (s4 : a4.length ≤ 1048576) (s5 : a5.length ≤ 1048576) (s6 : a6.length ≤ 1048576) : ∃ b l, s_UpdatedSolve a0 a1 a2 a3 a4 a5 a6 = some (b, l) ∧ i_UpdatedSolve a0 a1 a2 a3 a4 a5 a6 = some (b, l) ∧ l.length ≤ 1048576 := by
  obtain ⟨b1, x, h1, h2, gx, lx, hx⟩ := FactorSolve_full a0 a1 a2 a3 a6 g g6 s2 s3 s6
  obtain ⟨b2, z, k1, k2, gz, lz, hz⟩ := FactorSolve_full a0 a1 a2 a3 a4 g g4 s2 s3 s4
  unfold s_UpdatedSolve i_UpdatedSolve
  rw [h1, h2, k1, k2]
  cases b1 with
  | false => cases b2 <;> exact ⟨_, _, rfl, rfl, by simp⟩
  | true =>
    cases b2 with
    | false => exact ⟨_, _, rfl, rfl, by simp⟩
    | true =>
      have e1 := hx rfl
      have e2 := hz rfl
      simp only [obind2_eq, bsel_true]
      rw [s_DotVectors_eq g5 s5 gx (by omega), s_DotVectors_eq g5 s5 gz (by omega), i_DotVectors_eq g5 s5 gx (by omega), i_DotVectors_eq g5 s5 gz (by omega)]
      generalize dvP a5 x = p
      generalize dvP a5 z = r
      obtain ⟨p1, p2⟩ := p
      obtain ⟨r1, r2⟩ := r
      cases p2 with
      | false => cases r2 <;> exact ⟨_, _, rfl, rfl, by simp⟩
      | true =>
        cases r2 with
        | false => exact ⟨_, _, rfl, rfl, by simp⟩
        | true =>
          simp only [obind2_eq, bsel_true, olet_eq]
          generalize fop .quo .f32 p1 (fop .add .f32 (some 1065353216) r1) = q
          have lu : (usL q x z).length = x.length := usL_len
          rw [s_UpdatedSolve_loop (by omega) (by omega), i_less_eq (by omega) (by omega), obind_eq, obind2_eq, osum_inl, lu, decide_eq_true rfl, need_true, decide_eq_true rfl, need_true]
          unfold s_UpdatedSolve_k1 s_l02List_0o i_allFinite_0o
          rw [s_l02Finite_eq usL_oks (by omega), i_areFinite_eq usL_oks (by omega), obind_eq, lu]
          cases (usL q x z).all fin32 with
          | true =>
            simp only [obind_eq, bsel_true, osum_inl, obind2_eq, lu, decide_true, need_true]
            exact ⟨_, _, rfl, rfl, by omega⟩
          | false =>
            simp only [obind_eq, bsel_false, osum_inr, obind3_eq, lu, decide_true, need_true]
            exact ⟨_, _, rfl, rfl, by simp⟩
theorem w_FnExactUpdatedSolve_true (a0 : Int) (a1 : Int) (a2 : List F) (a3 : List Int) (a4 : List F) (a5 : List F) (a6 : List F) (s_a2 : Small a2) (s_a3 : Small a3) (s_a4 : Small a4) (s_a5 : Small a5) (s_a6 : Small a6) (g_a2 : FOks a2) (g_a4 : FOks a4) (g_a5 : FOks a5) (g_a6 : FOks a6) : w_FnExactUpdatedSolve a0 a1 a2 a3 a4 a5 a6 = some true := by
  rcases Nat.lt_or_ge 1048576 a4.length with cb0 | t_a4
  · have db : decide ((1048576 : Int) < (a4.length : Int)) = true := decide_eq_true (by omega)
    simp [w_FnExactUpdatedSolve, w_eqFactor, w_eqMatrix, w_markFactor_02o_03o1, w_markMatrix_02o, w_szFactor, w_szMatrix, w_toFactor, w_toMatrix, db]
  have db0 : decide ((1048576 : Int) < (a4.length : Int)) = false := decide_eq_false (by omega)
  rcases Nat.lt_or_ge 1048576 a5.length with cb1 | t_a5
  · have db : decide ((1048576 : Int) < (a5.length : Int)) = true := decide_eq_true (by omega)
    simp [w_FnExactUpdatedSolve, w_eqFactor, w_eqMatrix, w_markFactor_02o_03o1, w_markMatrix_02o, w_szFactor, w_szMatrix, w_toFactor, w_toMatrix, db, db0]
  have db1 : decide ((1048576 : Int) < (a5.length : Int)) = false := decide_eq_false (by omega)
  rcases Nat.lt_or_ge 1048576 a6.length with cb2 | t_a6
  · have db : decide ((1048576 : Int) < (a6.length : Int)) = true := decide_eq_true (by omega)
    simp [w_FnExactUpdatedSolve, w_eqFactor, w_eqMatrix, w_markFactor_02o_03o1, w_markMatrix_02o, w_szFactor, w_szMatrix, w_toFactor, w_toMatrix, db, db0, db1]
  have db2 : decide ((1048576 : Int) < (a6.length : Int)) = false := decide_eq_false (by omega)
  obtain ⟨l0, e0, h0⟩ := w_szFloat32S_ex a2 1048576 s_a2 (by omega) (by omega)
  rcases Int.lt_or_le l0 0 with c0 | c0
  · simp [w_FnExactUpdatedSolve, w_eqFactor, w_eqMatrix, w_markFactor_02o_03o1, w_markMatrix_02o, w_szFactor, w_szMatrix, w_toFactor, w_toMatrix, e0, c0, db0, db1, db2]
  have d0 : decide (l0 < 0) = false := by simp; omega
  have t0 := h0 c0
  have t_a2 : a2.length ≤ 1048576 := by omega
  obtain ⟨l1, e1, h1⟩ := w_szInt64S_ex a3 l0 s_a3 (by omega) (by omega)
  rcases Int.lt_or_le l1 0 with c1 | c1
  · simp [w_FnExactUpdatedSolve, w_eqFactor, w_eqMatrix, w_markFactor_02o_03o1, w_markMatrix_02o, w_szFactor, w_szMatrix, w_toFactor, w_toMatrix, e0, e1, d0, c1, db0, db1, db2]
  have d1 : decide (l1 < 0) = false := by simp; omega
  have t1 := h1 c1
  have t_a3 : a3.length ≤ 1048576 := by omega
  have f1 : w_toFloat32S a2 = some a2 := w_toFloat32S_eq a2 t_a2
  have f2 : w_toInt64S a3 = some a3 := w_toInt64S_eq a3 t_a3
  have f3 : w_toFloat32S a4 = some a4 := w_toFloat32S_eq a4 t_a4
  have f4 : w_toFloat32S a5 = some a5 := w_toFloat32S_eq a5 t_a5
  have f5 : w_toFloat32S a6 = some a6 := w_toFloat32S_eq a6 t_a6
  obtain ⟨z0, z1, p1, p2, b_z1⟩ := UpdatedSolve_eq a0 a1 a2 a3 a4 a5 a6 g_a2 g_a4 g_a5 g_a6 t_a2 t_a3 t_a4 t_a5 t_a6
  have f6 : w_eqFloat32S z1 z1 = some true := w_eqFloat32S_refl z1 b_z1
  have f7 : (!(z0 == z0)) = false := by cases z0 <;> rfl
  have f8 : w_eqFloat32S a2 a2 = some true := w_eqFloat32S_refl a2 t_a2
  have f9 : w_eqInt64S a3 a3 = some true := w_eqInt64S_refl a3 t_a3
  have f10 : w_eqFloat32S a4 a4 = some true := w_eqFloat32S_refl a4 t_a4
  have f11 : w_eqFloat32S a5 a5 = some true := w_eqFloat32S_refl a5 t_a5
  have f12 : w_eqFloat32S a6 a6 = some true := w_eqFloat32S_refl a6 t_a6
  have f13 : w_markFloat32S_0o 1 a2 = some ((1 + (a2.length : Int)), marks 1 a2.length) := w_markFloat32S_0o_eq 1 a2 (by omega) (by omega) t_a2
  have f14 : w_markInt64S_0o (1 + (a2.length : Int)) a3 = some (((1 + (a2.length : Int)) + (a3.length : Int)), marksI (1 + (a2.length : Int)) a3.length) := w_markInt64S_0o_eq (1 + (a2.length : Int)) a3 (by omega) (by omega) t_a3
  have f15 : w_markFloat32S_0o ((1 + (a2.length : Int)) + (a3.length : Int)) a4 = some ((((1 + (a2.length : Int)) + (a3.length : Int)) + (a4.length : Int)), marks ((1 + (a2.length : Int)) + (a3.length : Int)) a4.length) := w_markFloat32S_0o_eq ((1 + (a2.length : Int)) + (a3.length : Int)) a4 (by omega) (by omega) t_a4
  have f16 : w_markFloat32S_0o (((1 + (a2.length : Int)) + (a3.length : Int)) + (a4.length : Int)) a5 = some (((((1 + (a2.length : Int)) + (a3.length : Int)) + (a4.length : Int)) + (a5.length : Int)), marks (((1 + (a2.length : Int)) + (a3.length : Int)) + (a4.length : Int)) a5.length) := w_markFloat32S_0o_eq (((1 + (a2.length : Int)) + (a3.length : Int)) + (a4.length : Int)) a5 (by omega) (by omega) t_a5
  have f17 : w_markFloat32S_0o ((((1 + (a2.length : Int)) + (a3.length : Int)) + (a4.length : Int)) + (a5.length : Int)) a6 = some ((((((1 + (a2.length : Int)) + (a3.length : Int)) + (a4.length : Int)) + (a5.length : Int)) + (a6.length : Int)), marks ((((1 + (a2.length : Int)) + (a3.length : Int)) + (a4.length : Int)) + (a5.length : Int)) a6.length) := w_markFloat32S_0o_eq ((((1 + (a2.length : Int)) + (a3.length : Int)) + (a4.length : Int)) + (a5.length : Int)) a6 (by omega) (by omega) t_a6
  have f18 : decide ((((((1 + (a2.length : Int)) + (a3.length : Int)) + (a4.length : Int)) + (a5.length : Int)) + (a6.length : Int)) < 0) = false := by simp <;> omega
  have f19 : w_markFloat32S_0o 1 z1 = some ((1 + (z1.length : Int)), marks 1 z1.length) := w_markFloat32S_0o_eq 1 z1 (by omega) (by omega) b_z1
  have f20 : w_heldFloat32S (marks 1 z1.length) 1 = some (1 + (z1.length : Int)) := w_heldFloat32S_eq 1 z1.length (by omega) (by omega) b_z1
  have f21 : decide ((1 + (z1.length : Int)) < 0) = false := by simp <;> omega
  simp only [w_FnExactUpdatedSolve, w_eqFactor, w_eqMatrix, w_markFactor_02o_03o1, w_markMatrix_02o, w_szFactor, w_szMatrix, w_toFactor, w_toMatrix, db0, db1, db2, e0, d0, e1, d1, f1, f2, f3, f4, f5, p1, p2, f6, f7, f8, f9, f10, f11, f12, f13, f14, f15, f16, f17, f18, f19, f20, f21, obind_eq, obind2_eq, obind3_eq, obind4_eq, obind5_eq, obind6_eq, obind7_eq, obind8_eq, bsel_true, bsel_false, need_true, olet_eq, marks_len, marksI_len, decide_true, Bool.not_true, Bool.not_false]

end Go.Proofs.YtjdonddobkpghaaGreat
