/- The plain law of FnExactSideTurns. -/
import Derived.Test.YtjbifkimffmhpaaG2
namespace Go.Proofs.Ytjbifkimffmhpaa
set_option linter.unusedSimpArgs false
set_option linter.unusedVariables false
open Go Go.AM
def Small {α : Type} (l : List α) : Prop := l.length ≤ 9223372036854775807
theorem sz_one (n : Nat) (a : Int) (hn : n ≤ 9223372036854775807) (h0 : 0 ≤ a) (h1 : a ≤ 1048576) :
    ∃ r, olet (IntKind.i64.wrap (a - (n : Int))) (fun x1 => bsel (decide (x1 < 0)) (some (-1)) (some x1)) = some r ∧ (0 ≤ r → (n : Int) ≤ a ∧ r ≤ a) := by
  rw [wrap_i64 (by omega) (by omega)]
  simp only [olet_eq, bsel_if, decide_eq_true_eq]
  split
  · exact ⟨_, rfl, fun h => by omega⟩
  · exact ⟨_, rfl, fun h => by omega⟩
theorem w_szFloat32S_ex (l : List F) (a : Int) (hn : Small l) (h0 : 0 ≤ a) (h1 : a ≤ 1048576) : ∃ r, w_szFloat32S l a = some r ∧ (0 ≤ r → (l.length : Int) ≤ a ∧ r ≤ a) := sz_one l.length a hn h0 h1
theorem w_toFloat32S_eq (a : List F) (h : a.length ≤ 1048576) : w_toFloat32S a = some a := by
  unfold w_toFloat32S
  have hm : mkok 4 (a.length : Int) = true := by simp [mkok]; omega
  rw [hm, need_true, loop_copy (a := a) (ρ := List F) ?_ ?_ _ (by simp)]
  · rfl
  · intro L v x h0 hv hx hL
    show w_toFloat32S_b1 a L v = _
    unfold w_toFloat32S_b1
    have hs := setAt?_of (l := L) (x := x) h0 (by omega)
    simp [bsel_if, hv, at?_of h0 hx, hs, wrap_succ h0 hv (by omega : a.length ≤ 9223372036854775807)]
  · intro L hL
    show w_toFloat32S_b1 a L (a.length : Int) = _
    unfold w_toFloat32S_b1
    simp [bsel_if]
theorem w_sameFloat_refl (c : F) : w_sameFloat c c = some true := by
  unfold w_sameFloat
  cases h : feq .f64 c c <;> simp [w_sameFloat_k1, h, bsel_if]
theorem w_eqFloat32S_refl (a : List F) (h : a.length ≤ 1048576) : w_eqFloat32S a a = some true := by
  unfold w_eqFloat32S
  rw [loop_eq (l := a) (m := a) rfl ?_ ?_]
  · simp [bsel_if, w_eqFloat32S_k1]
  · intro v x y h0 hv hx hy
    rw [hx] at hy; cases hy
    show w_eqFloat32S_b1 a a v = _
    unfold w_eqFloat32S_b1
    rw [at?_of h0 hx, wrap_succ h0 hv (by omega)]
    simp [bsel_if, hv, w_sameFloat_refl]
  · show w_eqFloat32S_b1 a a (a.length : Int) = _
    unfold w_eqFloat32S_b1
    simp [bsel_if]
def FOks (l : List F) : Prop := ∀ c ∈ l, FOk .f32 c
theorem FOks.at {l : List F} (h : FOks l) {i : Nat} {c : F} (e : l[i]? = some c) : FOk .f32 c := h c (List.mem_of_getElem? e)
theorem s_l00In_eq (n lo hi : Int) : s_l00In n lo hi = some (decide (lo ≤ n) && decide (n ≤ hi)) := by
  unfold s_l00In; cases decide (lo ≤ n) <;> rfl
theorem i_inRange_eq (n lo hi : Int) : i_inRange n lo hi = some (decide (lo ≤ n) && decide (n ≤ hi)) := by
  unfold i_inRange; cases decide (lo ≤ n) <;> rfl
theorem s_l01Finite_eq {c : F} (h : FOk .f32 c) : s_l01Finite c = some (fin32 c) := by
  unfold s_l01Finite; rw [olet_eq, sub_self h]
theorem s_l02Finite_eq {a : List F} (ha : FOks a) (sa : a.length ≤ 1048576) : s_l02Finite a = some (a.all fin32) := by
  unfold s_l02Finite
  rw [loop_all (l := a) (p := fin32) false ?_ ?_]
  · cases h : a.all fin32 <;> simp [s_l02Finite_k1]
  · intro v x h0 hv hx
    show s_l02Finite_b1 a v = _
    unfold s_l02Finite_b1
    rw [at?_of h0 hx, wrap_succ h0 hv (by omega)]
    simp [bsel_if, hv, s_l01Finite_eq (ha.at hx)]
  · show s_l02Finite_b1 a (a.length : Int) = _
    unfold s_l02Finite_b1
    simp [bsel_if]
theorem i_IsFinite_eq {c : F} (h : FOk .f32 c) : i_IsFinite c = some (fin32 c) := by
  unfold i_IsFinite i_isFinite64 x_math_IsNaN x_math_IsInf x_math_Abs x_math_IsInf_k1
  cases c with
  | none => simp [fwiden, fin32]
  | some b =>
    have hw := feq_refl (k := .f64) (b := FloatKind.f64.encode (FloatKind.f32.decode b)) (fwiden_ok h)
    have hw' : feq .f64 (fwiden (some b)) (fwiden (some b)) = true := hw
    have hm := fabs_max h (by simp)
    simp only [olet_eq, obind_eq, hw', Bool.not_true, bsel_false, decide_true, bsel_true, hm, Bool.not_not]
theorem i_areFinite_1_eq {c : F} (h : FOk .f32 c) : i_areFinite_1 c = some (!fin32 c) := by
  unfold i_areFinite_1; rw [i_IsFinite_eq h]; rfl
theorem any_not {α : Type} (l : List α) (p : α → Bool) : l.any (fun x => !p x) = !l.all p := by
  induction l with
  | nil => rfl
  | cons a l ih => simp [ih]
theorem i_areFinite_eq {a : List F} (ha : FOks a) (sa : a.length ≤ 1048576) : i_areFinite a = some (a.all fin32) := by
  unfold i_areFinite x_slices_ContainsFunc_float32_float32_1Fi_areFinite_1 x_slices_IndexFunc_float32_float32_1Fi_areFinite_1
  obtain ⟨r, h1, h2⟩ := loop_find (l := a) (p := fun c => !fin32 c) (step := x_slices_IndexFunc_float32_float32_1Fi_areFinite_1_s1 a) (by
    intro v x h0 hv hx
    show x_slices_IndexFunc_float32_float32_1Fi_areFinite_1_b1 a v = _
    unfold x_slices_IndexFunc_float32_float32_1Fi_areFinite_1_b1
    rw [at?_of h0 hx, wrap_succ h0 hv (by omega)]
    simp [bsel_if, hv, i_areFinite_1_eq (ha.at hx)]) (by
    show x_slices_IndexFunc_float32_float32_1Fi_areFinite_1_b1 a (a.length : Int) = _
    unfold x_slices_IndexFunc_float32_float32_1Fi_areFinite_1_b1
    simp [bsel_if])
  rw [h1, any_not]
  cases h : a.all fin32 <;> simp [x_slices_IndexFunc_float32_float32_1Fi_areFinite_1_k1, h2]
theorem fint_ok (n : Int) : FOk .f32 (fint .f32 n) := ⟨_, encode_FR .f32 (d := .number (n < 0) n.natAbs 0) rfl⟩
theorem feq_fint (n : Int) : feq .f32 (fint .f32 n) (fint .f32 n) = true := feq_refl (fint_ok n)
def marks (k : Int) (n : Nat) : List F := (List.range n).map fun (i : Nat) => fint .f32 (k + (i : Int))
def marksI (k : Int) (n : Nat) : List Int := (List.range n).map fun (i : Nat) => k + (i : Int)
theorem marks_len (k : Int) (n : Nat) : (marks k n).length = n := by simp [marks]
theorem marksI_len (k : Int) (n : Nat) : (marksI k n).length = n := by simp [marksI]
theorem loop_mark {α ρ : Type} (mk : Int → α) (k : Int) (n : Nat) {step : List α × Int × Int → Option (LR (List α × Int × Int) (List α × Int) ρ)}
    (hstep : ∀ (L : List α) (i : Nat), i < n → L.length = n → step (L, k + (i : Int), (i : Int)) = some (.next (L.set i (mk (k + (i : Int))), k + ((i + 1 : Nat) : Int), ((i + 1 : Nat) : Int))))
    (hend : ∀ L : List α, L.length = n → step (L, k + (n : Int), (n : Int)) = some (.out (L, k + (n : Int)))) (a : List α) (ha : a.length = n) :
    loopM step (a, k, 0) = some (.inl ((List.range n).map (fun (i : Nat) => mk (k + (i : Int))), k + (n : Int))) := by
  have key : ∀ (m i : Nat) (L : List α), m + i = n → L.length = n → L.take i = (List.range i).map (fun (i : Nat) => mk (k + (i : Int))) → loopM step (L, k + (i : Int), (i : Int)) = some (.inl ((List.range n).map (fun (i : Nat) => mk (k + (i : Int))), k + (n : Int))) := by
    intro m
    induction m with
    | zero =>
      intro i L hi hL ht
      have : i = n := by omega
      subst this
      rw [loopM_out (hend L hL), ← ht, ← hL, List.take_length]
    | succ m ih =>
      intro i L hi hL ht
      rw [loopM_next (hstep L i (by omega) hL)]
      refine ih (i + 1) _ (by omega) (by simpa using hL) ?_
      rw [List.take_succ_eq_append_getElem (by simp; omega), List.take_set_of_le (Nat.le_refl _), ht, List.range_succ, List.map_append]
      simp
  have := key n 0 a (by omega) ha (by simp)
  simpa using this
theorem w_markFloat32S_0o_eq (k : Int) (a : List F) (h0 : -1000000000 ≤ k) (h1 : k ≤ 1000000000) (ha : a.length ≤ 1048576) : w_markFloat32S_0o k a = some (k + (a.length : Int), marks k a.length) := by
  unfold w_markFloat32S_0o
  rw [loop_mark (fun n => fint .f32 n) k a.length (step := w_markFloat32S_0o_s1 a) ?_ ?_ a rfl]
  · rfl
  · intro L i hi hL
    show w_markFloat32S_0o_b1 a L (k + (i : Int)) (i : Int) = _
    unfold w_markFloat32S_0o_b1
    have hs := setAt?_of (l := L) (v := (i : Int)) (x := fint .f32 (k + (i : Int))) (by omega) (by omega)
    have e1 : IntKind.i64.wrap (k + (i : Int) + 1) = k + ((i + 1 : Nat) : Int) := by rw [wrap_i64 (by omega) (by omega)]; omega
    have e2 : IntKind.i64.wrap ((i : Int) + 1) = ((i + 1 : Nat) : Int) := by rw [wrap_i64 (by omega) (by omega)]; omega
    simp only [olet_eq, hs, obind_eq, e1, e2, bsel_if, decide_eq_true_eq]
    rw [if_pos (by omega)]
    rfl
  · intro L hL
    show w_markFloat32S_0o_b1 a L (k + (a.length : Int)) (a.length : Int) = _
    unfold w_markFloat32S_0o_b1
    simp [bsel_if]
theorem loop_held {k : Int} {n : Nat} {step : Int × Int → Option (LR (Int × Int) Int Int)}
    (hstep : ∀ i : Nat, i < n → step (k + (i : Int), (i : Int)) = some (.next (k + ((i + 1 : Nat) : Int), ((i + 1 : Nat) : Int)))) (hend : step (k + (n : Int), (n : Int)) = some (.out (k + (n : Int)))) :
    loopM step (k, 0) = some (.inl (k + (n : Int))) := by
  have key : ∀ (m i : Nat), m + i = n → loopM step (k + (i : Int), (i : Int)) = some (.inl (k + (n : Int))) := by
    intro m
    induction m with
    | zero => intro i hi; have : i = n := by omega
              subst this; exact loopM_out hend
    | succ m ih => intro i hi; rw [loopM_next (hstep i (by omega))]; exact ih (i + 1) (by omega)
  have := key n 0 (by omega)
  simpa using this
theorem w_heldFloat32S_eq (k : Int) (n : Nat) (h0 : -1000000000 ≤ k) (h1 : k ≤ 1000000000) (hn : n ≤ 1048576) : w_heldFloat32S (marks k n) k = some (k + (n : Int)) := by
  unfold w_heldFloat32S
  rw [loop_held (k := k) (n := n) (step := w_heldFloat32S_s1 (marks k n)) ?_ ?_]
  · rfl
  · intro i hi
    show w_heldFloat32S_b1 (marks k n) (k + (i : Int)) (i : Int) = _
    unfold w_heldFloat32S_b1
    have hx : (marks k n)[(i : Int).toNat]? = some (fint .f32 (k + (i : Int))) := by simp [marks, hi]
    have e1 : IntKind.i64.wrap (k + (i : Int) + 1) = k + ((i + 1 : Nat) : Int) := by rw [wrap_i64 (by omega) (by omega)]; omega
    have e2 : IntKind.i64.wrap ((i : Int) + 1) = ((i + 1 : Nat) : Int) := by rw [wrap_i64 (by omega) (by omega)]; omega
    rw [at?_of (by omega) hx]
    simp only [olet_eq, obind_eq, e1, e2, bsel_if, decide_eq_true_eq, marks_len, feq_fint]
    rw [if_pos (by omega)]
    simp
  · show w_heldFloat32S_b1 (marks k n) (k + (n : Int)) (n : Int) = _
    unfold w_heldFloat32S_b1
    simp [bsel_if, marks_len]
abbrev q1 : List F := [some 1073741824, some 1065353216, some 1065353216, some 1073741824]
abbrev q2 : List F := [some 1065353216, some 0]
theorem small_mul {x y : Nat} (hx : x ≤ 12) (hy : y ≤ 12) : x * y ≤ 144 := Nat.mul_le_mul hx hy
def side (n : Int) : Bool := decide (1 ≤ n) && decide (n ≤ 12)
theorem s_l02Sides_eq (x y : Int) : s_l02Sides x y = some (side x && side y) := by
  unfold s_l02Sides; rw [s_l00In_eq, s_l00In_eq]; unfold side
  cases decide (1 ≤ x) <;> cases decide (x ≤ 12) <;> rfl
theorem i_isSide_eq (x : Int) : i_isSide x = some (side x) := by
  unfold i_isSide; rw [i_inRange_eq]; rfl
def validM (a0 a1 : Int) (a2 : List F) : Bool := side a0 && side a1 && decide ((a2.length : Int) = IntKind.i64.wrap (a0 * a1)) && a2.all fin32
theorem s_l02Is_eq (a0 a1 : Int) {a2 : List F} (g2 : FOks a2) (s2 : a2.length ≤ 1048576) : s_l02Is a0 a1 a2 = some (validM a0 a1 a2) := by
  unfold s_l02Is validM
  rw [s_l02Sides_eq, s_l02Finite_eq g2 s2]
  cases side a0 <;> cases side a1 <;> simp [bsel_if] <;> split <;> simp_all
theorem i_ValidMatrix_eq (a0 a1 : Int) {a2 : List F} (g2 : FOks a2) (s2 : a2.length ≤ 1048576) : i_ValidMatrix a0 a1 a2 = some (validM a0 a1 a2) := by
  unfold i_ValidMatrix i_length_float32 validM
  rw [i_isSide_eq, i_isSide_eq, i_areFinite_eq g2 s2]
  cases side a0 <;> cases side a1 <;> simp [bsel_if] <;> split <;> simp_all
theorem side_nat {n : Int} (h : side n = true) : ∃ m : Nat, n = (m : Int) ∧ 0 < m ∧ m ≤ 12 := by
  simp [side] at h
  exact ⟨n.toNat, by omega, by omega, by omega⟩
theorem FOks.getD {l : List F} (h : FOks l) (n : Nat) : FOk .f32 (l.getD n none) := by
  simp only [List.getD]
  cases e : l[n]? with
  | none => exact fok_none _
  | some c => exact h.at e
theorem FOks.set {l : List F} (h : FOks l) {n : Nat} {x : F} (hx : FOk .f32 x) : FOks (l.set n x) := by
  intro c hc
  rcases List.mem_or_eq_of_mem_set hc with h1 | h1
  · exact h c h1
  · exact h1 ▸ hx
theorem wsucc {i : Nat} (h : i ≤ 1000000000) : IntKind.i64.wrap ((i : Int) + 1) = ((i + 1 : Nat) : Int) := by
  rw [wrap_i64 (by omega) (by omega)]; omega
theorem dlt {i n : Nat} (h : i < n) : decide ((i : Int) < (n : Int)) = true := by simp; omega
theorem dnlt {n : Nat} : decide ((n : Int) < (n : Int)) = false := by simp
theorem i_Matrix_at_eq {A C i k : Nat} {L : List F} (r : Int) (h : Mat A C L) (hi : i < A) (hk : k < C) : i_Matrix_at r (C : Int) L (i : Int) (k : Int) = some (gm none L C i k) := by
  obtain ⟨e1, e2⟩ := idx_w h.A1 h.C1 hi hk
  unfold i_Matrix_at
  rw [e1, olet_eq, e2, olet_eq, at?_n none (h.lt hi hk), obind_eq]
theorem s_l02At_eq {A C i k : Nat} {L : List F} (r : Int) (h : Mat A C L) (hi : i < A) (hk : k < C) : s_l02At r (C : Int) L (i : Int) (k : Int) = some (gm none L C i k) := by
  obtain ⟨e1, e2⟩ := idx_w h.A1 h.C1 hi hk
  unfold s_l02At
  rw [e1, olet_eq, e2, olet_eq, at?_n none (h.lt hi hk), obind_eq]
theorem i_Matrix_set_02o_eq {A C i k : Nat} {L : List F} (r : Int) (h : Mat A C L) (hi : i < A) (hk : k < C) (x : F) : i_Matrix_set_02o r (C : Int) (i : Int) (k : Int) x L = some (sm L C i k x) := by
  obtain ⟨e1, e2⟩ := idx_w h.A1 h.C1 hi hk
  unfold i_Matrix_set_02o
  rw [e1, olet_eq, e2, olet_eq, setAt?_n x (h.lt hi hk), obind_eq]
theorem i_absolute_eq {c : F} (h : FOk .f32 c) : i_absolute c = some (fabs32 c) := by
  unfold i_absolute x_math_Abs
  rw [olet_eq, olet_eq, obind_eq, abs_narrow h, obind_eq]
theorem s_l02Size_eq {c : F} (h : FOk .f32 c) : s_l02Size c = some (fabs32 c) := by
  unfold s_l02Size
  rw [← size_abs h, bsel_if, olet_eq]
  split <;> rfl
theorem i_mul_eq (a b : F) : i_mul a b = some (fop .mul .f32 a b) := rfl
theorem getD_of_lt {α : Type} {l : List α} {n : Nat} (d : α) (h : n < l.length) : l[n]? = some (l.getD n d) := by simp [List.getD, h]
theorem valid_mat {a0 a1 : Int} {a2 : List F} (h : validM a0 a1 a2 = true) : ∃ A C : Nat, a0 = (A : Int) ∧ a1 = (C : Int) ∧ 0 < A ∧ 0 < C ∧ Mat A C a2 ∧ a2.all fin32 = true := by
  simp only [validM, Bool.and_eq_true, decide_eq_true_eq] at h
  obtain ⟨⟨⟨v1, v2⟩, v3⟩, v4⟩ := h
  obtain ⟨A, rfl, A0, A1⟩ := side_nat v1
  obtain ⟨C, rfl, C0, C1⟩ := side_nat v2
  have hAC := small_mul A1 C1
  rw [← Int.natCast_mul, wn (by omega)] at v3
  exact ⟨A, C, rfl, rfl, A0, C0, ⟨A1, C1, by omega⟩, v4⟩
theorem mat_valid {A C : Nat} {L : List F} (h : Mat A C L) (hA : 0 < A) (hC : 0 < C) : validM (A : Int) (C : Int) L = L.all fin32 := by
  unfold validM side
  have hAC := small_mul h.A1 h.C1
  have h1 := h.A1
  have h2 := h.C1
  rw [← Int.natCast_mul, wn (by omega), h.len]
  have e1 : decide ((1 : Int) ≤ (A : Int)) = true := by simp; omega
  have e2 : decide ((A : Int) ≤ 12) = true := by simp; omega
  have e3 : decide ((1 : Int) ≤ (C : Int)) = true := by simp; omega
  have e4 : decide ((C : Int) ≤ 12) = true := by simp; omega
  rw [e1, e2, e3, e4]
  simp
theorem s_l02Own_eq (a0 a1 : Int) {L : List F} (h : L.length ≤ 1048576) : s_l02Own a0 a1 L = some (a0, a1, L) := by
  have ap : apok 4 0 L.length = true := by simp [apok]; omega
  unfold s_l02Own; rw [ap]; rfl
theorem i_Matrix_clone_eq (a0 a1 : Int) {L : List F} (h : L.length ≤ 1048576) : i_Matrix_clone a0 a1 L = some (a0, a1, L) := by
  have ap : apok 4 0 L.length = true := by simp [apok]; omega
  unfold i_Matrix_clone x_slices_Clone_float32_float32; rw [ap]; rfl
theorem i_RootNumber_eq {y : F} (h : FOk .f32 y) : i_RootNumber y = some (rootN y) := by
  unfold i_RootNumber x_math_Sqrt
  rw [olet_eq, olet_eq, obind_eq, root_narrow h]; rfl
theorem s_l01Sqrt_eq {y : F} (h : FOk .f32 y) : s_l01Sqrt y = some (rootN y) := by
  unfold s_l01Sqrt x_math_Sqrt s_l01Narrow
  rw [olet_eq, olet_eq, obind_eq, root_narrow h]; rfl
theorem s_l02Zero_eq {A C : Nat} (hA : A ≤ 12) (hC : C ≤ 12) : s_l02Zero (A : Int) (C : Int) = some ((A : Int), (C : Int), List.replicate (A * C) (some 0)) := by
  have hAC := small_mul hA hC
  unfold s_l02Zero
  have mk : mkok 4 ((A * C : Nat) : Int) = true := by simp [mkok]; omega
  rw [← Int.natCast_mul, wn (by omega), olet_eq, mk]; rfl
theorem i_newMatrix_eq {A C : Nat} (hA : A ≤ 12) (hC : C ≤ 12) : i_newMatrix (A : Int) (C : Int) = some ((A : Int), (C : Int), List.replicate (A * C) (some 0)) := by
  have hAC := small_mul hA hC
  unfold i_newMatrix
  have mk : mkok 4 ((A * C : Nat) : Int) = true := by simp [mkok]; omega
  rw [← Int.natCast_mul, wn (by omega), olet_eq, mk]; rfl
theorem mat_ext {A C : Nat} {L L' : List F} (h : Mat A C L) (h' : Mat A C L') (e : ∀ i k, i < A → k < C → gm none L C i k = gm none L' C i k) : L = L' := by
  apply List.ext_getElem?
  intro q
  by_cases hq : q < A * C
  · have hC : 0 < C := by
      rcases Nat.eq_zero_or_pos C with h0 | h0
      · subst h0; simp at hq
      · exact h0
    have h1 : q / C < A := (Nat.div_lt_iff_lt_mul hC).2 hq
    have h2 : q % C < C := Nat.mod_lt _ hC
    have h3 : q / C * C + q % C = q := by rw [Nat.mul_comm]; exact Nat.div_add_mod q C
    have := e _ _ h1 h2
    unfold gm at this
    rw [h3] at this
    rw [getD_of_lt none (by rw [h.len]; exact hq), getD_of_lt none (by rw [h'.len]; exact hq), this]
  · rw [List.getElem?_eq_none (by rw [h.len]; omega), List.getElem?_eq_none (by rw [h'.len]; omega)]
def fillR (f : Nat → Nat → F) (C i : Nat) (L : List F) : List F := run (fun k L => sm L C i k (f i k)) 0 C L
def fillA (f : Nat → Nat → F) (A C : Nat) (L : List F) : List F := run (fillR f C) 0 A L
theorem fillR_spec {f : Nat → Nat → F} {A C i : Nat} {L : List F} (h : Mat A C L) (hi : i < A) : Mat A C (fillR f C i L) ∧ ∀ j k, j < A → k < C → gm none (fillR f C i L) C j k = if j = i then f i k else gm none L C j k := by
  have := run_inv (f := fun k L => sm L C i k (f i k)) (fun c L' => Mat A C L' ∧ ∀ j k, j < A → k < C → gm none L' C j k = if j = i ∧ k < c then f i k else gm none L C j k) C 0 L ⟨h, fun j k _ _ => by simp⟩ (fun c L' _ hc hI => by
    refine ⟨hI.1.set _ _ _, fun j k hj hk => ?_⟩
    rw [gm_set hI.1 hi (by omega) hk, hI.2 j k hj hk]
    by_cases e1 : i = j
    · subst e1
      by_cases e2 : c = k
      · subst e2; simp
      · by_cases e3 : k < c
        · rw [if_neg (by omega), if_pos (by omega), if_pos (by omega)]
        · rw [if_neg (by omega), if_neg (by omega), if_neg (by omega)]
    · rw [if_neg (by omega), if_neg (by omega), if_neg (by omega)])
  refine ⟨this.1, fun j k hj hk => ?_⟩
  unfold fillR
  rw [this.2 j k hj hk]
  by_cases e : j = i
  · rw [if_pos ⟨e, by omega⟩, if_pos e]
  · rw [if_neg (by omega), if_neg e]
theorem fillA_spec {f : Nat → Nat → F} {A C : Nat} {L : List F} (h : Mat A C L) : Mat A C (fillA f A C L) ∧ ∀ j k, j < A → k < C → gm none (fillA f A C L) C j k = f j k := by
  have := run_inv (f := fillR f C) (fun r L' => Mat A C L' ∧ ∀ j k, j < r → j < A → k < C → gm none L' C j k = f j k) A 0 L ⟨h, fun j k hj _ _ => by omega⟩ (fun r L' _ hr hI => by
    obtain ⟨s1, s2⟩ := fillR_spec (f := f) hI.1 (show r < A by omega)
    refine ⟨s1, fun j k hj hjA hk => ?_⟩
    rw [s2 j k hjA hk]
    by_cases e : j = r
    · rw [if_pos e, e]
    · rw [if_neg e]; exact hI.2 j k (by omega) hjA hk)
  exact ⟨this.1, fun j k hj hk => this.2 j k (by omega) hj hk⟩
def tabM (A C : Nat) (f : Nat → Nat → F) : List F := fillA f A C (List.replicate (A * C) (some 0))
theorem zmat {A C : Nat} (hA : A ≤ 12) (hC : C ≤ 12) : Mat A C (List.replicate (A * C) (some 0 : F)) := ⟨hA, hC, by simp⟩
theorem tabM_mat {A C : Nat} {f : Nat → Nat → F} (hA : A ≤ 12) (hC : C ≤ 12) : Mat A C (tabM A C f) := (fillA_spec (zmat hA hC)).1
theorem tabM_gm {A C : Nat} {f : Nat → Nat → F} (hA : A ≤ 12) (hC : C ≤ 12) {i k : Nat} (hi : i < A) (hk : k < C) : gm none (tabM A C f) C i k = f i k := (fillA_spec (zmat hA hC)).2 i k hi hk
theorem oks_of_gm {A C : Nat} {L : List F} (h : Mat A C L) (e : ∀ i k, i < A → k < C → FOk .f32 (gm none L C i k)) : FOks L := by
  intro c hc
  obtain ⟨q, hq, rfl⟩ := List.mem_iff_getElem.1 hc
  have hq' : q < A * C := by rw [← h.len]; exact hq
  have hC : 0 < C := by
    rcases Nat.eq_zero_or_pos C with h0 | h0
    · subst h0; simp at hq'
    · exact h0
  have h1 : q / C < A := (Nat.div_lt_iff_lt_mul hC).2 hq'
  have h2 : q % C < C := Nat.mod_lt _ hC
  have h3 : q / C * C + q % C = q := by rw [Nat.mul_comm]; exact Nat.div_add_mod q C
  have := e _ _ h1 h2
  unfold gm at this
  rw [h3] at this
  simpa [List.getD, hq] using this
theorem tabM_oks {A C : Nat} {f : Nat → Nat → F} (hA : A ≤ 12) (hC : C ≤ 12) (hf : ∀ i k, FOk .f32 (f i k)) : FOks (tabM A C f) := oks_of_gm (tabM_mat hA hC) fun i k hi hk => by rw [tabM_gm hA hC hi hk]; exact hf i k
theorem run_map {α : Type} (f : Nat → α) : ∀ n : Nat, run (fun i (l : List α) => l ++ [f i]) 0 n [] = (List.range n).map f
  | 0 => rfl
  | n + 1 => by rw [run_last, run_map f n]; simp [List.range_succ]
def unitF (i k : Nat) : F := bif decide (i = k) then some 1065353216 else some 0
theorem unitF_ok (i k : Nat) : FOk .f32 (unitF i k) := by
  unfold unitF
  cases decide (i = k)
  · exact ⟨0, rfl, by decide, rfl⟩
  · exact ⟨1065353216, rfl, by decide, rfl⟩
theorem i_unit_1_eq (i k : Nat) : i_unit_1 (i : Int) (k : Int) = some (unitF i k) := by
  unfold i_unit_1 unitF
  by_cases h : i = k
  · subst h; simp
  · rw [show decide ((i : Int) = (k : Int)) = false by simp; omega, show decide (i = k) = false by simp [h]]; rfl
theorem i_made_2Fi_unit_1_eq {A C : Nat} (hA : A ≤ 12) (hC : C ≤ 12) : i_made_2Fi_unit_1 (A : Int) (C : Int) = some ((A : Int), (C : Int), tabM A C unitF) := by
  have inner : ∀ (i : Nat) (L L0 : List F), i < A → Mat A C L → Mat A C L0 → loopM (i_made_2Fi_unit_1_s2 (C : Int) (A : Int) (C : Int) L0 (i : Int)) (L, 0) = some (.inl (fillR unitF C i L)) := by
    intro i L L0 hi hL hL0
    exact (loop_run (step := i_made_2Fi_unit_1_s2 (C : Int) (A : Int) (C : Int) L0 (i : Int)) (fun (k : Nat) (L : List F) => (L, (k : Int))) (fun k L => sm L C i k (unitF i k)) (fun L => L) (fun _ L => Mat A C L) (lo := 0) (n := C) (Nat.zero_le _) (s0 := L) hL
      (fun k L2 _ hk h3 => by
        refine ⟨?_, h3.set _ _ _⟩
        show i_made_2Fi_unit_1_b2 _ _ _ _ _ _ _ = _
        unfold i_made_2Fi_unit_1_b2
        have l1 : decide ((sm L2 C i k (unitF i k)).length = L0.length) = true := by simp [h3.len, hL0.len]
        rw [dlt hk, bsel_true, i_unit_1_eq, obind_eq, i_Matrix_set_02o_eq _ h3 hi hk, obind_eq, l1, need_true, wsucc (by omega)]
        rfl)
      (fun L2 _ => by
        show i_made_2Fi_unit_1_b2 _ _ _ _ _ _ _ = _
        unfold i_made_2Fi_unit_1_b2
        rw [dnlt, bsel_false])).1
  have e := (loop_run (step := i_made_2Fi_unit_1_s3 (A : Int) (C : Int) (A : Int) (C : Int) (List.replicate (A * C) (some 0))) (fun (i : Nat) (L : List F) => (L, (i : Int))) (fillR unitF C) (fun L => L) (fun _ L => Mat A C L) (lo := 0) (n := A) (Nat.zero_le _) (s0 := List.replicate (A * C) (some 0)) (zmat hA hC)
    (fun i L2 _ hi h3 => by
      refine ⟨?_, (fillR_spec h3 hi).1⟩
      show i_made_2Fi_unit_1_b3 _ _ _ _ _ _ _ = _
      unfold i_made_2Fi_unit_1_b3
      rw [dlt hi, bsel_true, inner i L2 _ hi h3 (zmat hA hC), obind_eq, osum_inl]
      unfold i_made_2Fi_unit_1_k2
      rw [wsucc (by omega)]
      rfl)
    (fun L2 _ => by
      show i_made_2Fi_unit_1_b3 _ _ _ _ _ _ _ = _
      unfold i_made_2Fi_unit_1_b3
      rw [dnlt, bsel_false])).1
  unfold i_made_2Fi_unit_1
  replace e : loopM (i_made_2Fi_unit_1_s3 (A : Int) (C : Int) (A : Int) (C : Int) (List.replicate (A * C) (some 0))) (List.replicate (A * C) (some 0), 0) = some (.inl (tabM A C unitF)) := e
  rw [i_newMatrix_eq hA hC, obind3_eq, e]; rfl
theorem i_unit_eq {n : Nat} (hn : n ≤ 12) : i_unit (n : Int) = some ((n : Int), (n : Int), tabM n n unitF) := by
  unfold i_unit
  rw [i_made_2Fi_unit_1_eq hn hn]; rfl
theorem s_l02Unit_eq {n : Nat} (hn : n ≤ 12) : s_l02Unit (n : Int) = some ((n : Int), (n : Int), tabM n n unitF) := by
  obtain ⟨e, _⟩ := loop_run (step := s_l02Unit_s1 (n : Int)) (fun (i : Nat) (L : List F) => (L, (i : Int))) (fun i L => sm L n i i (some 1065353216)) (fun L => L) (fun _ L => Mat n n L) (lo := 0) (n := n) (Nat.zero_le _) (s0 := List.replicate (n * n) (some 0)) (zmat hn hn)
    (fun i L _ hi h => by
      refine ⟨?_, h.set _ _ _⟩
      show s_l02Unit_b1 _ _ _ = _
      unfold s_l02Unit_b1
      obtain ⟨e1, e2⟩ := idx_w h.A1 h.C1 hi hi
      rw [dlt hi, bsel_true, e1, olet_eq, e2, olet_eq, setAt?_n _ (h.lt hi hi), obind_eq, wsucc (by omega)]
      rfl)
    (fun L _ => by
      show s_l02Unit_b1 _ _ _ = _
      unfold s_l02Unit_b1
      rw [dnlt, bsel_false])
  have hz : ∀ j k, j < n → k < n → gm none (List.replicate (n * n) (some 0 : F)) n j k = some 0 := by
    intro j k hj hk
    have := idx_lt hj hk
    simp [gm, List.getD, List.getElem?_replicate, this]
  have hrun := run_inv (f := fun i L => sm L n i i (some 1065353216)) (fun d L => Mat n n L ∧ ∀ j k, j < n → k < n → gm none L n j k = if j = k ∧ j < d then some 1065353216 else some 0) n 0 (List.replicate (n * n) (some 0)) ⟨zmat hn hn, fun j k hj hk => by rw [hz j k hj hk]; simp⟩ (fun d L _ hd hI => by
    refine ⟨hI.1.set _ _ _, fun j k hj hk => ?_⟩
    rw [gm_set hI.1 (by omega) (by omega) hk, hI.2 j k hj hk]
    by_cases e : d = j ∧ d = k
    · rw [if_pos e, if_pos (by omega)]
    · rw [if_neg e]
      by_cases e2 : j = k ∧ j < d
      · rw [if_pos e2, if_pos (by omega)]
      · rw [if_neg e2, if_neg (by omega)])
  have heq : run (fun i L => sm L n i i (some 1065353216)) 0 (n - 0) (List.replicate (n * n) (some 0 : F)) = tabM n n unitF := by
    refine mat_ext hrun.1 (tabM_mat hn hn) fun j k hj hk => ?_
    rw [tabM_gm hn hn hj hk]
    have := hrun.2 j k hj hk
    rw [Nat.sub_zero, this]
    unfold unitF
    by_cases e : j = k
    · rw [if_pos ⟨e, by omega⟩, show decide (j = k) = true by simp [e]]; rfl
    · rw [if_neg (fun h => e h.1), show decide (j = k) = false by simp [e]]; rfl
  unfold s_l02Unit
  replace e : loopM (s_l02Unit_s1 (n : Int)) (List.replicate (n * n) (some 0), 0) = some (.inl (run (fun i L => sm L n i i (some 1065353216)) 0 (n - 0) (List.replicate (n * n) (some 0)))) := e
  rw [s_l02Zero_eq hn hn, obind3_eq, e, obind_eq, osum_inl, heq]; rfl
def colP (A C k : Nat) (L : List F) : List F := (List.range A).map fun i => gm none L C i k
theorem colP_len {A C k : Nat} {L : List F} : (colP A C k L).length = A := by simp [colP]
theorem colP_at {A C k i : Nat} {L : List F} (hi : i < A) : (colP A C k L).getD i none = gm none L C i k := by
  simp [colP, List.getD, hi]
theorem i_Matrix_column_eq {A C k : Nat} {L : List F} (h : Mat A C L) (hk : k < C) : i_Matrix_column (A : Int) (C : Int) L (k : Int) = some (colP A C k L) := by
  have hA := h.A1
  obtain ⟨e, _⟩ := loop_run (step := i_Matrix_column_s1 (A : Int) (C : Int) L (k : Int)) (fun (i : Nat) (l : List F) => (l, (i : Int))) (fun i l => l ++ [gm none L C i k]) (fun l => l) (fun i l => l.length = i) (lo := 0) (n := A) (Nat.zero_le _) (s0 := []) rfl
    (fun i l _ hi h3 => by
      refine ⟨?_, by simp [h3]⟩
      show i_Matrix_column_b1 _ _ _ _ _ _ = _
      unfold i_Matrix_column_b1
      have ap : apok 4 l.length 1 = true := by simp [apok]; omega
      rw [dlt hi, bsel_true, i_Matrix_at_eq _ h hi hk, obind_eq, ap, need_true, wsucc (by omega)]
      rfl)
    (fun l _ => by
      show i_Matrix_column_b1 _ _ _ _ _ _ = _
      unfold i_Matrix_column_b1
      rw [dnlt, bsel_false])
  unfold i_Matrix_column
  replace e : loopM (i_Matrix_column_s1 (A : Int) (C : Int) L (k : Int)) ([], 0) = some (.inl (run (fun i l => l ++ [gm none L C i k]) 0 (A - 0) [])) := e
  rw [e, Nat.sub_zero, run_map]; rfl
def dotE (f g : Nat → F) (i : Nat) (y : F) : F := fop .add .f32 y (fop .mul .f32 (f i) (g i))
def dotN (f g : Nat → F) (n : Nat) : F := run (dotE f g) 0 n (some 0)
theorem zero_ok : FOk .f32 (some 0) := ⟨0, rfl, by decide, rfl⟩
theorem dotN_ok (f g : Nat → F) (n : Nat) : FOk .f32 (dotN f g n) := run_inv (fun _ y => FOk .f32 y) n 0 (some 0) zero_ok fun _ _ _ _ _ => fop_fok _ _ _
theorem dotN_congr {f g f' g' : Nat → F} {n : Nat} (h : ∀ i, i < n → f i = f' i ∧ g i = g' i) : dotN f g n = dotN f' g' n :=
  run_congr (fun _ _ => True) n 0 _ trivial fun i y _ hi _ => ⟨by unfold dotE; rw [(h i (by omega)).1, (h i (by omega)).2], trivial⟩
theorem i_dot_eq {l m : List F} (hl : l.length ≤ m.length) (hs : l.length ≤ 1000000) : i_dot l m = some (dotN (fun i => l.getD i none) (fun i => m.getD i none) l.length) := by
  obtain ⟨e, _⟩ := loop_run (step := i_dot_s1 l m) (fun (i : Nat) (y : F) => (y, (i : Int))) (dotE (fun i => l.getD i none) (fun i => m.getD i none)) (fun y => y) (fun _ _ => True) (lo := 0) (n := l.length) (Nat.zero_le _) (s0 := some 0) trivial
    (fun i y _ hi _ => by
      refine ⟨?_, trivial⟩
      show i_dot_b1 _ _ _ _ = _
      unfold i_dot_b1
      rw [dlt hi, bsel_true, at?_n none hi, obind_eq, at?_n none (by omega), obind_eq, i_mul_eq, obind_eq, olet_eq, wsucc (by omega)]
      rfl)
    (fun y _ => by
      show i_dot_b1 _ _ _ _ = _
      unfold i_dot_b1
      rw [dnlt, bsel_false])
  unfold i_dot
  replace e : loopM (i_dot_s1 l m) (some 0, 0) = some (.inl (run (dotE (fun i => l.getD i none) (fun i => m.getD i none)) 0 (l.length - 0) (some 0))) := e
  rw [e]; rfl
def colDot (A C : Nat) (L : List F) (i k : Nat) : F := dotN (fun r => gm none L C r i) (fun r => gm none L C r k) A
theorem colDot_ok (A C : Nat) (L : List F) (i k : Nat) : FOk .f32 (colDot A C L i k) := dotN_ok _ _ _
theorem i_dot_cols {A C i k : Nat} {L : List F} (h : Mat A C L) : i_dot (colP A C i L) (colP A C k L) = some (colDot A C L i k) := by
  have hA := h.A1
  rw [i_dot_eq (by rw [colP_len, colP_len]; exact Nat.le_refl _) (by rw [colP_len]; omega), colP_len]
  congr 1
  exact dotN_congr fun r hr => ⟨colP_at hr, colP_at hr⟩
theorem run_three {α β γ : Type} (f : Nat → α → α) (g : Nat → β → β) (h : Nat → γ → γ) : ∀ (m i : Nat) (a : α) (b : β) (c : γ), run (fun i (t : α × β × γ) => (f i t.1, g i t.2.1, h i t.2.2)) i m (a, b, c) = (run f i m a, run g i m b, run h i m c)
  | 0, _, _, _, _ => rfl
  | m + 1, i, a, b, c => by rw [run_succ, run_succ, run_succ, run_succ]; exact run_three f g h m (i + 1) _ _ _
theorem s_l04Sums_eq {A C i k : Nat} {L : List F} (h : Mat A C L) (hi : i < C) (hk : k < C) : s_l04Sums (A : Int) (C : Int) L (i : Int) (k : Int) = some (colDot A C L i i, colDot A C L k k, colDot A C L i k) := by
  have hA := h.A1
  obtain ⟨e, _⟩ := loop_run (step := s_l04Sums_s1 (A : Int) (C : Int) L (i : Int) (k : Int)) (fun (r : Nat) (t : F × F × F) => (t.1, t.2.1, t.2.2, (r : Int))) (fun r (t : F × F × F) => (dotE (fun r => gm none L C r i) (fun r => gm none L C r i) r t.1, dotE (fun r => gm none L C r k) (fun r => gm none L C r k) r t.2.1, dotE (fun r => gm none L C r i) (fun r => gm none L C r k) r t.2.2)) (fun t => t) (fun _ _ => True) (lo := 0) (n := A) (Nat.zero_le _) (s0 := (some 0, some 0, some 0)) trivial
    (fun r t _ hr _ => by
      refine ⟨?_, trivial⟩
      show s_l04Sums_b1 _ _ _ _ _ _ _ _ _ = _
      unfold s_l04Sums_b1
      rw [dlt hr, bsel_true, s_l02At_eq _ h hr hi, obind_eq, s_l02At_eq _ h hr hk, obind_eq]
      simp only [olet_eq, wsucc (show r ≤ 1000000000 by omega)]
      rfl)
    (fun t _ => by
      show s_l04Sums_b1 _ _ _ _ _ _ _ _ _ = _
      unfold s_l04Sums_b1
      rw [dnlt, bsel_false])
  unfold s_l04Sums
  rw [run_three] at e
  replace e : loopM (s_l04Sums_s1 (A : Int) (C : Int) L (i : Int) (k : Int)) (some 0, some 0, some 0, 0) = some (.inl (colDot A C L i i, colDot A C L k k, colDot A C L i k)) := e
  rw [e]; rfl
def cosT (t : F) : F × F := (fop .quo .f32 (some 1065353216) (rootN (fop .add .f32 (fop .mul .f32 t t) (some 1065353216))), fop .mul .f32 t (fop .quo .f32 (some 1065353216) (rootN (fop .add .f32 (fop .mul .f32 t t) (some 1065353216)))))
def cosP (a : F) : F × F := cosT (bif flt .f32 a (some 0) then fneg .f32 (fop .quo .f32 (some 1065353216) (fop .add .f32 (fabs32 a) (rootN (fop .add .f32 (fop .mul .f32 a a) (some 1065353216))))) else fop .quo .f32 (some 1065353216) (fop .add .f32 (fabs32 a) (rootN (fop .add .f32 (fop .mul .f32 a a) (some 1065353216)))))
theorem i_turnFor_eq {a : F} (h : FOk .f32 a) : i_turnFor a = some (cosP a) := by
  have hk : ∀ t, i_turnFor_k1 t = some (cosT t) := by
    intro t
    unfold i_turnFor_k1
    rw [i_mul_eq, obind_eq, olet_eq, i_RootNumber_eq (fop_fok _ _ _), obind_eq, olet_eq, i_mul_eq]; rfl
  unfold i_turnFor cosP
  rw [i_absolute_eq h, obind_eq, i_mul_eq, obind_eq, olet_eq, i_RootNumber_eq (fop_fok _ _ _), obind_eq, olet_eq, olet_eq]
  cases flt .f32 a (some 0) with
  | true => rw [bsel_true, olet_eq, hk]; rfl
  | false => rw [bsel_false, hk]; rfl
theorem s_l04Cosine_eq {a : F} (h : FOk .f32 a) : s_l04Cosine a = some (cosP a) := by
  have hk : ∀ t, s_l04Cosine_k1 t = some (cosT t) := by
    intro t
    unfold s_l04Cosine_k1
    rw [olet_eq, olet_eq, s_l01Sqrt_eq (fop_fok _ _ _), obind_eq, olet_eq, olet_eq]; rfl
  unfold s_l04Cosine cosP
  rw [s_l02Size_eq h, obind_eq, olet_eq, olet_eq, s_l01Sqrt_eq (fop_fok _ _ _), obind_eq, olet_eq, olet_eq]
  cases flt .f32 a (some 0) with
  | true => rw [bsel_true, olet_eq, hk]; rfl
  | false => rw [bsel_false, hk]; rfl
def turnQ (C i k : Nat) (c s : F) (r : Nat) (L : List F) : List F := sm (sm L C r i (fop .sub .f32 (fop .mul .f32 c (gm none L C r i)) (fop .mul .f32 s (gm none L C r k)))) C r k (fop .add .f32 (fop .mul .f32 s (gm none L C r i)) (fop .mul .f32 c (gm none L C r k)))
def turnK (A C i k : Nat) (c s : F) (L : List F) : List F := run (turnQ C i k c s) 0 A L
theorem turnQ_mat {A C i k r : Nat} {c s : F} {L : List F} (h : Mat A C L) : Mat A C (turnQ C i k c s r L) := (h.set _ _ _).set _ _ _
theorem turnK_mat {A C i k : Nat} {c s : F} {L : List F} (h : Mat A C L) : Mat A C (turnK A C i k c s L) := run_inv (fun _ L => Mat A C L) A 0 L h fun _ _ _ _ h => turnQ_mat h
theorem turnK_oks {A C i k : Nat} {c s : F} {L : List F} (h : FOks L) : FOks (turnK A C i k c s L) := run_inv (fun _ L => FOks L) A 0 L h fun _ _ _ _ h => (h.set (fop_fok _ _ _)).set (fop_fok _ _ _)
theorem i_Matrix_turnColumns_02o_eq {A C i k : Nat} {c s : F} {L : List F} (h : Mat A C L) (hi : i < C) (hk : k < C) : i_Matrix_turnColumns_02o (A : Int) (C : Int) (i : Int) (k : Int) c s L = some (turnK A C i k c s L) := by
  have hA := h.A1
  obtain ⟨e, _⟩ := loop_run (step := i_Matrix_turnColumns_02o_s1 (A : Int) (C : Int) (i : Int) (k : Int) c s L) (fun (r : Nat) (L : List F) => (L, (r : Int))) (turnQ C i k c s) (fun L => L) (fun _ L' => Mat A C L') (lo := 0) (n := A) (Nat.zero_le _) (s0 := L) h
    (fun r L' _ hr h3 => by
      refine ⟨?_, turnQ_mat h3⟩
      show i_Matrix_turnColumns_02o_b1 _ _ _ _ _ _ _ _ _ = _
      unfold i_Matrix_turnColumns_02o_b1
      have l1 : ∀ x, decide ((sm L' C r i x).length = L.length) = true := fun x => by simp [h3.len, h.len]
      have l2 : ∀ x y, decide ((sm (sm L' C r i x) C r k y).length = L.length) = true := fun x y => by simp [h3.len, h.len]
      rw [dlt hr, bsel_true, i_Matrix_at_eq _ h3 hr hi, obind_eq, i_Matrix_at_eq _ h3 hr hk, obind_eq, i_mul_eq, obind_eq, i_mul_eq, obind_eq, olet_eq, i_Matrix_set_02o_eq _ h3 hr hi, obind_eq, l1, need_true, i_mul_eq, obind_eq, i_mul_eq, obind_eq, olet_eq, i_Matrix_set_02o_eq _ (h3.set _ _ _) hr hk, obind_eq, l2, need_true, wsucc (by omega)]
      rfl)
    (fun L' _ => by
      show i_Matrix_turnColumns_02o_b1 _ _ _ _ _ _ _ _ _ = _
      unfold i_Matrix_turnColumns_02o_b1
      rw [dnlt, bsel_false])
  unfold i_Matrix_turnColumns_02o
  replace e : loopM (i_Matrix_turnColumns_02o_s1 (A : Int) (C : Int) (i : Int) (k : Int) c s L) (L, 0) = some (.inl (turnK A C i k c s L)) := e
  rw [e]; rfl
theorem s_l04Columns_0p0_C02o1_eq {A C i k : Nat} {c s : F} {L : List F} (h : Mat A C L) (hi : i < C) (hk : k < C) : s_l04Columns_0p0_C02o1 (i : Int) (k : Int) c s (A : Int) (C : Int) L = some (turnK A C i k c s L) := by
  have hA := h.A1
  obtain ⟨e, _⟩ := loop_run (step := s_l04Columns_0p0_C02o1_s1 (i : Int) (k : Int) c s (A : Int) (C : Int)) (fun (r : Nat) (L : List F) => (L, (r : Int))) (turnQ C i k c s) (fun L => L) (fun _ L' => Mat A C L') (lo := 0) (n := A) (Nat.zero_le _) (s0 := L) h
    (fun r L' _ hr h3 => by
      refine ⟨?_, turnQ_mat h3⟩
      show s_l04Columns_0p0_C02o1_b1 _ _ _ _ _ _ _ _ = _
      unfold s_l04Columns_0p0_C02o1_b1
      obtain ⟨e1, e2⟩ := idx_w h.A1 h.C1 hr hi
      obtain ⟨e3, e4⟩ := idx_w h.A1 h.C1 hr hk
      rw [dlt hr, bsel_true, s_l02At_eq _ h3 hr hi, obind_eq, s_l02At_eq _ h3 hr hk, obind_eq]
      simp only [olet_eq, e1, e2, e3, e4, obind_eq, setAt?_n _ (h3.lt hr hi), setAt?_n _ ((h3.set _ _ _).lt hr hk), wsucc (show r ≤ 1000000000 by omega)]
      rfl)
    (fun L' _ => by
      show s_l04Columns_0p0_C02o1_b1 _ _ _ _ _ _ _ _ = _
      unfold s_l04Columns_0p0_C02o1_b1
      rw [dnlt, bsel_false])
  unfold s_l04Columns_0p0_C02o1
  replace e : loopM (s_l04Columns_0p0_C02o1_s1 (i : Int) (k : Int) c s (A : Int) (C : Int)) (L, 0) = some (.inl (turnK A C i k c s L)) := e
  rw [e]; rfl
abbrev SD := List F × List F
abbrev SDr := Int × Int × Int × Int × Bool × List F × List F
def sdFail : SDr := (0, 0, 0, 0, false, [], [])
structure SInv (A C : Nat) (s : SD) : Prop where
  m : Mat A C s.1
  g : FOks s.1
  n : Mat C C s.2
  h : FOks s.2
def sdQ (A C : Nat) (s : SD) (i k : Nat) : F × F := cosP (fop .quo .f32 (fop .sub .f32 (colDot A C s.1 k k) (colDot A C s.1 i i)) (fop .mul .f32 (some 1073741824) (colDot A C s.1 i k)))
def sdCol (A C i k : Nat) (s : SD) : SD ⊕ SDr :=
  bif fin32 (colDot A C s.1 i i) && (fin32 (colDot A C s.1 k k) && fin32 (colDot A C s.1 i k)) then
    bif feq .f32 (colDot A C s.1 i k) (some 0) then .inl s
    else bif (turnK A C i k (sdQ A C s i k).1 (sdQ A C s i k).2 s.1).all fin32 && (turnK C C i k (sdQ A C s i k).1 (sdQ A C s i k).2 s.2).all fin32 then .inl (turnK A C i k (sdQ A C s i k).1 (sdQ A C s i k).2 s.1, turnK C C i k (sdQ A C s i k).1 (sdQ A C s i k).2 s.2)
    else .inr sdFail
  else .inr sdFail
def sdRow (A C i : Nat) (s : SD) : SD ⊕ SDr := runE (sdCol A C i) (i + 1) (C - (i + 1)) s
def sdRound (A C : Nat) (s : SD) : SD ⊕ SDr := runE (sdRow A C) 0 C s
theorem sdCol_inv {A C i k : Nat} {s s' : SD} (h : SInv A C s) (e : sdCol A C i k s = .inl s') : SInv A C s' := by
  unfold sdCol at e
  cases h1 : fin32 (colDot A C s.1 i i) && (fin32 (colDot A C s.1 k k) && fin32 (colDot A C s.1 i k)) with
  | false => rw [h1, cond_false] at e; cases e
  | true =>
    rw [h1, cond_true] at e
    cases h2 : feq .f32 (colDot A C s.1 i k) (some 0) with
    | true => rw [h2, cond_true] at e; cases e; exact h
    | false =>
      rw [h2, cond_false] at e
      cases h3 : (turnK A C i k (sdQ A C s i k).1 (sdQ A C s i k).2 s.1).all fin32 && (turnK C C i k (sdQ A C s i k).1 (sdQ A C s i k).2 s.2).all fin32 with
      | false => rw [h3, cond_false] at e; cases e
      | true => rw [h3, cond_true] at e; cases e; exact ⟨turnK_mat h.m, turnK_oks h.g, turnK_mat h.n, turnK_oks h.h⟩
theorem sdCol_ret {A C i k : Nat} {s : SD} {r : SDr} (e : sdCol A C i k s = .inr r) : r = sdFail := by
  unfold sdCol at e
  cases h1 : fin32 (colDot A C s.1 i i) && (fin32 (colDot A C s.1 k k) && fin32 (colDot A C s.1 i k)) with
  | false => rw [h1, cond_false] at e; cases e; rfl
  | true =>
    rw [h1, cond_true] at e
    cases h2 : feq .f32 (colDot A C s.1 i k) (some 0) with
    | true => rw [h2, cond_true] at e; cases e
    | false =>
      rw [h2, cond_false] at e
      cases h3 : (turnK A C i k (sdQ A C s i k).1 (sdQ A C s i k).2 s.1).all fin32 && (turnK C C i k (sdQ A C s i k).1 (sdQ A C s i k).2 s.2).all fin32 with
      | false => rw [h3, cond_false] at e; cases e; rfl
      | true => rw [h3, cond_true] at e; cases e
theorem sdRow_inv {A C i : Nat} {s s' : SD} (h : SInv A C s) (e : sdRow A C i s = .inl s') : SInv A C s' := runE_inv (fun _ s => SInv A C s) _ _ _ h (fun _ _ _ _ _ hI he => sdCol_inv hI he) _ e
theorem sdRow_ret {A C i : Nat} {s : SD} {r : SDr} (e : sdRow A C i s = .inr r) : r = sdFail := runE_ret (P := fun r => r = sdFail) (fun _ _ _ h => sdCol_ret h) e
theorem sdRound_inv {A C : Nat} {s s' : SD} (h : SInv A C s) (e : sdRound A C s = .inl s') : SInv A C s' := runE_inv (fun _ s => SInv A C s) _ _ _ h (fun _ _ _ _ _ hI he => sdRow_inv hI he) _ e
theorem sdRound_ret {A C : Nat} {s : SD} {r : SDr} (e : sdRound A C s = .inr r) : r = sdFail := runE_ret (P := fun r => r = sdFail) (fun _ _ _ h => sdRow_ret h) e
abbrev sdMk (k : Nat) (s : SD) : List F × List F × Int := (s.1, s.2, (k : Int))
def sdL (k : Nat) : SD ⊕ SDr → Option (LR (List F × List F × Int) (List F × List F) SDr)
  | .inl s => some (.next (sdMk k s))
  | .inr r => some (.ret r)
theorem i_SideTurns_col {A C i k : Nat} {s : SD} {a b : List F} (h : SInv A C s) (ha : a.length = A * C) (hb : b.length = C * C) (hA : 0 < A) (hi : i < C) (hk : k < C) :
    i_SideTurns_b13 (C : Int) (A : Int) (C : Int) a (C : Int) (C : Int) b (i : Int) s.1 s.2 (k : Int) = sdL (k + 1) (sdCol A C i k s) := by
  have hC := h.m.C1
  unfold i_SideTurns_b13 sdCol
  have hfa : i_areFinite [colDot A C s.1 i i, colDot A C s.1 k k, colDot A C s.1 i k] = some (fin32 (colDot A C s.1 i i) && (fin32 (colDot A C s.1 k k) && fin32 (colDot A C s.1 i k))) := by
    rw [i_areFinite_eq (fun c hc => by
      rcases List.mem_cons.1 hc with rfl | hc
      · exact dotN_ok _ _ _
      · rcases List.mem_cons.1 hc with rfl | hc
        · exact dotN_ok _ _ _
        · rcases List.mem_cons.1 hc with rfl | hc
          · exact dotN_ok _ _ _
          · cases hc) (by simp)]
    simp
  have hend : ∀ L V x, i_SideTurns_k12 x L V = some (.next (L, V, IntKind.i64.wrap (x + 1))) := fun _ _ _ => rfl
  rw [dlt hk, bsel_true, i_Matrix_column_eq h.m hi, obind_eq, i_Matrix_column_eq h.m hk, obind_eq, i_dot_cols h.m, obind_eq, i_dot_cols h.m, obind_eq, i_dot_cols h.m, obind_eq, hfa, obind_eq]
  cases fin32 (colDot A C s.1 i i) && (fin32 (colDot A C s.1 k k) && fin32 (colDot A C s.1 i k)) with
  | false => rfl
  | true =>
    rw [bsel_true, cond_true, hend, wsucc (by omega)]
    cases feq .f32 (colDot A C s.1 i k) (some 0) with
    | true => rfl
    | false =>
      have q1 : decide ((turnK A C i k (sdQ A C s i k).1 (sdQ A C s i k).2 s.1).length = a.length) = true := by simp [(turnK_mat h.m).len, ha]
      have q2 : decide ((turnK C C i k (sdQ A C s i k).1 (sdQ A C s i k).2 s.2).length = b.length) = true := by simp [(turnK_mat h.n).len, hb]
      rw [bsel_false, cond_false, olet_eq, i_mul_eq, obind_eq, olet_eq, i_turnFor_eq (fop_fok _ _ _)]
      show obind2 (some (sdQ A C s i k)) _ = _
      generalize sdQ A C s i k = q at q1 q2
      obtain ⟨c, t⟩ := q
      rw [obind2_eq, i_Matrix_turnColumns_02o_eq h.m hi hk, obind_eq, q1, need_true, i_Matrix_turnColumns_02o_eq h.n hi hk, obind_eq, q2, need_true, i_ValidMatrix_eq _ _ (turnK_oks h.g) (turnK_mat h.m).le, mat_valid (turnK_mat h.m) hA (by omega), obind_eq, i_ValidMatrix_eq _ _ (turnK_oks h.h) (turnK_mat h.n).le, mat_valid (turnK_mat h.n) (by omega) (by omega), obind_eq, hend, wsucc (by omega)]
      cases (turnK A C i k c t s.1).all fin32 <;> cases (turnK C C i k c t s.2).all fin32 <;> rfl
theorem s_l04Side_col {A C i k : Nat} {s : SD} {a b : List F} (h : SInv A C s) (ha : a.length = A * C) (hb : b.length = C * C) (hA : 0 < A) (hi : i < C) (hk : k < C) :
    s_l04Side_b13 (C : Int) (A : Int) (C : Int) a (C : Int) (C : Int) b (i : Int) s.1 s.2 (k : Int) = sdL (k + 1) (sdCol A C i k s) := by
  have hC := h.m.C1
  unfold s_l04Side_b13 sdCol
  have hend : ∀ L V x y z, s_l04Side_k12 x L V y z = some (.next (L, V, IntKind.i64.wrap (x + 1))) := fun _ _ _ _ _ => rfl
  rw [dlt hk, bsel_true, s_l04Sums_eq h.m hi hk, obind3_eq, s_l01Finite_eq (colDot_ok _ _ _ _ _), obind_eq, s_l01Finite_eq (colDot_ok _ _ _ _ _), obind_eq, s_l01Finite_eq (colDot_ok _ _ _ _ _), obind_eq]
  cases fin32 (colDot A C s.1 i i) with
  | false => rfl
  | true =>
  cases fin32 (colDot A C s.1 k k) with
  | false => rfl
  | true =>
  cases fin32 (colDot A C s.1 i k) with
  | false => rfl
  | true =>
    rw [bsel_true, bsel_true, bsel_true, show (true && (true && true)) = true from rfl, cond_true, hend, wsucc (by omega)]
    cases feq .f32 (colDot A C s.1 i k) (some 0) with
    | true => rfl
    | false =>
      have q1 : decide ((turnK A C i k (sdQ A C s i k).1 (sdQ A C s i k).2 s.1).length = a.length) = true := by simp [(turnK_mat h.m).len, ha]
      have q2 : decide ((turnK C C i k (sdQ A C s i k).1 (sdQ A C s i k).2 s.2).length = b.length) = true := by simp [(turnK_mat h.n).len, hb]
      rw [bsel_false, cond_false, olet_eq, olet_eq, olet_eq, s_l04Cosine_eq (fop_fok _ _ _)]
      show obind2 (some (sdQ A C s i k)) _ = _
      generalize sdQ A C s i k = q at q1 q2
      obtain ⟨c, t⟩ := q
      rw [obind2_eq, s_l04Columns_0p0_C02o1_eq h.m hi hk, obind_eq, q1, need_true, s_l04Columns_0p0_C02o1_eq h.n hi hk, obind_eq, q2, need_true, s_l02Is_eq _ _ (turnK_oks h.g) (turnK_mat h.m).le, mat_valid (turnK_mat h.m) hA (by omega), obind_eq, s_l02Is_eq _ _ (turnK_oks h.h) (turnK_mat h.n).le, mat_valid (turnK_mat h.n) (by omega) (by omega), obind_eq, hend, wsucc (by omega)]
      cases (turnK A C i k c t s.1).all fin32 <;> cases (turnK C C i k c t s.2).all fin32 <;> rfl
theorem s_l04Side_row {A C i : Nat} {s : SD} {a b : List F} (h : SInv A C s) (ha : a.length = A * C) (hb : b.length = C * C) (hA : 0 < A) (hi : i < C) :
    s_l04Side_b14 (C : Int) (A : Int) (C : Int) a (C : Int) (C : Int) b s.1 s.2 (i : Int) = sdL (i + 1) (sdRow A C i s) := by
  have hC := h.m.C1
  unfold s_l04Side_b14
  obtain ⟨e, _⟩ := loop_endE (step := s_l04Side_s13 (C : Int) (A : Int) (C : Int) a (C : Int) (C : Int) b (i : Int)) sdMk (sdCol A C i) (fun s => s) (fun _ s => SInv A C s) (lo := i + 1) (n := C) hi (s0 := s) h
    (fun k s _ hk hI => by
      have := s_l04Side_col hI ha hb hA hi hk
      cases hc : sdCol A C i k s with
      | inl s' => rw [hc] at this; exact .inl ⟨s', rfl, this, sdCol_inv hI hc⟩
      | inr r => rw [hc] at this; exact .inr ⟨r, rfl, this⟩)
    (fun s _ => by
      show s_l04Side_b13 _ _ _ _ _ _ _ _ _ _ _ = _
      unfold s_l04Side_b13
      rw [dnlt, bsel_false])
  replace e : loopM (s_l04Side_s13 (C : Int) (A : Int) (C : Int) a (C : Int) (C : Int) b (i : Int)) (s.1, s.2, ((i + 1 : Nat) : Int)) = some (endE (fun s => s) (sdRow A C i s)) := e
  rw [dlt hi, bsel_true, wsucc (by omega), olet_eq, e, obind_eq]
  cases sdRow A C i s with
  | inl s' =>
    show s_l04Side_k13 _ _ _ = _
    unfold s_l04Side_k13
    rw [wsucc (by omega)]; rfl
  | inr r => rfl
theorem s_l04Side_round {A C : Nat} {q : Nat} {s : SD} {a b : List F} (m : Nat) (h : SInv A C s) (ha : a.length = A * C) (hb : b.length = C * C) (hA : 0 < A) (hq : q < m) (hm : m ≤ 64) :
    s_l04Side_b15 (C : Int) (m : Int) (A : Int) (C : Int) a (C : Int) (C : Int) b s.1 s.2 (q : Int) = sdL (q + 1) (sdRound A C s) := by
  have hC := h.m.C1
  unfold s_l04Side_b15
  obtain ⟨e, _⟩ := loop_endE (step := s_l04Side_s14 (C : Int) (A : Int) (C : Int) a (C : Int) (C : Int) b) sdMk (sdRow A C) (fun s => s) (fun _ s => SInv A C s) (lo := 0) (n := C) (Nat.zero_le _) (s0 := s) h
    (fun k s _ hk hI => by
      have := s_l04Side_row hI ha hb hA hk
      cases hc : sdRow A C k s with
      | inl s' => rw [hc] at this; exact .inl ⟨s', rfl, this, sdRow_inv hI hc⟩
      | inr r => rw [hc] at this; exact .inr ⟨r, rfl, this⟩)
    (fun s _ => by
      show s_l04Side_b14 _ _ _ _ _ _ _ _ _ _ = _
      unfold s_l04Side_b14
      rw [dnlt, bsel_false])
  replace e : loopM (s_l04Side_s14 (C : Int) (A : Int) (C : Int) a (C : Int) (C : Int) b) (s.1, s.2, 0) = some (endE (fun s => s) (sdRound A C s)) := e
  rw [dlt hq, bsel_true, e, obind_eq]
  cases sdRound A C s with
  | inl s' =>
    show s_l04Side_k14 _ _ _ = _
    unfold s_l04Side_k14
    rw [wsucc (by omega)]; rfl
  | inr r => rfl
theorem s_l04Side_all {A C : Nat} {s : SD} {a b : List F} (m : Nat) (h : SInv A C s) (ha : a.length = A * C) (hb : b.length = C * C) (hA : 0 < A) (hm : m ≤ 64) :
    loopM (s_l04Side_s15 (C : Int) (m : Int) (A : Int) (C : Int) a (C : Int) (C : Int) b) (s.1, s.2, 0) = some (endE (fun s => s) (runE (fun _ s => sdRound A C s) 0 m s)) ∧ ∀ s', runE (fun _ s => sdRound A C s) 0 m s = .inl s' → SInv A C s' :=
  loop_endE (step := s_l04Side_s15 (C : Int) (m : Int) (A : Int) (C : Int) a (C : Int) (C : Int) b) sdMk (fun _ s => sdRound A C s) (fun s => s) (fun _ s => SInv A C s) (lo := 0) (n := m) (Nat.zero_le _) (s0 := s) h
    (fun k s _ hk hI => by
      have := s_l04Side_round m hI ha hb hA hk hm
      cases hc : sdRound A C s with
      | inl s' => rw [hc] at this; exact .inl ⟨s', rfl, this, sdRound_inv hI hc⟩
      | inr r => rw [hc] at this; exact .inr ⟨r, rfl, this⟩)
    (fun s _ => by
      show s_l04Side_b15 _ _ _ _ _ _ _ _ _ _ _ = _
      unfold s_l04Side_b15
      rw [dnlt, bsel_false])
theorem i_SideTurns_row {A C i : Nat} {s : SD} {a b : List F} (h : SInv A C s) (ha : a.length = A * C) (hb : b.length = C * C) (hA : 0 < A) (hi : i < C) :
    i_SideTurns_b14 (C : Int) (A : Int) (C : Int) a (C : Int) (C : Int) b s.1 s.2 (i : Int) = sdL (i + 1) (sdRow A C i s) := by
  have hC := h.m.C1
  unfold i_SideTurns_b14
  obtain ⟨e, _⟩ := loop_endE (step := i_SideTurns_s13 (C : Int) (A : Int) (C : Int) a (C : Int) (C : Int) b (i : Int)) sdMk (sdCol A C i) (fun s => s) (fun _ s => SInv A C s) (lo := i + 1) (n := C) hi (s0 := s) h
    (fun k s _ hk hI => by
      have := i_SideTurns_col hI ha hb hA hi hk
      cases hc : sdCol A C i k s with
      | inl s' => rw [hc] at this; exact .inl ⟨s', rfl, this, sdCol_inv hI hc⟩
      | inr r => rw [hc] at this; exact .inr ⟨r, rfl, this⟩)
    (fun s _ => by
      show i_SideTurns_b13 _ _ _ _ _ _ _ _ _ _ _ = _
      unfold i_SideTurns_b13
      rw [dnlt, bsel_false])
  replace e : loopM (i_SideTurns_s13 (C : Int) (A : Int) (C : Int) a (C : Int) (C : Int) b (i : Int)) (s.1, s.2, ((i + 1 : Nat) : Int)) = some (endE (fun s => s) (sdRow A C i s)) := e
  rw [dlt hi, bsel_true, wsucc (by omega), olet_eq, e, obind_eq]
  cases sdRow A C i s with
  | inl s' =>
    show i_SideTurns_k13 _ _ _ = _
    unfold i_SideTurns_k13
    rw [wsucc (by omega)]; rfl
  | inr r => rfl
theorem i_SideTurns_round {A C : Nat} {q : Nat} {s : SD} {a b : List F} (m : Nat) (h : SInv A C s) (ha : a.length = A * C) (hb : b.length = C * C) (hA : 0 < A) (hq : q < m) (hm : m ≤ 64) :
    i_SideTurns_b15 (C : Int) (m : Int) (A : Int) (C : Int) a (C : Int) (C : Int) b s.1 s.2 (q : Int) = sdL (q + 1) (sdRound A C s) := by
  have hC := h.m.C1
  unfold i_SideTurns_b15
  obtain ⟨e, _⟩ := loop_endE (step := i_SideTurns_s14 (C : Int) (A : Int) (C : Int) a (C : Int) (C : Int) b) sdMk (sdRow A C) (fun s => s) (fun _ s => SInv A C s) (lo := 0) (n := C) (Nat.zero_le _) (s0 := s) h
    (fun k s _ hk hI => by
      have := i_SideTurns_row hI ha hb hA hk
      cases hc : sdRow A C k s with
      | inl s' => rw [hc] at this; exact .inl ⟨s', rfl, this, sdRow_inv hI hc⟩
      | inr r => rw [hc] at this; exact .inr ⟨r, rfl, this⟩)
    (fun s _ => by
      show i_SideTurns_b14 _ _ _ _ _ _ _ _ _ _ = _
      unfold i_SideTurns_b14
      rw [dnlt, bsel_false])
  replace e : loopM (i_SideTurns_s14 (C : Int) (A : Int) (C : Int) a (C : Int) (C : Int) b) (s.1, s.2, 0) = some (endE (fun s => s) (sdRound A C s)) := e
  rw [dlt hq, bsel_true, e, obind_eq]
  cases sdRound A C s with
  | inl s' =>
    show i_SideTurns_k14 _ _ _ = _
    unfold i_SideTurns_k14
    rw [wsucc (by omega)]; rfl
  | inr r => rfl
theorem i_SideTurns_all {A C : Nat} {s : SD} {a b : List F} (m : Nat) (h : SInv A C s) (ha : a.length = A * C) (hb : b.length = C * C) (hA : 0 < A) (hm : m ≤ 64) :
    loopM (i_SideTurns_s15 (C : Int) (m : Int) (A : Int) (C : Int) a (C : Int) (C : Int) b) (s.1, s.2, 0) = some (endE (fun s => s) (runE (fun _ s => sdRound A C s) 0 m s)) ∧ ∀ s', runE (fun _ s => sdRound A C s) 0 m s = .inl s' → SInv A C s' :=
  loop_endE (step := i_SideTurns_s15 (C : Int) (m : Int) (A : Int) (C : Int) a (C : Int) (C : Int) b) sdMk (fun _ s => sdRound A C s) (fun s => s) (fun _ s => SInv A C s) (lo := 0) (n := m) (Nat.zero_le _) (s0 := s) h
    (fun k s _ hk hI => by
      have := i_SideTurns_round m hI ha hb hA hk hm
      cases hc : sdRound A C s with
      | inl s' => rw [hc] at this; exact .inl ⟨s', rfl, this, sdRound_inv hI hc⟩
      | inr r => rw [hc] at this; exact .inr ⟨r, rfl, this⟩)
    (fun s _ => by
      show i_SideTurns_b15 _ _ _ _ _ _ _ _ _ _ _ = _
      unfold i_SideTurns_b15
      rw [dnlt, bsel_false])
theorem SideTurns_eq (a0 a1 : Int) (a2 : List F) (a3 : Int) (g : FOks a2) (s2 : a2.length ≤ 1048576) : ∃ x y z w b L V, s_SideTurns a0 a1 a2 a3 = some (x, y, z, w, b, L, V) ∧ i_SideTurns a0 a1 a2 a3 = some (x, y, z, w, b, L, V) ∧ L.length ≤ 1048576 ∧ V.length ≤ 1048576 := by
  unfold s_SideTurns i_SideTurns s_l04Tall i_isTall s_l04Rounds i_isRounds
  rw [s_l02Is_eq a0 a1 g s2, i_ValidMatrix_eq a0 a1 g s2, obind_eq, obind_eq]
  cases hv : validM a0 a1 a2 with
  | false => exact ⟨_, _, _, _, _, _, _, rfl, rfl, by simp, by simp⟩
  | true =>
    rw [bsel_true, bsel_true]
    cases hle : decide (a1 ≤ a0) with
    | false => exact ⟨_, _, _, _, _, _, _, rfl, rfl, by simp, by simp⟩
    | true =>
      rw [bsel_true, s_l00In_eq, i_inRange_eq, obind_eq, obind_eq, obind_eq, obind_eq, bsel_true, obind_eq]
      cases hr : decide (0 ≤ a3) && decide (a3 ≤ 64) with
      | false => exact ⟨_, _, _, _, _, _, _, rfl, rfl, by simp, by simp⟩
      | true =>
        rw [bsel_true, bsel_true]
        simp only [Bool.and_eq_true, decide_eq_true_eq] at hr
        obtain ⟨A, C, rfl, rfl, A0, C0, m, f⟩ := valid_mat hv
        obtain ⟨q, rfl⟩ : ∃ q : Nat, a3 = (q : Int) := ⟨a3.toNat, by omega⟩
        have hC := m.C1
        have hI : SInv A C (a2, tabM C C unitF) := ⟨m, g, tabM_mat hC hC, tabM_oks hC hC unitF_ok⟩
        obtain ⟨e1, e2⟩ := s_l04Side_all (a := a2) (b := tabM C C unitF) q hI m.len (tabM_mat hC hC).len A0 (by omega)
        obtain ⟨e3, _⟩ := i_SideTurns_all (a := a2) (b := tabM C C unitF) q hI m.len (tabM_mat hC hC).len A0 (by omega)
        unfold s_l04Side
        rw [s_l02Own_eq _ _ s2, i_Matrix_clone_eq _ _ s2, obind3_eq, obind3_eq, s_l02Unit_eq hC, i_unit_eq hC, obind3_eq, obind3_eq, e1, e3, obind_eq, obind_eq]
        cases hx : runE (fun _ s => sdRound A C s) 0 q (a2, tabM C C unitF) with
        | inl s' =>
          have hJ := e2 s' hx
          exact ⟨_, _, _, _, _, _, _, rfl, rfl, hJ.m.le, hJ.n.le⟩
        | inr r =>
          have : r = sdFail := runE_ret (P := fun r => r = sdFail) (fun _ _ _ h => sdRound_ret h) hx
          subst this
          exact ⟨_, _, _, _, _, _, _, rfl, rfl, by simp [sdFail], by simp [sdFail]⟩
theorem w_FnExactSideTurns_true (a0 : Int) (a1 : Int) (a2 : List F) (a3 : Int) (s_a2 : Small a2) (g_a2 : FOks a2) : w_FnExactSideTurns a0 a1 a2 a3 = some true := by
  obtain ⟨l0, e0, h0⟩ := w_szFloat32S_ex a2 1048576 s_a2 (by omega) (by omega)
  rcases Int.lt_or_le l0 0 with c0 | c0
  · simp [w_FnExactSideTurns, w_eqMatrix, w_heldMatrix, w_markMatrix_02o, w_szMatrix, w_toMatrix, e0, c0]
  have d0 : decide (l0 < 0) = false := by simp; omega
  have t0 := h0 c0
  have t_a2 : a2.length ≤ 1048576 := by omega
  have f1 : w_toFloat32S a2 = some a2 := w_toFloat32S_eq a2 t_a2
  obtain ⟨z0, z1, z2, z3, z4, z5, z6, p1, p2, b_z5, b_z6⟩ := SideTurns_eq a0 a1 a2 a3 g_a2 t_a2
  have f2 : w_eqFloat32S z5 z5 = some true := w_eqFloat32S_refl z5 b_z5
  have f3 : w_eqFloat32S z6 z6 = some true := w_eqFloat32S_refl z6 b_z6
  have f4 : (!(z4 == z4)) = false := by cases z4 <;> rfl
  have f5 : w_eqFloat32S a2 a2 = some true := w_eqFloat32S_refl a2 t_a2
  have f6 : w_markFloat32S_0o 1 a2 = some ((1 + (a2.length : Int)), marks 1 a2.length) := w_markFloat32S_0o_eq 1 a2 (by omega) (by omega) t_a2
  have f7 : decide ((1 + (a2.length : Int)) < 0) = false := by simp <;> omega
  have f8 : w_markFloat32S_0o 1 z5 = some ((1 + (z5.length : Int)), marks 1 z5.length) := w_markFloat32S_0o_eq 1 z5 (by omega) (by omega) b_z5
  have f9 : w_markFloat32S_0o (1 + (z5.length : Int)) z6 = some (((1 + (z5.length : Int)) + (z6.length : Int)), marks (1 + (z5.length : Int)) z6.length) := w_markFloat32S_0o_eq (1 + (z5.length : Int)) z6 (by omega) (by omega) b_z6
  have f10 : w_heldFloat32S (marks 1 z5.length) 1 = some (1 + (z5.length : Int)) := w_heldFloat32S_eq 1 z5.length (by omega) (by omega) b_z5
  have f11 : decide ((1 + (z5.length : Int)) < 0) = false := by simp <;> omega
  have f12 : w_heldFloat32S (marks (1 + (z5.length : Int)) z6.length) (1 + (z5.length : Int)) = some ((1 + (z5.length : Int)) + (z6.length : Int)) := w_heldFloat32S_eq (1 + (z5.length : Int)) z6.length (by omega) (by omega) b_z6
  have f13 : decide (((1 + (z5.length : Int)) + (z6.length : Int)) < 0) = false := by simp <;> omega
  simp only [w_FnExactSideTurns, w_eqMatrix, w_heldMatrix, w_markMatrix_02o, w_szMatrix, w_toMatrix, e0, d0, f1, p1, p2, f2, f3, f4, f5, f6, f7, f8, f9, f10, f11, f12, f13, obind_eq, obind2_eq, obind3_eq, obind4_eq, obind5_eq, obind6_eq, obind7_eq, obind8_eq, bsel_true, bsel_false, need_true, olet_eq, marks_len, marksI_len, decide_true, Bool.not_true, Bool.not_false]

end Go.Proofs.Ytjbifkimffmhpaa
