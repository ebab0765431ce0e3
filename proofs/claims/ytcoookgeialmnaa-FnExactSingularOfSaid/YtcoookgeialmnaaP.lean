/- The plain law of FnExactSingularOf. -/
import Derived.Test.YtcoookgeialmnaaG2
namespace Go.Proofs.Ytcoookgeialmnaa
set_option linter.unusedSimpArgs false
set_option linter.unusedVariables false
open Go Go.AM
def Small {α : Type} (l : List α) : Prop := l.length ≤ 9223372036854775807
theorem sz_one (n : Nat) (a : Int) (hn : n ≤ 9223372036854775807) (h0 : 0 ≤ a) (h1 : a ≤ 1048576) :
    ∃ r, olet (IntKind.i64.wrap (a - (n : Int))) (fun x1 => bsel (decide (x1 < 0)) (some (-1)) (some x1)) = some r ∧ (0 ≤ r → (n : Int) ≤ a ∧ r ≤ a) := by
  rw [wrap_i64 (by omega) (by omega)]
  simp only [olet_eq, bsel_if, decide_eq_true_eq]
  split
  · exact ⟨_, rfl, fun h => by omega⟩
  · exact ⟨_, rfl, fun h => by omega⟩
theorem w_szFloat32S_ex (l : List F) (a : Int) (hn : Small l) (h0 : 0 ≤ a) (h1 : a ≤ 1048576) : ∃ r, w_szFloat32S l a = some r ∧ (0 ≤ r → (l.length : Int) ≤ a ∧ r ≤ a) := sz_one l.length a hn h0 h1
theorem w_toFloat32S_eq (a : List F) (h : a.length ≤ 1048576) : w_toFloat32S a = some a := by
  unfold w_toFloat32S
  have hm : mkok 4 (a.length : Int) = true := by simp [mkok]; omega
  rw [hm, need_true, loop_copy (a := a) (ρ := List F) ?_ ?_ _ (by simp)]
  · rfl
  · intro L v x h0 hv hx hL
    show w_toFloat32S_b1 a L v = _
    unfold w_toFloat32S_b1
    have hs := setAt?_of (l := L) (x := x) h0 (by omega)
    simp [bsel_if, hv, at?_of h0 hx, hs, wrap_succ h0 hv (by omega : a.length ≤ 9223372036854775807)]
  · intro L hL
    show w_toFloat32S_b1 a L (a.length : Int) = _
    unfold w_toFloat32S_b1
    simp [bsel_if]
theorem w_sameFloat_refl (c : F) : w_sameFloat c c = some true := by
  unfold w_sameFloat
  cases h : feq .f64 c c <;> simp [w_sameFloat_k1, h, bsel_if]
theorem w_eqFloat32S_refl (a : List F) (h : a.length ≤ 1048576) : w_eqFloat32S a a = some true := by
  unfold w_eqFloat32S
  rw [loop_eq (l := a) (m := a) rfl ?_ ?_]
  · simp [bsel_if, w_eqFloat32S_k1]
  · intro v x y h0 hv hx hy
    rw [hx] at hy; cases hy
    show w_eqFloat32S_b1 a a v = _
    unfold w_eqFloat32S_b1
    rw [at?_of h0 hx, wrap_succ h0 hv (by omega)]
    simp [bsel_if, hv, w_sameFloat_refl]
  · show w_eqFloat32S_b1 a a (a.length : Int) = _
    unfold w_eqFloat32S_b1
    simp [bsel_if]
def FOks (l : List F) : Prop := ∀ c ∈ l, FOk .f32 c
theorem FOks.at {l : List F} (h : FOks l) {i : Nat} {c : F} (e : l[i]? = some c) : FOk .f32 c := h c (List.mem_of_getElem? e)
theorem s_l00In_eq (n lo hi : Int) : s_l00In n lo hi = some (decide (lo ≤ n) && decide (n ≤ hi)) := by
  unfold s_l00In; cases decide (lo ≤ n) <;> rfl
theorem i_inRange_eq (n lo hi : Int) : i_inRange n lo hi = some (decide (lo ≤ n) && decide (n ≤ hi)) := by
  unfold i_inRange; cases decide (lo ≤ n) <;> rfl
theorem s_l01Finite_eq {c : F} (h : FOk .f32 c) : s_l01Finite c = some (fin32 c) := by
  unfold s_l01Finite; rw [olet_eq, sub_self h]
theorem s_l02Finite_eq {a : List F} (ha : FOks a) (sa : a.length ≤ 1048576) : s_l02Finite a = some (a.all fin32) := by
  unfold s_l02Finite
  rw [loop_all (l := a) (p := fin32) false ?_ ?_]
  · cases h : a.all fin32 <;> simp [s_l02Finite_k1]
  · intro v x h0 hv hx
    show s_l02Finite_b1 a v = _
    unfold s_l02Finite_b1
    rw [at?_of h0 hx, wrap_succ h0 hv (by omega)]
    simp [bsel_if, hv, s_l01Finite_eq (ha.at hx)]
  · show s_l02Finite_b1 a (a.length : Int) = _
    unfold s_l02Finite_b1
    simp [bsel_if]
theorem i_IsFinite_eq {c : F} (h : FOk .f32 c) : i_IsFinite c = some (fin32 c) := by
  unfold i_IsFinite i_isFinite64 x_math_IsNaN x_math_IsInf x_math_Abs x_math_IsInf_k1
  cases c with
  | none => simp [fwiden, fin32]
  | some b =>
    have hw := feq_refl (k := .f64) (b := FloatKind.f64.encode (FloatKind.f32.decode b)) (fwiden_ok h)
    have hw' : feq .f64 (fwiden (some b)) (fwiden (some b)) = true := hw
    have hm := fabs_max h (by simp)
    simp only [olet_eq, obind_eq, hw', Bool.not_true, bsel_false, decide_true, bsel_true, hm, Bool.not_not]
theorem i_areFinite_1_eq {c : F} (h : FOk .f32 c) : i_areFinite_1 c = some (!fin32 c) := by
  unfold i_areFinite_1; rw [i_IsFinite_eq h]; rfl
theorem any_not {α : Type} (l : List α) (p : α → Bool) : l.any (fun x => !p x) = !l.all p := by
  induction l with
  | nil => rfl
  | cons a l ih => simp [ih]
theorem i_areFinite_eq {a : List F} (ha : FOks a) (sa : a.length ≤ 1048576) : i_areFinite a = some (a.all fin32) := by
  unfold i_areFinite x_slices_ContainsFunc_float32_float32_1Fi_areFinite_1 x_slices_IndexFunc_float32_float32_1Fi_areFinite_1
  obtain ⟨r, h1, h2⟩ := loop_find (l := a) (p := fun c => !fin32 c) (step := x_slices_IndexFunc_float32_float32_1Fi_areFinite_1_s1 a) (by
    intro v x h0 hv hx
    show x_slices_IndexFunc_float32_float32_1Fi_areFinite_1_b1 a v = _
    unfold x_slices_IndexFunc_float32_float32_1Fi_areFinite_1_b1
    rw [at?_of h0 hx, wrap_succ h0 hv (by omega)]
    simp [bsel_if, hv, i_areFinite_1_eq (ha.at hx)]) (by
    show x_slices_IndexFunc_float32_float32_1Fi_areFinite_1_b1 a (a.length : Int) = _
    unfold x_slices_IndexFunc_float32_float32_1Fi_areFinite_1_b1
    simp [bsel_if])
  rw [h1, any_not]
  cases h : a.all fin32 <;> simp [x_slices_IndexFunc_float32_float32_1Fi_areFinite_1_k1, h2]
theorem fint_ok (n : Int) : FOk .f32 (fint .f32 n) := ⟨_, encode_FR .f32 (d := .number (n < 0) n.natAbs 0) rfl⟩
theorem feq_fint (n : Int) : feq .f32 (fint .f32 n) (fint .f32 n) = true := feq_refl (fint_ok n)
def marks (k : Int) (n : Nat) : List F := (List.range n).map fun (i : Nat) => fint .f32 (k + (i : Int))
def marksI (k : Int) (n : Nat) : List Int := (List.range n).map fun (i : Nat) => k + (i : Int)
theorem marks_len (k : Int) (n : Nat) : (marks k n).length = n := by simp [marks]
theorem marksI_len (k : Int) (n : Nat) : (marksI k n).length = n := by simp [marksI]
theorem loop_mark {α ρ : Type} (mk : Int → α) (k : Int) (n : Nat) {step : List α × Int × Int → Option (LR (List α × Int × Int) (List α × Int) ρ)}
    (hstep : ∀ (L : List α) (i : Nat), i < n → L.length = n → step (L, k + (i : Int), (i : Int)) = some (.next (L.set i (mk (k + (i : Int))), k + ((i + 1 : Nat) : Int), ((i + 1 : Nat) : Int))))
    (hend : ∀ L : List α, L.length = n → step (L, k + (n : Int), (n : Int)) = some (.out (L, k + (n : Int)))) (a : List α) (ha : a.length = n) :
    loopM step (a, k, 0) = some (.inl ((List.range n).map (fun (i : Nat) => mk (k + (i : Int))), k + (n : Int))) := by
  have key : ∀ (m i : Nat) (L : List α), m + i = n → L.length = n → L.take i = (List.range i).map (fun (i : Nat) => mk (k + (i : Int))) → loopM step (L, k + (i : Int), (i : Int)) = some (.inl ((List.range n).map (fun (i : Nat) => mk (k + (i : Int))), k + (n : Int))) := by
    intro m
    induction m with
    | zero =>
      intro i L hi hL ht
      have : i = n := by omega
      subst this
      rw [loopM_out (hend L hL), ← ht, ← hL, List.take_length]
    | succ m ih =>
      intro i L hi hL ht
      rw [loopM_next (hstep L i (by omega) hL)]
      refine ih (i + 1) _ (by omega) (by simpa using hL) ?_
      rw [List.take_succ_eq_append_getElem (by simp; omega), List.take_set_of_le (Nat.le_refl _), ht, List.range_succ, List.map_append]
      simp
  have := key n 0 a (by omega) ha (by simp)
  simpa using this
theorem w_markFloat32S_0o_eq (k : Int) (a : List F) (h0 : -1000000000 ≤ k) (h1 : k ≤ 1000000000) (ha : a.length ≤ 1048576) : w_markFloat32S_0o k a = some (k + (a.length : Int), marks k a.length) := by
  unfold w_markFloat32S_0o
  rw [loop_mark (fun n => fint .f32 n) k a.length (step := w_markFloat32S_0o_s1 a) ?_ ?_ a rfl]
  · rfl
  · intro L i hi hL
    show w_markFloat32S_0o_b1 a L (k + (i : Int)) (i : Int) = _
    unfold w_markFloat32S_0o_b1
    have hs := setAt?_of (l := L) (v := (i : Int)) (x := fint .f32 (k + (i : Int))) (by omega) (by omega)
    have e1 : IntKind.i64.wrap (k + (i : Int) + 1) = k + ((i + 1 : Nat) : Int) := by rw [wrap_i64 (by omega) (by omega)]; omega
    have e2 : IntKind.i64.wrap ((i : Int) + 1) = ((i + 1 : Nat) : Int) := by rw [wrap_i64 (by omega) (by omega)]; omega
    simp only [olet_eq, hs, obind_eq, e1, e2, bsel_if, decide_eq_true_eq]
    rw [if_pos (by omega)]
    rfl
  · intro L hL
    show w_markFloat32S_0o_b1 a L (k + (a.length : Int)) (a.length : Int) = _
    unfold w_markFloat32S_0o_b1
    simp [bsel_if]
theorem loop_held {k : Int} {n : Nat} {step : Int × Int → Option (LR (Int × Int) Int Int)}
    (hstep : ∀ i : Nat, i < n → step (k + (i : Int), (i : Int)) = some (.next (k + ((i + 1 : Nat) : Int), ((i + 1 : Nat) : Int)))) (hend : step (k + (n : Int), (n : Int)) = some (.out (k + (n : Int)))) :
    loopM step (k, 0) = some (.inl (k + (n : Int))) := by
  have key : ∀ (m i : Nat), m + i = n → loopM step (k + (i : Int), (i : Int)) = some (.inl (k + (n : Int))) := by
    intro m
    induction m with
    | zero => intro i hi; have : i = n := by omega
              subst this; exact loopM_out hend
    | succ m ih => intro i hi; rw [loopM_next (hstep i (by omega))]; exact ih (i + 1) (by omega)
  have := key n 0 (by omega)
  simpa using this
theorem w_heldFloat32S_eq (k : Int) (n : Nat) (h0 : -1000000000 ≤ k) (h1 : k ≤ 1000000000) (hn : n ≤ 1048576) : w_heldFloat32S (marks k n) k = some (k + (n : Int)) := by
  unfold w_heldFloat32S
  rw [loop_held (k := k) (n := n) (step := w_heldFloat32S_s1 (marks k n)) ?_ ?_]
  · rfl
  · intro i hi
    show w_heldFloat32S_b1 (marks k n) (k + (i : Int)) (i : Int) = _
    unfold w_heldFloat32S_b1
    have hx : (marks k n)[(i : Int).toNat]? = some (fint .f32 (k + (i : Int))) := by simp [marks, hi]
    have e1 : IntKind.i64.wrap (k + (i : Int) + 1) = k + ((i + 1 : Nat) : Int) := by rw [wrap_i64 (by omega) (by omega)]; omega
    have e2 : IntKind.i64.wrap ((i : Int) + 1) = ((i + 1 : Nat) : Int) := by rw [wrap_i64 (by omega) (by omega)]; omega
    rw [at?_of (by omega) hx]
    simp only [olet_eq, obind_eq, e1, e2, bsel_if, decide_eq_true_eq, marks_len, feq_fint]
    rw [if_pos (by omega)]
    simp
  · show w_heldFloat32S_b1 (marks k n) (k + (n : Int)) (n : Int) = _
    unfold w_heldFloat32S_b1
    simp [bsel_if, marks_len]
abbrev q1 : List F := [some 1073741824, some 1065353216, some 1065353216, some 1073741824]
abbrev q2 : List F := [some 1065353216, some 0]
abbrev q3 : List F := [some 1073741824, some 1073741824]
theorem small_mul {x y : Nat} (hx : x ≤ 12) (hy : y ≤ 12) : x * y ≤ 144 := Nat.mul_le_mul hx hy
def side (n : Int) : Bool := decide (1 ≤ n) && decide (n ≤ 12)
theorem s_l02Sides_eq (x y : Int) : s_l02Sides x y = some (side x && side y) := by
  unfold s_l02Sides; rw [s_l00In_eq, s_l00In_eq]; unfold side
  cases decide (1 ≤ x) <;> cases decide (x ≤ 12) <;> rfl
theorem i_isSide_eq (x : Int) : i_isSide x = some (side x) := by
  unfold i_isSide; rw [i_inRange_eq]; rfl
def validM (a0 a1 : Int) (a2 : List F) : Bool := side a0 && side a1 && decide ((a2.length : Int) = IntKind.i64.wrap (a0 * a1)) && a2.all fin32
theorem s_l02Is_eq (a0 a1 : Int) {a2 : List F} (g2 : FOks a2) (s2 : a2.length ≤ 1048576) : s_l02Is a0 a1 a2 = some (validM a0 a1 a2) := by
  unfold s_l02Is validM
  rw [s_l02Sides_eq, s_l02Finite_eq g2 s2]
  cases side a0 <;> cases side a1 <;> simp [bsel_if] <;> split <;> simp_all
theorem i_ValidMatrix_eq (a0 a1 : Int) {a2 : List F} (g2 : FOks a2) (s2 : a2.length ≤ 1048576) : i_ValidMatrix a0 a1 a2 = some (validM a0 a1 a2) := by
  unfold i_ValidMatrix i_length_float32 validM
  rw [i_isSide_eq, i_isSide_eq, i_areFinite_eq g2 s2]
  cases side a0 <;> cases side a1 <;> simp [bsel_if] <;> split <;> simp_all
theorem side_nat {n : Int} (h : side n = true) : ∃ m : Nat, n = (m : Int) ∧ 0 < m ∧ m ≤ 12 := by
  simp [side] at h
  exact ⟨n.toNat, by omega, by omega, by omega⟩
theorem FOks.getD {l : List F} (h : FOks l) (n : Nat) : FOk .f32 (l.getD n none) := by
  simp only [List.getD]
  cases e : l[n]? with
  | none => exact fok_none _
  | some c => exact h.at e
theorem FOks.set {l : List F} (h : FOks l) {n : Nat} {x : F} (hx : FOk .f32 x) : FOks (l.set n x) := by
  intro c hc
  rcases List.mem_or_eq_of_mem_set hc with h1 | h1
  · exact h c h1
  · exact h1 ▸ hx
theorem wsucc {i : Nat} (h : i ≤ 1000000000) : IntKind.i64.wrap ((i : Int) + 1) = ((i + 1 : Nat) : Int) := by
  rw [wrap_i64 (by omega) (by omega)]; omega
theorem dlt {i n : Nat} (h : i < n) : decide ((i : Int) < (n : Int)) = true := by simp; omega
theorem dnlt {n : Nat} : decide ((n : Int) < (n : Int)) = false := by simp
theorem i_Matrix_at_eq {A C i k : Nat} {L : List F} (r : Int) (h : Mat A C L) (hi : i < A) (hk : k < C) : i_Matrix_at r (C : Int) L (i : Int) (k : Int) = some (gm none L C i k) := by
  obtain ⟨e1, e2⟩ := idx_w h.A1 h.C1 hi hk
  unfold i_Matrix_at
  rw [e1, olet_eq, e2, olet_eq, at?_n none (h.lt hi hk), obind_eq]
theorem s_l02At_eq {A C i k : Nat} {L : List F} (r : Int) (h : Mat A C L) (hi : i < A) (hk : k < C) : s_l02At r (C : Int) L (i : Int) (k : Int) = some (gm none L C i k) := by
  obtain ⟨e1, e2⟩ := idx_w h.A1 h.C1 hi hk
  unfold s_l02At
  rw [e1, olet_eq, e2, olet_eq, at?_n none (h.lt hi hk), obind_eq]
theorem i_Matrix_set_02o_eq {A C i k : Nat} {L : List F} (r : Int) (h : Mat A C L) (hi : i < A) (hk : k < C) (x : F) : i_Matrix_set_02o r (C : Int) (i : Int) (k : Int) x L = some (sm L C i k x) := by
  obtain ⟨e1, e2⟩ := idx_w h.A1 h.C1 hi hk
  unfold i_Matrix_set_02o
  rw [e1, olet_eq, e2, olet_eq, setAt?_n x (h.lt hi hk), obind_eq]
theorem i_absolute_eq {c : F} (h : FOk .f32 c) : i_absolute c = some (fabs32 c) := by
  unfold i_absolute x_math_Abs
  rw [olet_eq, olet_eq, obind_eq, abs_narrow h, obind_eq]
theorem s_l02Size_eq {c : F} (h : FOk .f32 c) : s_l02Size c = some (fabs32 c) := by
  unfold s_l02Size
  rw [← size_abs h, bsel_if, olet_eq]
  split <;> rfl
theorem i_mul_eq (a b : F) : i_mul a b = some (fop .mul .f32 a b) := rfl
theorem getD_of_lt {α : Type} {l : List α} {n : Nat} (d : α) (h : n < l.length) : l[n]? = some (l.getD n d) := by simp [List.getD, h]
def upTo (n : Nat) : List Int := (List.range n).map fun (i : Nat) => (i : Int)
theorem valid_mat {a0 a1 : Int} {a2 : List F} (h : validM a0 a1 a2 = true) : ∃ A C : Nat, a0 = (A : Int) ∧ a1 = (C : Int) ∧ 0 < A ∧ 0 < C ∧ Mat A C a2 ∧ a2.all fin32 = true := by
  simp only [validM, Bool.and_eq_true, decide_eq_true_eq] at h
  obtain ⟨⟨⟨v1, v2⟩, v3⟩, v4⟩ := h
  obtain ⟨A, rfl, A0, A1⟩ := side_nat v1
  obtain ⟨C, rfl, C0, C1⟩ := side_nat v2
  have hAC := small_mul A1 C1
  rw [← Int.natCast_mul, wn (by omega)] at v3
  exact ⟨A, C, rfl, rfl, A0, C0, ⟨A1, C1, by omega⟩, v4⟩
theorem mat_valid {A C : Nat} {L : List F} (h : Mat A C L) (hA : 0 < A) (hC : 0 < C) : validM (A : Int) (C : Int) L = L.all fin32 := by
  unfold validM side
  have hAC := small_mul h.A1 h.C1
  have h1 := h.A1
  have h2 := h.C1
  rw [← Int.natCast_mul, wn (by omega), h.len]
  have e1 : decide ((1 : Int) ≤ (A : Int)) = true := by simp; omega
  have e2 : decide ((A : Int) ≤ 12) = true := by simp; omega
  have e3 : decide ((1 : Int) ≤ (C : Int)) = true := by simp; omega
  have e4 : decide ((C : Int) ≤ 12) = true := by simp; omega
  rw [e1, e2, e3, e4]
  simp
theorem s_l02Own_eq (a0 a1 : Int) {L : List F} (h : L.length ≤ 1048576) : s_l02Own a0 a1 L = some (a0, a1, L) := by
  have ap : apok 4 0 L.length = true := by simp [apok]; omega
  unfold s_l02Own; rw [ap]; rfl
theorem i_Matrix_clone_eq (a0 a1 : Int) {L : List F} (h : L.length ≤ 1048576) : i_Matrix_clone a0 a1 L = some (a0, a1, L) := by
  have ap : apok 4 0 L.length = true := by simp [apok]; omega
  unfold i_Matrix_clone x_slices_Clone_float32_float32; rw [ap]; rfl
theorem i_RootNumber_eq {y : F} (h : FOk .f32 y) : i_RootNumber y = some (rootN y) := by
  unfold i_RootNumber x_math_Sqrt
  rw [olet_eq, olet_eq, obind_eq, root_narrow h]; rfl
theorem s_l01Sqrt_eq {y : F} (h : FOk .f32 y) : s_l01Sqrt y = some (rootN y) := by
  unfold s_l01Sqrt x_math_Sqrt s_l01Narrow
  rw [olet_eq, olet_eq, obind_eq, root_narrow h]; rfl
theorem s_l02Zero_eq {A C : Nat} (hA : A ≤ 12) (hC : C ≤ 12) : s_l02Zero (A : Int) (C : Int) = some ((A : Int), (C : Int), List.replicate (A * C) (some 0)) := by
  have hAC := small_mul hA hC
  unfold s_l02Zero
  have mk : mkok 4 ((A * C : Nat) : Int) = true := by simp [mkok]; omega
  rw [← Int.natCast_mul, wn (by omega), olet_eq, mk]; rfl
theorem i_newMatrix_eq {A C : Nat} (hA : A ≤ 12) (hC : C ≤ 12) : i_newMatrix (A : Int) (C : Int) = some ((A : Int), (C : Int), List.replicate (A * C) (some 0)) := by
  have hAC := small_mul hA hC
  unfold i_newMatrix
  have mk : mkok 4 ((A * C : Nat) : Int) = true := by simp [mkok]; omega
  rw [← Int.natCast_mul, wn (by omega), olet_eq, mk]; rfl
theorem mat_ext {A C : Nat} {L L' : List F} (h : Mat A C L) (h' : Mat A C L') (e : ∀ i k, i < A → k < C → gm none L C i k = gm none L' C i k) : L = L' := by
  apply List.ext_getElem?
  intro q
  by_cases hq : q < A * C
  · have hC : 0 < C := by
      rcases Nat.eq_zero_or_pos C with h0 | h0
      · subst h0; simp at hq
      · exact h0
    have h1 : q / C < A := (Nat.div_lt_iff_lt_mul hC).2 hq
    have h2 : q % C < C := Nat.mod_lt _ hC
    have h3 : q / C * C + q % C = q := by rw [Nat.mul_comm]; exact Nat.div_add_mod q C
    have := e _ _ h1 h2
    unfold gm at this
    rw [h3] at this
    rw [getD_of_lt none (by rw [h.len]; exact hq), getD_of_lt none (by rw [h'.len]; exact hq), this]
  · rw [List.getElem?_eq_none (by rw [h.len]; omega), List.getElem?_eq_none (by rw [h'.len]; omega)]
def fillR (f : Nat → Nat → F) (C i : Nat) (L : List F) : List F := run (fun k L => sm L C i k (f i k)) 0 C L
def fillA (f : Nat → Nat → F) (A C : Nat) (L : List F) : List F := run (fillR f C) 0 A L
theorem fillR_spec {f : Nat → Nat → F} {A C i : Nat} {L : List F} (h : Mat A C L) (hi : i < A) : Mat A C (fillR f C i L) ∧ ∀ j k, j < A → k < C → gm none (fillR f C i L) C j k = if j = i then f i k else gm none L C j k := by
  have := run_inv (f := fun k L => sm L C i k (f i k)) (fun c L' => Mat A C L' ∧ ∀ j k, j < A → k < C → gm none L' C j k = if j = i ∧ k < c then f i k else gm none L C j k) C 0 L ⟨h, fun j k _ _ => by simp⟩ (fun c L' _ hc hI => by
    refine ⟨hI.1.set _ _ _, fun j k hj hk => ?_⟩
    rw [gm_set hI.1 hi (by omega) hk, hI.2 j k hj hk]
    by_cases e1 : i = j
    · subst e1
      by_cases e2 : c = k
      · subst e2; simp
      · by_cases e3 : k < c
        · rw [if_neg (by omega), if_pos (by omega), if_pos (by omega)]
        · rw [if_neg (by omega), if_neg (by omega), if_neg (by omega)]
    · rw [if_neg (by omega), if_neg (by omega), if_neg (by omega)])
  refine ⟨this.1, fun j k hj hk => ?_⟩
  unfold fillR
  rw [this.2 j k hj hk]
  by_cases e : j = i
  · rw [if_pos ⟨e, by omega⟩, if_pos e]
  · rw [if_neg (by omega), if_neg e]
theorem fillA_spec {f : Nat → Nat → F} {A C : Nat} {L : List F} (h : Mat A C L) : Mat A C (fillA f A C L) ∧ ∀ j k, j < A → k < C → gm none (fillA f A C L) C j k = f j k := by
  have := run_inv (f := fillR f C) (fun r L' => Mat A C L' ∧ ∀ j k, j < r → j < A → k < C → gm none L' C j k = f j k) A 0 L ⟨h, fun j k hj _ _ => by omega⟩ (fun r L' _ hr hI => by
    obtain ⟨s1, s2⟩ := fillR_spec (f := f) hI.1 (show r < A by omega)
    refine ⟨s1, fun j k hj hjA hk => ?_⟩
    rw [s2 j k hjA hk]
    by_cases e : j = r
    · rw [if_pos e, e]
    · rw [if_neg e]; exact hI.2 j k (by omega) hjA hk)
  exact ⟨this.1, fun j k hj hk => this.2 j k (by omega) hj hk⟩
def tabM (A C : Nat) (f : Nat → Nat → F) : List F := fillA f A C (List.replicate (A * C) (some 0))
theorem zmat {A C : Nat} (hA : A ≤ 12) (hC : C ≤ 12) : Mat A C (List.replicate (A * C) (some 0 : F)) := ⟨hA, hC, by simp⟩
theorem tabM_mat {A C : Nat} {f : Nat → Nat → F} (hA : A ≤ 12) (hC : C ≤ 12) : Mat A C (tabM A C f) := (fillA_spec (zmat hA hC)).1
theorem tabM_gm {A C : Nat} {f : Nat → Nat → F} (hA : A ≤ 12) (hC : C ≤ 12) {i k : Nat} (hi : i < A) (hk : k < C) : gm none (tabM A C f) C i k = f i k := (fillA_spec (zmat hA hC)).2 i k hi hk
theorem oks_of_gm {A C : Nat} {L : List F} (h : Mat A C L) (e : ∀ i k, i < A → k < C → FOk .f32 (gm none L C i k)) : FOks L := by
  intro c hc
  obtain ⟨q, hq, rfl⟩ := List.mem_iff_getElem.1 hc
  have hq' : q < A * C := by rw [← h.len]; exact hq
  have hC : 0 < C := by
    rcases Nat.eq_zero_or_pos C with h0 | h0
    · subst h0; simp at hq'
    · exact h0
  have h1 : q / C < A := (Nat.div_lt_iff_lt_mul hC).2 hq'
  have h2 : q % C < C := Nat.mod_lt _ hC
  have h3 : q / C * C + q % C = q := by rw [Nat.mul_comm]; exact Nat.div_add_mod q C
  have := e _ _ h1 h2
  unfold gm at this
  rw [h3] at this
  simpa [List.getD, hq] using this
theorem tabM_oks {A C : Nat} {f : Nat → Nat → F} (hA : A ≤ 12) (hC : C ≤ 12) (hf : ∀ i k, FOk .f32 (f i k)) : FOks (tabM A C f) := oks_of_gm (tabM_mat hA hC) fun i k hi hk => by rw [tabM_gm hA hC hi hk]; exact hf i k
theorem run_map {α : Type} (f : Nat → α) : ∀ n : Nat, run (fun i (l : List α) => l ++ [f i]) 0 n [] = (List.range n).map f
  | 0 => rfl
  | n + 1 => by rw [run_last, run_map f n]; simp [List.range_succ]
def unitF (i k : Nat) : F := bif decide (i = k) then some 1065353216 else some 0
theorem unitF_ok (i k : Nat) : FOk .f32 (unitF i k) := by
  unfold unitF
  cases decide (i = k)
  · exact ⟨0, rfl, by decide, rfl⟩
  · exact ⟨1065353216, rfl, by decide, rfl⟩
theorem i_unit_1_eq (i k : Nat) : i_unit_1 (i : Int) (k : Int) = some (unitF i k) := by
  unfold i_unit_1 unitF
  by_cases h : i = k
  · subst h; simp
  · rw [show decide ((i : Int) = (k : Int)) = false by simp; omega, show decide (i = k) = false by simp [h]]; rfl
theorem i_made_2Fi_unit_1_eq {A C : Nat} (hA : A ≤ 12) (hC : C ≤ 12) : i_made_2Fi_unit_1 (A : Int) (C : Int) = some ((A : Int), (C : Int), tabM A C unitF) := by
  have inner : ∀ (i : Nat) (L L0 : List F), i < A → Mat A C L → Mat A C L0 → loopM (i_made_2Fi_unit_1_s2 (C : Int) (A : Int) (C : Int) L0 (i : Int)) (L, 0) = some (.inl (fillR unitF C i L)) := by
    intro i L L0 hi hL hL0
    exact (loop_run (step := i_made_2Fi_unit_1_s2 (C : Int) (A : Int) (C : Int) L0 (i : Int)) (fun (k : Nat) (L : List F) => (L, (k : Int))) (fun k L => sm L C i k (unitF i k)) (fun L => L) (fun _ L => Mat A C L) (lo := 0) (n := C) (Nat.zero_le _) (s0 := L) hL
      (fun k L2 _ hk h3 => by
        refine ⟨?_, h3.set _ _ _⟩
        show i_made_2Fi_unit_1_b2 _ _ _ _ _ _ _ = _
        unfold i_made_2Fi_unit_1_b2
        have l1 : decide ((sm L2 C i k (unitF i k)).length = L0.length) = true := by simp [h3.len, hL0.len]
        rw [dlt hk, bsel_true, i_unit_1_eq, obind_eq, i_Matrix_set_02o_eq _ h3 hi hk, obind_eq, l1, need_true, wsucc (by omega)]
        rfl)
      (fun L2 _ => by
        show i_made_2Fi_unit_1_b2 _ _ _ _ _ _ _ = _
        unfold i_made_2Fi_unit_1_b2
        rw [dnlt, bsel_false])).1
  have e := (loop_run (step := i_made_2Fi_unit_1_s3 (A : Int) (C : Int) (A : Int) (C : Int) (List.replicate (A * C) (some 0))) (fun (i : Nat) (L : List F) => (L, (i : Int))) (fillR unitF C) (fun L => L) (fun _ L => Mat A C L) (lo := 0) (n := A) (Nat.zero_le _) (s0 := List.replicate (A * C) (some 0)) (zmat hA hC)
    (fun i L2 _ hi h3 => by
      refine ⟨?_, (fillR_spec h3 hi).1⟩
      show i_made_2Fi_unit_1_b3 _ _ _ _ _ _ _ = _
      unfold i_made_2Fi_unit_1_b3
      rw [dlt hi, bsel_true, inner i L2 _ hi h3 (zmat hA hC), obind_eq, osum_inl]
      unfold i_made_2Fi_unit_1_k2
      rw [wsucc (by omega)]
      rfl)
    (fun L2 _ => by
      show i_made_2Fi_unit_1_b3 _ _ _ _ _ _ _ = _
      unfold i_made_2Fi_unit_1_b3
      rw [dnlt, bsel_false])).1
  unfold i_made_2Fi_unit_1
  replace e : loopM (i_made_2Fi_unit_1_s3 (A : Int) (C : Int) (A : Int) (C : Int) (List.replicate (A * C) (some 0))) (List.replicate (A * C) (some 0), 0) = some (.inl (tabM A C unitF)) := e
  rw [i_newMatrix_eq hA hC, obind3_eq, e]; rfl
theorem i_unit_eq {n : Nat} (hn : n ≤ 12) : i_unit (n : Int) = some ((n : Int), (n : Int), tabM n n unitF) := by
  unfold i_unit
  rw [i_made_2Fi_unit_1_eq hn hn]; rfl
theorem s_l02Unit_eq {n : Nat} (hn : n ≤ 12) : s_l02Unit (n : Int) = some ((n : Int), (n : Int), tabM n n unitF) := by
  obtain ⟨e, _⟩ := loop_run (step := s_l02Unit_s1 (n : Int)) (fun (i : Nat) (L : List F) => (L, (i : Int))) (fun i L => sm L n i i (some 1065353216)) (fun L => L) (fun _ L => Mat n n L) (lo := 0) (n := n) (Nat.zero_le _) (s0 := List.replicate (n * n) (some 0)) (zmat hn hn)
    (fun i L _ hi h => by
      refine ⟨?_, h.set _ _ _⟩
      show s_l02Unit_b1 _ _ _ = _
      unfold s_l02Unit_b1
      obtain ⟨e1, e2⟩ := idx_w h.A1 h.C1 hi hi
      rw [dlt hi, bsel_true, e1, olet_eq, e2, olet_eq, setAt?_n _ (h.lt hi hi), obind_eq, wsucc (by omega)]
      rfl)
    (fun L _ => by
      show s_l02Unit_b1 _ _ _ = _
      unfold s_l02Unit_b1
      rw [dnlt, bsel_false])
  have hz : ∀ j k, j < n → k < n → gm none (List.replicate (n * n) (some 0 : F)) n j k = some 0 := by
    intro j k hj hk
    have := idx_lt hj hk
    simp [gm, List.getD, List.getElem?_replicate, this]
  have hrun := run_inv (f := fun i L => sm L n i i (some 1065353216)) (fun d L => Mat n n L ∧ ∀ j k, j < n → k < n → gm none L n j k = if j = k ∧ j < d then some 1065353216 else some 0) n 0 (List.replicate (n * n) (some 0)) ⟨zmat hn hn, fun j k hj hk => by rw [hz j k hj hk]; simp⟩ (fun d L _ hd hI => by
    refine ⟨hI.1.set _ _ _, fun j k hj hk => ?_⟩
    rw [gm_set hI.1 (by omega) (by omega) hk, hI.2 j k hj hk]
    by_cases e : d = j ∧ d = k
    · rw [if_pos e, if_pos (by omega)]
    · rw [if_neg e]
      by_cases e2 : j = k ∧ j < d
      · rw [if_pos e2, if_pos (by omega)]
      · rw [if_neg e2, if_neg (by omega)])
  have heq : run (fun i L => sm L n i i (some 1065353216)) 0 (n - 0) (List.replicate (n * n) (some 0 : F)) = tabM n n unitF := by
    refine mat_ext hrun.1 (tabM_mat hn hn) fun j k hj hk => ?_
    rw [tabM_gm hn hn hj hk]
    have := hrun.2 j k hj hk
    rw [Nat.sub_zero, this]
    unfold unitF
    by_cases e : j = k
    · rw [if_pos ⟨e, by omega⟩, show decide (j = k) = true by simp [e]]; rfl
    · rw [if_neg (fun h => e h.1), show decide (j = k) = false by simp [e]]; rfl
  unfold s_l02Unit
  replace e : loopM (s_l02Unit_s1 (n : Int)) (List.replicate (n * n) (some 0), 0) = some (.inl (run (fun i L => sm L n i i (some 1065353216)) 0 (n - 0) (List.replicate (n * n) (some 0)))) := e
  rw [s_l02Zero_eq hn hn, obind3_eq, e, obind_eq, osum_inl, heq]; rfl
def colP (A C k : Nat) (L : List F) : List F := (List.range A).map fun i => gm none L C i k
theorem colP_len {A C k : Nat} {L : List F} : (colP A C k L).length = A := by simp [colP]
theorem colP_at {A C k i : Nat} {L : List F} (hi : i < A) : (colP A C k L).getD i none = gm none L C i k := by
  simp [colP, List.getD, hi]
theorem i_Matrix_column_eq {A C k : Nat} {L : List F} (h : Mat A C L) (hk : k < C) : i_Matrix_column (A : Int) (C : Int) L (k : Int) = some (colP A C k L) := by
  have hA := h.A1
  obtain ⟨e, _⟩ := loop_run (step := i_Matrix_column_s1 (A : Int) (C : Int) L (k : Int)) (fun (i : Nat) (l : List F) => (l, (i : Int))) (fun i l => l ++ [gm none L C i k]) (fun l => l) (fun i l => l.length = i) (lo := 0) (n := A) (Nat.zero_le _) (s0 := []) rfl
    (fun i l _ hi h3 => by
      refine ⟨?_, by simp [h3]⟩
      show i_Matrix_column_b1 _ _ _ _ _ _ = _
      unfold i_Matrix_column_b1
      have ap : apok 4 l.length 1 = true := by simp [apok]; omega
      rw [dlt hi, bsel_true, i_Matrix_at_eq _ h hi hk, obind_eq, ap, need_true, wsucc (by omega)]
      rfl)
    (fun l _ => by
      show i_Matrix_column_b1 _ _ _ _ _ _ = _
      unfold i_Matrix_column_b1
      rw [dnlt, bsel_false])
  unfold i_Matrix_column
  replace e : loopM (i_Matrix_column_s1 (A : Int) (C : Int) L (k : Int)) ([], 0) = some (.inl (run (fun i l => l ++ [gm none L C i k]) 0 (A - 0) [])) := e
  rw [e, Nat.sub_zero, run_map]; rfl
def dotE (f g : Nat → F) (i : Nat) (y : F) : F := fop .add .f32 y (fop .mul .f32 (f i) (g i))
def dotN (f g : Nat → F) (n : Nat) : F := run (dotE f g) 0 n (some 0)
theorem zero_ok : FOk .f32 (some 0) := ⟨0, rfl, by decide, rfl⟩
theorem dotN_ok (f g : Nat → F) (n : Nat) : FOk .f32 (dotN f g n) := run_inv (fun _ y => FOk .f32 y) n 0 (some 0) zero_ok fun _ _ _ _ _ => fop_fok _ _ _
theorem dotN_congr {f g f' g' : Nat → F} {n : Nat} (h : ∀ i, i < n → f i = f' i ∧ g i = g' i) : dotN f g n = dotN f' g' n :=
  run_congr (fun _ _ => True) n 0 _ trivial fun i y _ hi _ => ⟨by unfold dotE; rw [(h i (by omega)).1, (h i (by omega)).2], trivial⟩
theorem i_dot_eq {l m : List F} (hl : l.length ≤ m.length) (hs : l.length ≤ 1000000) : i_dot l m = some (dotN (fun i => l.getD i none) (fun i => m.getD i none) l.length) := by
  obtain ⟨e, _⟩ := loop_run (step := i_dot_s1 l m) (fun (i : Nat) (y : F) => (y, (i : Int))) (dotE (fun i => l.getD i none) (fun i => m.getD i none)) (fun y => y) (fun _ _ => True) (lo := 0) (n := l.length) (Nat.zero_le _) (s0 := some 0) trivial
    (fun i y _ hi _ => by
      refine ⟨?_, trivial⟩
      show i_dot_b1 _ _ _ _ = _
      unfold i_dot_b1
      rw [dlt hi, bsel_true, at?_n none hi, obind_eq, at?_n none (by omega), obind_eq, i_mul_eq, obind_eq, olet_eq, wsucc (by omega)]
      rfl)
    (fun y _ => by
      show i_dot_b1 _ _ _ _ = _
      unfold i_dot_b1
      rw [dnlt, bsel_false])
  unfold i_dot
  replace e : loopM (i_dot_s1 l m) (some 0, 0) = some (.inl (run (dotE (fun i => l.getD i none) (fun i => m.getD i none)) 0 (l.length - 0) (some 0))) := e
  rw [e]; rfl
def colDot (A C : Nat) (L : List F) (i k : Nat) : F := dotN (fun r => gm none L C r i) (fun r => gm none L C r k) A
theorem colDot_ok (A C : Nat) (L : List F) (i k : Nat) : FOk .f32 (colDot A C L i k) := dotN_ok _ _ _
theorem i_dot_cols {A C i k : Nat} {L : List F} (h : Mat A C L) : i_dot (colP A C i L) (colP A C k L) = some (colDot A C L i k) := by
  have hA := h.A1
  rw [i_dot_eq (by rw [colP_len, colP_len]; exact Nat.le_refl _) (by rw [colP_len]; omega), colP_len]
  congr 1
  exact dotN_congr fun r hr => ⟨colP_at hr, colP_at hr⟩
theorem run_three {α β γ : Type} (f : Nat → α → α) (g : Nat → β → β) (h : Nat → γ → γ) : ∀ (m i : Nat) (a : α) (b : β) (c : γ), run (fun i (t : α × β × γ) => (f i t.1, g i t.2.1, h i t.2.2)) i m (a, b, c) = (run f i m a, run g i m b, run h i m c)
  | 0, _, _, _, _ => rfl
  | m + 1, i, a, b, c => by rw [run_succ, run_succ, run_succ, run_succ]; exact run_three f g h m (i + 1) _ _ _
theorem s_l04Sums_eq {A C i k : Nat} {L : List F} (h : Mat A C L) (hi : i < C) (hk : k < C) : s_l04Sums (A : Int) (C : Int) L (i : Int) (k : Int) = some (colDot A C L i i, colDot A C L k k, colDot A C L i k) := by
  have hA := h.A1
  obtain ⟨e, _⟩ := loop_run (step := s_l04Sums_s1 (A : Int) (C : Int) L (i : Int) (k : Int)) (fun (r : Nat) (t : F × F × F) => (t.1, t.2.1, t.2.2, (r : Int))) (fun r (t : F × F × F) => (dotE (fun r => gm none L C r i) (fun r => gm none L C r i) r t.1, dotE (fun r => gm none L C r k) (fun r => gm none L C r k) r t.2.1, dotE (fun r => gm none L C r i) (fun r => gm none L C r k) r t.2.2)) (fun t => t) (fun _ _ => True) (lo := 0) (n := A) (Nat.zero_le _) (s0 := (some 0, some 0, some 0)) trivial
    (fun r t _ hr _ => by
      refine ⟨?_, trivial⟩
      show s_l04Sums_b1 _ _ _ _ _ _ _ _ _ = _
      unfold s_l04Sums_b1
      rw [dlt hr, bsel_true, s_l02At_eq _ h hr hi, obind_eq, s_l02At_eq _ h hr hk, obind_eq]
      simp only [olet_eq, wsucc (show r ≤ 1000000000 by omega)]
      rfl)
    (fun t _ => by
      show s_l04Sums_b1 _ _ _ _ _ _ _ _ _ = _
      unfold s_l04Sums_b1
      rw [dnlt, bsel_false])
  unfold s_l04Sums
  rw [run_three] at e
  replace e : loopM (s_l04Sums_s1 (A : Int) (C : Int) L (i : Int) (k : Int)) (some 0, some 0, some 0, 0) = some (.inl (colDot A C L i i, colDot A C L k k, colDot A C L i k)) := e
  rw [e]; rfl
def cosT (t : F) : F × F := (fop .quo .f32 (some 1065353216) (rootN (fop .add .f32 (fop .mul .f32 t t) (some 1065353216))), fop .mul .f32 t (fop .quo .f32 (some 1065353216) (rootN (fop .add .f32 (fop .mul .f32 t t) (some 1065353216)))))
def cosP (a : F) : F × F := cosT (bif flt .f32 a (some 0) then fneg .f32 (fop .quo .f32 (some 1065353216) (fop .add .f32 (fabs32 a) (rootN (fop .add .f32 (fop .mul .f32 a a) (some 1065353216))))) else fop .quo .f32 (some 1065353216) (fop .add .f32 (fabs32 a) (rootN (fop .add .f32 (fop .mul .f32 a a) (some 1065353216)))))
theorem i_turnFor_eq {a : F} (h : FOk .f32 a) : i_turnFor a = some (cosP a) := by
  have hk : ∀ t, i_turnFor_k1 t = some (cosT t) := by
    intro t
    unfold i_turnFor_k1
    rw [i_mul_eq, obind_eq, olet_eq, i_RootNumber_eq (fop_fok _ _ _), obind_eq, olet_eq, i_mul_eq]; rfl
  unfold i_turnFor cosP
  rw [i_absolute_eq h, obind_eq, i_mul_eq, obind_eq, olet_eq, i_RootNumber_eq (fop_fok _ _ _), obind_eq, olet_eq, olet_eq]
  cases flt .f32 a (some 0) with
  | true => rw [bsel_true, olet_eq, hk]; rfl
  | false => rw [bsel_false, hk]; rfl
theorem s_l04Cosine_eq {a : F} (h : FOk .f32 a) : s_l04Cosine a = some (cosP a) := by
  have hk : ∀ t, s_l04Cosine_k1 t = some (cosT t) := by
    intro t
    unfold s_l04Cosine_k1
    rw [olet_eq, olet_eq, s_l01Sqrt_eq (fop_fok _ _ _), obind_eq, olet_eq, olet_eq]; rfl
  unfold s_l04Cosine cosP
  rw [s_l02Size_eq h, obind_eq, olet_eq, olet_eq, s_l01Sqrt_eq (fop_fok _ _ _), obind_eq, olet_eq, olet_eq]
  cases flt .f32 a (some 0) with
  | true => rw [bsel_true, olet_eq, hk]; rfl
  | false => rw [bsel_false, hk]; rfl
def turnQ (C i k : Nat) (c s : F) (r : Nat) (L : List F) : List F := sm (sm L C r i (fop .sub .f32 (fop .mul .f32 c (gm none L C r i)) (fop .mul .f32 s (gm none L C r k)))) C r k (fop .add .f32 (fop .mul .f32 s (gm none L C r i)) (fop .mul .f32 c (gm none L C r k)))
def turnK (A C i k : Nat) (c s : F) (L : List F) : List F := run (turnQ C i k c s) 0 A L
theorem turnQ_mat {A C i k r : Nat} {c s : F} {L : List F} (h : Mat A C L) : Mat A C (turnQ C i k c s r L) := (h.set _ _ _).set _ _ _
theorem turnK_mat {A C i k : Nat} {c s : F} {L : List F} (h : Mat A C L) : Mat A C (turnK A C i k c s L) := run_inv (fun _ L => Mat A C L) A 0 L h fun _ _ _ _ h => turnQ_mat h
theorem turnK_oks {A C i k : Nat} {c s : F} {L : List F} (h : FOks L) : FOks (turnK A C i k c s L) := run_inv (fun _ L => FOks L) A 0 L h fun _ _ _ _ h => (h.set (fop_fok _ _ _)).set (fop_fok _ _ _)
theorem i_Matrix_turnColumns_02o_eq {A C i k : Nat} {c s : F} {L : List F} (h : Mat A C L) (hi : i < C) (hk : k < C) : i_Matrix_turnColumns_02o (A : Int) (C : Int) (i : Int) (k : Int) c s L = some (turnK A C i k c s L) := by
  have hA := h.A1
  obtain ⟨e, _⟩ := loop_run (step := i_Matrix_turnColumns_02o_s1 (A : Int) (C : Int) (i : Int) (k : Int) c s L) (fun (r : Nat) (L : List F) => (L, (r : Int))) (turnQ C i k c s) (fun L => L) (fun _ L' => Mat A C L') (lo := 0) (n := A) (Nat.zero_le _) (s0 := L) h
    (fun r L' _ hr h3 => by
      refine ⟨?_, turnQ_mat h3⟩
      show i_Matrix_turnColumns_02o_b1 _ _ _ _ _ _ _ _ _ = _
      unfold i_Matrix_turnColumns_02o_b1
      have l1 : ∀ x, decide ((sm L' C r i x).length = L.length) = true := fun x => by simp [h3.len, h.len]
      have l2 : ∀ x y, decide ((sm (sm L' C r i x) C r k y).length = L.length) = true := fun x y => by simp [h3.len, h.len]
      rw [dlt hr, bsel_true, i_Matrix_at_eq _ h3 hr hi, obind_eq, i_Matrix_at_eq _ h3 hr hk, obind_eq, i_mul_eq, obind_eq, i_mul_eq, obind_eq, olet_eq, i_Matrix_set_02o_eq _ h3 hr hi, obind_eq, l1, need_true, i_mul_eq, obind_eq, i_mul_eq, obind_eq, olet_eq, i_Matrix_set_02o_eq _ (h3.set _ _ _) hr hk, obind_eq, l2, need_true, wsucc (by omega)]
      rfl)
    (fun L' _ => by
      show i_Matrix_turnColumns_02o_b1 _ _ _ _ _ _ _ _ _ = _
      unfold i_Matrix_turnColumns_02o_b1
      rw [dnlt, bsel_false])
  unfold i_Matrix_turnColumns_02o
  replace e : loopM (i_Matrix_turnColumns_02o_s1 (A : Int) (C : Int) (i : Int) (k : Int) c s L) (L, 0) = some (.inl (turnK A C i k c s L)) := e
  rw [e]; rfl
theorem s_l04Columns_0p0_C02o1_eq {A C i k : Nat} {c s : F} {L : List F} (h : Mat A C L) (hi : i < C) (hk : k < C) : s_l04Columns_0p0_C02o1 (i : Int) (k : Int) c s (A : Int) (C : Int) L = some (turnK A C i k c s L) := by
  have hA := h.A1
  obtain ⟨e, _⟩ := loop_run (step := s_l04Columns_0p0_C02o1_s1 (i : Int) (k : Int) c s (A : Int) (C : Int)) (fun (r : Nat) (L : List F) => (L, (r : Int))) (turnQ C i k c s) (fun L => L) (fun _ L' => Mat A C L') (lo := 0) (n := A) (Nat.zero_le _) (s0 := L) h
    (fun r L' _ hr h3 => by
      refine ⟨?_, turnQ_mat h3⟩
      show s_l04Columns_0p0_C02o1_b1 _ _ _ _ _ _ _ _ = _
      unfold s_l04Columns_0p0_C02o1_b1
      obtain ⟨e1, e2⟩ := idx_w h.A1 h.C1 hr hi
      obtain ⟨e3, e4⟩ := idx_w h.A1 h.C1 hr hk
      rw [dlt hr, bsel_true, s_l02At_eq _ h3 hr hi, obind_eq, s_l02At_eq _ h3 hr hk, obind_eq]
      simp only [olet_eq, e1, e2, e3, e4, obind_eq, setAt?_n _ (h3.lt hr hi), setAt?_n _ ((h3.set _ _ _).lt hr hk), wsucc (show r ≤ 1000000000 by omega)]
      rfl)
    (fun L' _ => by
      show s_l04Columns_0p0_C02o1_b1 _ _ _ _ _ _ _ _ = _
      unfold s_l04Columns_0p0_C02o1_b1
      rw [dnlt, bsel_false])
  unfold s_l04Columns_0p0_C02o1
  replace e : loopM (s_l04Columns_0p0_C02o1_s1 (i : Int) (k : Int) c s (A : Int) (C : Int)) (L, 0) = some (.inl (turnK A C i k c s L)) := e
  rw [e]; rfl
abbrev SD := List F × List F
abbrev SDr := Int × Int × Int × Int × Bool × List F × List F
def sdFail : SDr := (0, 0, 0, 0, false, [], [])
structure SInv (A C : Nat) (s : SD) : Prop where
  m : Mat A C s.1
  g : FOks s.1
  n : Mat C C s.2
  h : FOks s.2
def sdQ (A C : Nat) (s : SD) (i k : Nat) : F × F := cosP (fop .quo .f32 (fop .sub .f32 (colDot A C s.1 k k) (colDot A C s.1 i i)) (fop .mul .f32 (some 1073741824) (colDot A C s.1 i k)))
def sdCol (A C i k : Nat) (s : SD) : SD ⊕ SDr :=
  bif fin32 (colDot A C s.1 i i) && (fin32 (colDot A C s.1 k k) && fin32 (colDot A C s.1 i k)) then
    bif feq .f32 (colDot A C s.1 i k) (some 0) then .inl s
    else bif (turnK A C i k (sdQ A C s i k).1 (sdQ A C s i k).2 s.1).all fin32 && (turnK C C i k (sdQ A C s i k).1 (sdQ A C s i k).2 s.2).all fin32 then .inl (turnK A C i k (sdQ A C s i k).1 (sdQ A C s i k).2 s.1, turnK C C i k (sdQ A C s i k).1 (sdQ A C s i k).2 s.2)
    else .inr sdFail
  else .inr sdFail
def sdRow (A C i : Nat) (s : SD) : SD ⊕ SDr := runE (sdCol A C i) (i + 1) (C - (i + 1)) s
def sdRound (A C : Nat) (s : SD) : SD ⊕ SDr := runE (sdRow A C) 0 C s
theorem sdCol_inv {A C i k : Nat} {s s' : SD} (h : SInv A C s) (e : sdCol A C i k s = .inl s') : SInv A C s' := by
  unfold sdCol at e
  cases h1 : fin32 (colDot A C s.1 i i) && (fin32 (colDot A C s.1 k k) && fin32 (colDot A C s.1 i k)) with
  | false => rw [h1, cond_false] at e; cases e
  | true =>
    rw [h1, cond_true] at e
    cases h2 : feq .f32 (colDot A C s.1 i k) (some 0) with
    | true => rw [h2, cond_true] at e; cases e; exact h
    | false =>
      rw [h2, cond_false] at e
      cases h3 : (turnK A C i k (sdQ A C s i k).1 (sdQ A C s i k).2 s.1).all fin32 && (turnK C C i k (sdQ A C s i k).1 (sdQ A C s i k).2 s.2).all fin32 with
      | false => rw [h3, cond_false] at e; cases e
      | true => rw [h3, cond_true] at e; cases e; exact ⟨turnK_mat h.m, turnK_oks h.g, turnK_mat h.n, turnK_oks h.h⟩
theorem sdCol_ret {A C i k : Nat} {s : SD} {r : SDr} (e : sdCol A C i k s = .inr r) : r = sdFail := by
  unfold sdCol at e
  cases h1 : fin32 (colDot A C s.1 i i) && (fin32 (colDot A C s.1 k k) && fin32 (colDot A C s.1 i k)) with
  | false => rw [h1, cond_false] at e; cases e; rfl
  | true =>
    rw [h1, cond_true] at e
    cases h2 : feq .f32 (colDot A C s.1 i k) (some 0) with
    | true => rw [h2, cond_true] at e; cases e
    | false =>
      rw [h2, cond_false] at e
      cases h3 : (turnK A C i k (sdQ A C s i k).1 (sdQ A C s i k).2 s.1).all fin32 && (turnK C C i k (sdQ A C s i k).1 (sdQ A C s i k).2 s.2).all fin32 with
      | false => rw [h3, cond_false] at e; cases e; rfl
      | true => rw [h3, cond_true] at e; cases e
theorem sdRow_inv {A C i : Nat} {s s' : SD} (h : SInv A C s) (e : sdRow A C i s = .inl s') : SInv A C s' := runE_inv (fun _ s => SInv A C s) _ _ _ h (fun _ _ _ _ _ hI he => sdCol_inv hI he) _ e
theorem sdRow_ret {A C i : Nat} {s : SD} {r : SDr} (e : sdRow A C i s = .inr r) : r = sdFail := runE_ret (P := fun r => r = sdFail) (fun _ _ _ h => sdCol_ret h) e
theorem sdRound_inv {A C : Nat} {s s' : SD} (h : SInv A C s) (e : sdRound A C s = .inl s') : SInv A C s' := runE_inv (fun _ s => SInv A C s) _ _ _ h (fun _ _ _ _ _ hI he => sdRow_inv hI he) _ e
theorem sdRound_ret {A C : Nat} {s : SD} {r : SDr} (e : sdRound A C s = .inr r) : r = sdFail := runE_ret (P := fun r => r = sdFail) (fun _ _ _ h => sdRow_ret h) e
abbrev sdMk (k : Nat) (s : SD) : List F × List F × Int := (s.1, s.2, (k : Int))
def sdL (k : Nat) : SD ⊕ SDr → Option (LR (List F × List F × Int) (List F × List F) SDr)
  | .inl s => some (.next (sdMk k s))
  | .inr r => some (.ret r)
theorem i_SideTurns_col {A C i k : Nat} {s : SD} {a b : List F} (h : SInv A C s) (ha : a.length = A * C) (hb : b.length = C * C) (hA : 0 < A) (hi : i < C) (hk : k < C) :
    i_SideTurns_b13 (C : Int) (A : Int) (C : Int) a (C : Int) (C : Int) b (i : Int) s.1 s.2 (k : Int) = sdL (k + 1) (sdCol A C i k s) := by
  have hC := h.m.C1
  unfold i_SideTurns_b13 sdCol
  have hfa : i_areFinite [colDot A C s.1 i i, colDot A C s.1 k k, colDot A C s.1 i k] = some (fin32 (colDot A C s.1 i i) && (fin32 (colDot A C s.1 k k) && fin32 (colDot A C s.1 i k))) := by
    rw [i_areFinite_eq (fun c hc => by
      rcases List.mem_cons.1 hc with rfl | hc
      · exact dotN_ok _ _ _
      · rcases List.mem_cons.1 hc with rfl | hc
        · exact dotN_ok _ _ _
        · rcases List.mem_cons.1 hc with rfl | hc
          · exact dotN_ok _ _ _
          · cases hc) (by simp)]
    simp
  have hend : ∀ L V x, i_SideTurns_k12 x L V = some (.next (L, V, IntKind.i64.wrap (x + 1))) := fun _ _ _ => rfl
  rw [dlt hk, bsel_true, i_Matrix_column_eq h.m hi, obind_eq, i_Matrix_column_eq h.m hk, obind_eq, i_dot_cols h.m, obind_eq, i_dot_cols h.m, obind_eq, i_dot_cols h.m, obind_eq, hfa, obind_eq]
  cases fin32 (colDot A C s.1 i i) && (fin32 (colDot A C s.1 k k) && fin32 (colDot A C s.1 i k)) with
  | false => rfl
  | true =>
    rw [bsel_true, cond_true, hend, wsucc (by omega)]
    cases feq .f32 (colDot A C s.1 i k) (some 0) with
    | true => rfl
    | false =>
      have q1 : decide ((turnK A C i k (sdQ A C s i k).1 (sdQ A C s i k).2 s.1).length = a.length) = true := by simp [(turnK_mat h.m).len, ha]
      have q2 : decide ((turnK C C i k (sdQ A C s i k).1 (sdQ A C s i k).2 s.2).length = b.length) = true := by simp [(turnK_mat h.n).len, hb]
      rw [bsel_false, cond_false, olet_eq, i_mul_eq, obind_eq, olet_eq, i_turnFor_eq (fop_fok _ _ _)]
      show obind2 (some (sdQ A C s i k)) _ = _
      generalize sdQ A C s i k = q at q1 q2
      obtain ⟨c, t⟩ := q
      rw [obind2_eq, i_Matrix_turnColumns_02o_eq h.m hi hk, obind_eq, q1, need_true, i_Matrix_turnColumns_02o_eq h.n hi hk, obind_eq, q2, need_true, i_ValidMatrix_eq _ _ (turnK_oks h.g) (turnK_mat h.m).le, mat_valid (turnK_mat h.m) hA (by omega), obind_eq, i_ValidMatrix_eq _ _ (turnK_oks h.h) (turnK_mat h.n).le, mat_valid (turnK_mat h.n) (by omega) (by omega), obind_eq, hend, wsucc (by omega)]
      cases (turnK A C i k c t s.1).all fin32 <;> cases (turnK C C i k c t s.2).all fin32 <;> rfl
theorem s_l04Side_col {A C i k : Nat} {s : SD} {a b : List F} (h : SInv A C s) (ha : a.length = A * C) (hb : b.length = C * C) (hA : 0 < A) (hi : i < C) (hk : k < C) :
    s_l04Side_b13 (C : Int) (A : Int) (C : Int) a (C : Int) (C : Int) b (i : Int) s.1 s.2 (k : Int) = sdL (k + 1) (sdCol A C i k s) := by
  have hC := h.m.C1
  unfold s_l04Side_b13 sdCol
  have hend : ∀ L V x y z, s_l04Side_k12 x L V y z = some (.next (L, V, IntKind.i64.wrap (x + 1))) := fun _ _ _ _ _ => rfl
  rw [dlt hk, bsel_true, s_l04Sums_eq h.m hi hk, obind3_eq, s_l01Finite_eq (colDot_ok _ _ _ _ _), obind_eq, s_l01Finite_eq (colDot_ok _ _ _ _ _), obind_eq, s_l01Finite_eq (colDot_ok _ _ _ _ _), obind_eq]
  cases fin32 (colDot A C s.1 i i) with
  | false => rfl
  | true =>
  cases fin32 (colDot A C s.1 k k) with
  | false => rfl
  | true =>
  cases fin32 (colDot A C s.1 i k) with
  | false => rfl
  | true =>
    rw [bsel_true, bsel_true, bsel_true, show (true && (true && true)) = true from rfl, cond_true, hend, wsucc (by omega)]
    cases feq .f32 (colDot A C s.1 i k) (some 0) with
    | true => rfl
    | false =>
      have q1 : decide ((turnK A C i k (sdQ A C s i k).1 (sdQ A C s i k).2 s.1).length = a.length) = true := by simp [(turnK_mat h.m).len, ha]
      have q2 : decide ((turnK C C i k (sdQ A C s i k).1 (sdQ A C s i k).2 s.2).length = b.length) = true := by simp [(turnK_mat h.n).len, hb]
      rw [bsel_false, cond_false, olet_eq, olet_eq, olet_eq, s_l04Cosine_eq (fop_fok _ _ _)]
      show obind2 (some (sdQ A C s i k)) _ = _
      generalize sdQ A C s i k = q at q1 q2
      obtain ⟨c, t⟩ := q
      rw [obind2_eq, s_l04Columns_0p0_C02o1_eq h.m hi hk, obind_eq, q1, need_true, s_l04Columns_0p0_C02o1_eq h.n hi hk, obind_eq, q2, need_true, s_l02Is_eq _ _ (turnK_oks h.g) (turnK_mat h.m).le, mat_valid (turnK_mat h.m) hA (by omega), obind_eq, s_l02Is_eq _ _ (turnK_oks h.h) (turnK_mat h.n).le, mat_valid (turnK_mat h.n) (by omega) (by omega), obind_eq, hend, wsucc (by omega)]
      cases (turnK A C i k c t s.1).all fin32 <;> cases (turnK C C i k c t s.2).all fin32 <;> rfl
theorem s_l04Side_row {A C i : Nat} {s : SD} {a b : List F} (h : SInv A C s) (ha : a.length = A * C) (hb : b.length = C * C) (hA : 0 < A) (hi : i < C) :
    s_l04Side_b14 (C : Int) (A : Int) (C : Int) a (C : Int) (C : Int) b s.1 s.2 (i : Int) = sdL (i + 1) (sdRow A C i s) := by
  have hC := h.m.C1
  unfold s_l04Side_b14
  obtain ⟨e, _⟩ := loop_endE (step := s_l04Side_s13 (C : Int) (A : Int) (C : Int) a (C : Int) (C : Int) b (i : Int)) sdMk (sdCol A C i) (fun s => s) (fun _ s => SInv A C s) (lo := i + 1) (n := C) hi (s0 := s) h
    (fun k s _ hk hI => by
      have := s_l04Side_col hI ha hb hA hi hk
      cases hc : sdCol A C i k s with
      | inl s' => rw [hc] at this; exact .inl ⟨s', rfl, this, sdCol_inv hI hc⟩
      | inr r => rw [hc] at this; exact .inr ⟨r, rfl, this⟩)
    (fun s _ => by
      show s_l04Side_b13 _ _ _ _ _ _ _ _ _ _ _ = _
      unfold s_l04Side_b13
      rw [dnlt, bsel_false])
  replace e : loopM (s_l04Side_s13 (C : Int) (A : Int) (C : Int) a (C : Int) (C : Int) b (i : Int)) (s.1, s.2, ((i + 1 : Nat) : Int)) = some (endE (fun s => s) (sdRow A C i s)) := e
  rw [dlt hi, bsel_true, wsucc (by omega), olet_eq, e, obind_eq]
  cases sdRow A C i s with
  | inl s' =>
    show s_l04Side_k13 _ _ _ = _
    unfold s_l04Side_k13
    rw [wsucc (by omega)]; rfl
  | inr r => rfl
theorem s_l04Side_round {A C : Nat} {q : Nat} {s : SD} {a b : List F} (m : Nat) (h : SInv A C s) (ha : a.length = A * C) (hb : b.length = C * C) (hA : 0 < A) (hq : q < m) (hm : m ≤ 64) :
    s_l04Side_b15 (C : Int) (m : Int) (A : Int) (C : Int) a (C : Int) (C : Int) b s.1 s.2 (q : Int) = sdL (q + 1) (sdRound A C s) := by
  have hC := h.m.C1
  unfold s_l04Side_b15
  obtain ⟨e, _⟩ := loop_endE (step := s_l04Side_s14 (C : Int) (A : Int) (C : Int) a (C : Int) (C : Int) b) sdMk (sdRow A C) (fun s => s) (fun _ s => SInv A C s) (lo := 0) (n := C) (Nat.zero_le _) (s0 := s) h
    (fun k s _ hk hI => by
      have := s_l04Side_row hI ha hb hA hk
      cases hc : sdRow A C k s with
      | inl s' => rw [hc] at this; exact .inl ⟨s', rfl, this, sdRow_inv hI hc⟩
      | inr r => rw [hc] at this; exact .inr ⟨r, rfl, this⟩)
    (fun s _ => by
      show s_l04Side_b14 _ _ _ _ _ _ _ _ _ _ = _
      unfold s_l04Side_b14
      rw [dnlt, bsel_false])
  replace e : loopM (s_l04Side_s14 (C : Int) (A : Int) (C : Int) a (C : Int) (C : Int) b) (s.1, s.2, 0) = some (endE (fun s => s) (sdRound A C s)) := e
  rw [dlt hq, bsel_true, e, obind_eq]
  cases sdRound A C s with
  | inl s' =>
    show s_l04Side_k14 _ _ _ = _
    unfold s_l04Side_k14
    rw [wsucc (by omega)]; rfl
  | inr r => rfl
theorem s_l04Side_all {A C : Nat} {s : SD} {a b : List F} (m : Nat) (h : SInv A C s) (ha : a.length = A * C) (hb : b.length = C * C) (hA : 0 < A) (hm : m ≤ 64) :
    loopM (s_l04Side_s15 (C : Int) (m : Int) (A : Int) (C : Int) a (C : Int) (C : Int) b) (s.1, s.2, 0) = some (endE (fun s => s) (runE (fun _ s => sdRound A C s) 0 m s)) ∧ ∀ s', runE (fun _ s => sdRound A C s) 0 m s = .inl s' → SInv A C s' :=
  loop_endE (step := s_l04Side_s15 (C : Int) (m : Int) (A : Int) (C : Int) a (C : Int) (C : Int) b) sdMk (fun _ s => sdRound A C s) (fun s => s) (fun _ s => SInv A C s) (lo := 0) (n := m) (Nat.zero_le _) (s0 := s) h
    (fun k s _ hk hI => by
      have := s_l04Side_round m hI ha hb hA hk hm
      cases hc : sdRound A C s with
      | inl s' => rw [hc] at this; exact .inl ⟨s', rfl, this, sdRound_inv hI hc⟩
      | inr r => rw [hc] at this; exact .inr ⟨r, rfl, this⟩)
    (fun s _ => by
      show s_l04Side_b15 _ _ _ _ _ _ _ _ _ _ _ = _
      unfold s_l04Side_b15
      rw [dnlt, bsel_false])
theorem i_SideTurns_row {A C i : Nat} {s : SD} {a b : List F} (h : SInv A C s) (ha : a.length = A * C) (hb : b.length = C * C) (hA : 0 < A) (hi : i < C) :
    i_SideTurns_b14 (C : Int) (A : Int) (C : Int) a (C : Int) (C : Int) b s.1 s.2 (i : Int) = sdL (i + 1) (sdRow A C i s) := by
  have hC := h.m.C1
  unfold i_SideTurns_b14
  obtain ⟨e, _⟩ := loop_endE (step := i_SideTurns_s13 (C : Int) (A : Int) (C : Int) a (C : Int) (C : Int) b (i : Int)) sdMk (sdCol A C i) (fun s => s) (fun _ s => SInv A C s) (lo := i + 1) (n := C) hi (s0 := s) h
    (fun k s _ hk hI => by
      have := i_SideTurns_col hI ha hb hA hi hk
      cases hc : sdCol A C i k s with
      | inl s' => rw [hc] at this; exact .inl ⟨s', rfl, this, sdCol_inv hI hc⟩
      | inr r => rw [hc] at this; exact .inr ⟨r, rfl, this⟩)
    (fun s _ => by
      show i_SideTurns_b13 _ _ _ _ _ _ _ _ _ _ _ = _
      unfold i_SideTurns_b13
      rw [dnlt, bsel_false])
  replace e : loopM (i_SideTurns_s13 (C : Int) (A : Int) (C : Int) a (C : Int) (C : Int) b (i : Int)) (s.1, s.2, ((i + 1 : Nat) : Int)) = some (endE (fun s => s) (sdRow A C i s)) := e
  rw [dlt hi, bsel_true, wsucc (by omega), olet_eq, e, obind_eq]
  cases sdRow A C i s with
  | inl s' =>
    show i_SideTurns_k13 _ _ _ = _
    unfold i_SideTurns_k13
    rw [wsucc (by omega)]; rfl
  | inr r => rfl
theorem i_SideTurns_round {A C : Nat} {q : Nat} {s : SD} {a b : List F} (m : Nat) (h : SInv A C s) (ha : a.length = A * C) (hb : b.length = C * C) (hA : 0 < A) (hq : q < m) (hm : m ≤ 64) :
    i_SideTurns_b15 (C : Int) (m : Int) (A : Int) (C : Int) a (C : Int) (C : Int) b s.1 s.2 (q : Int) = sdL (q + 1) (sdRound A C s) := by
  have hC := h.m.C1
  unfold i_SideTurns_b15
  obtain ⟨e, _⟩ := loop_endE (step := i_SideTurns_s14 (C : Int) (A : Int) (C : Int) a (C : Int) (C : Int) b) sdMk (sdRow A C) (fun s => s) (fun _ s => SInv A C s) (lo := 0) (n := C) (Nat.zero_le _) (s0 := s) h
    (fun k s _ hk hI => by
      have := i_SideTurns_row hI ha hb hA hk
      cases hc : sdRow A C k s with
      | inl s' => rw [hc] at this; exact .inl ⟨s', rfl, this, sdRow_inv hI hc⟩
      | inr r => rw [hc] at this; exact .inr ⟨r, rfl, this⟩)
    (fun s _ => by
      show i_SideTurns_b14 _ _ _ _ _ _ _ _ _ _ = _
      unfold i_SideTurns_b14
      rw [dnlt, bsel_false])
  replace e : loopM (i_SideTurns_s14 (C : Int) (A : Int) (C : Int) a (C : Int) (C : Int) b) (s.1, s.2, 0) = some (endE (fun s => s) (sdRound A C s)) := e
  rw [dlt hq, bsel_true, e, obind_eq]
  cases sdRound A C s with
  | inl s' =>
    show i_SideTurns_k14 _ _ _ = _
    unfold i_SideTurns_k14
    rw [wsucc (by omega)]; rfl
  | inr r => rfl
theorem i_SideTurns_all {A C : Nat} {s : SD} {a b : List F} (m : Nat) (h : SInv A C s) (ha : a.length = A * C) (hb : b.length = C * C) (hA : 0 < A) (hm : m ≤ 64) :
    loopM (i_SideTurns_s15 (C : Int) (m : Int) (A : Int) (C : Int) a (C : Int) (C : Int) b) (s.1, s.2, 0) = some (endE (fun s => s) (runE (fun _ s => sdRound A C s) 0 m s)) ∧ ∀ s', runE (fun _ s => sdRound A C s) 0 m s = .inl s' → SInv A C s' :=
  loop_endE (step := i_SideTurns_s15 (C : Int) (m : Int) (A : Int) (C : Int) a (C : Int) (C : Int) b) sdMk (fun _ s => sdRound A C s) (fun s => s) (fun _ s => SInv A C s) (lo := 0) (n := m) (Nat.zero_le _) (s0 := s) h
    (fun k s _ hk hI => by
      have := i_SideTurns_round m hI ha hb hA hk hm
      cases hc : sdRound A C s with
      | inl s' => rw [hc] at this; exact .inl ⟨s', rfl, this, sdRound_inv hI hc⟩
      | inr r => rw [hc] at this; exact .inr ⟨r, rfl, this⟩)
    (fun s _ => by
      show i_SideTurns_b15 _ _ _ _ _ _ _ _ _ _ _ = _
      unfold i_SideTurns_b15
      rw [dnlt, bsel_false])
abbrev gI (l : List Int) (i : Nat) : Int := l.getD i 0
structure SpIn (S : Nat) (a1 a2 : List Int) : Prop where
  S1 : 1 ≤ S
  S2 : S ≤ 32
  l1 : a1.length = S + 1
  l2 : a2.length ≤ 512
  z : gI a1 0 = 0
  e : gI a1 S = (a2.length : Int)
structure SpGood (S : Nat) (a1 a2 : List Int) : Prop where
  s : ∀ i, i < S → gI a1 i ≤ gI a1 (i + 1)
  c : ∀ k, k < a2.length → 0 ≤ gI a2 k ∧ gI a2 k ≤ (S : Int) - 1
  o : ∀ i, i < S → ∀ k : Nat, gI a1 i < (k : Int) → (k : Int) < gI a1 (i + 1) → gI a2 (k - 1) < gI a2 k
theorem SpGood.mono {S : Nat} {a1 a2 : List Int} (h : SpGood S a1 a2) : ∀ (d i : Nat), i + d ≤ S → gI a1 i ≤ gI a1 (i + d)
  | 0, i, _ => Int.le_refl _
  | d + 1, i, hd => Int.le_trans (h.mono d i (by omega)) (h.s (i + d) (by omega))
theorem SpGood.lo {S : Nat} {a1 a2 : List Int} (h : SpGood S a1 a2) (i0 : SpIn S a1 a2) {i : Nat} (hi : i ≤ S) : 0 ≤ gI a1 i ∧ gI a1 i ≤ (a2.length : Int) := by
  have h1 := h.mono i 0 (by omega)
  have h2 := h.mono (S - i) i (by omega)
  rw [Nat.zero_add, i0.z] at h1
  rw [show i + (S - i) = S by omega, i0.e] at h2
  exact ⟨h1, h2⟩
theorem narrow_sign {c m : Nat} {e : Int} (s1 : Ieee.double.read c = .number false m e) (s2 : m ≠ 0 → e + (m.log2 : Int) ≤ 64) : ∃ b, fnarrow (some c) = some (some b) ∧ wneg Ieee.single b = false := by
  have hfn : fnarrow (some c) = if (Ieee.single.read (Ieee.single.write (.number false m e))).isInfinity then none else some (some (Ieee.single.write (.number false m e))) := by
    have : FloatKind.f64.decode c = .number false m e := s1
    simp only [fnarrow]
    rw [this]; rfl
  obtain ⟨z, hz⟩ := narrow_num s1 s2
  rw [hz] at hfn
  split at hfn
  · cases hfn
  · rw [hz, hfn]
    refine ⟨_, rfl, ?_⟩
    show wneg Ieee.single (Ieee.single.nearest false m e) = false
    have hbn : Ieee.single.binade = 8388608 := rfl
    have hi : Ieee.single.infRung = 2139095040 := rfl
    have hw : ∀ r, r < 2147483648 → wneg Ieee.single r = false := by
      intro r hr
      unfold wneg
      rw [show Ieee.single.signWeight = 2147483648 from rfl, Nat.div_eq_of_lt hr]; rfl
    by_cases hm0 : m = 0
    · subst hm0
      have : Ieee.single.nearest false 0 e = Ieee.single.word false 0 := by unfold Ieee.Format.nearest; rw [if_pos rfl]
      rw [this]; rfl
    · obtain ⟨r, n1, n2⟩ := nearest_small Ieee.single false (m := m) (p := e) (K := 190) hm0 (by
        have hl : Ieee.single.leastPlace = -149 := rfl
        have hf : Ieee.single.fractionBits = 23 := rfl
        have := s2 hm0
        rw [hl, hf]; omega) (by rw [hbn, hi]; decide)
      rw [hbn] at n2
      rw [n1, word_false]; exact hw r (by omega)
theorem rootN_sign {y : F} (h : FOk .f32 y) : rootN y = none ∨ ∃ b, rootN y = some b ∧ (wneg Ieee.single b = false ∨ wrung Ieee.single b = 0) := by
  have key : fnarrow (fsqrt (fwiden y)) = some none ∨ ∃ b, fnarrow (fsqrt (fwiden y)) = some (some b) ∧ (wneg Ieee.single b = false ∨ wrung Ieee.single b = 0) := by
    cases y with
    | none => exact .inl rfl
    | some b =>
      have hn := h.some.2
      have hw : fwiden (some b) = some (Ieee.double.write (Ieee.single.read b)) := rfl
      have hsq : ∀ R, fsqrt (some R) = ((Ieee.double.read R).root 54).map Ieee.double.write := fun _ => rfl
      rw [hw, hsq]
      rcases read_cases (f := Ieee.single) (fmt_ok .f32) hn with ⟨g1, g2⟩ | ⟨g1, g2⟩
      · obtain ⟨m, a, e1, e2⟩ := read_fin Ieee.single g1
        rw [e1]
        by_cases h0 : m = 0
        · subst h0
          have e3 : Ieee.double.write (.number (wneg Ieee.single b) 0 (Ieee.single.leastPlace + (a : Int))) = Ieee.double.word (wneg Ieee.single b) 0 := by
            show Ieee.double.nearest _ 0 _ = _
            unfold Ieee.Format.nearest; rw [if_pos rfl]
          rw [e3]
          cases wneg Ieee.single b with
          | false => exact .inr ⟨0, rfl, .inl rfl⟩
          | true => exact .inr ⟨2147483648, rfl, .inr rfl⟩
        · obtain ⟨k1, k2, k3⟩ := single_num e1
          obtain ⟨R, r1, r2, r3, r4⟩ := widen_num (s := wneg Ieee.single b) k1 k2 k3 h0
          have e3 : Ieee.double.write (.number (wneg Ieee.single b) m (Ieee.single.leastPlace + (a : Int))) = Ieee.double.word (wneg Ieee.single b) R := r1
          rw [e3, r4]
          have hlog : m.log2 < 24 := log2_lt_of h0 k1
          generalize hM : m * 2 ^ (52 - m.log2) = M
          have hM0 : M ≠ 0 := by rw [← hM]; exact Nat.mul_ne_zero h0 (Nat.ne_of_gt (Nat.two_pow_pos _))
          have hMl : M.log2 = 52 := by rw [← hM, log2_mul_pow h0]; omega
          generalize hP : Ieee.single.leastPlace + (a : Int) + (m.log2 : Int) - 52 = P
          have hP1 : P ≤ 75 := by omega
          cases hs : wneg Ieee.single b with
          | true =>
            have : Ieee.Datum.root 54 (.number true M P) = none := by
              unfold Ieee.Datum.root
              dsimp only
              rw [if_neg hM0, if_pos rfl]
            rw [this]; exact .inl rfl
          | false =>
            obtain ⟨G, Q, q1, q2, q3⟩ := root_pos hM0 hMl hP1
            rw [q1]
            obtain ⟨m', e', s1, s2⟩ := read_nearest q2 q3
            obtain ⟨b, hb1, hb2⟩ := narrow_sign (c := Ieee.double.nearest false G Q) s1 s2
            exact .inr ⟨b, hb1, .inl hb2⟩
      · rw [g2]
        cases wneg Ieee.single b with
        | false => exact .inr ⟨Ieee.single.word false Ieee.single.infRung, rfl, .inl (by decide)⟩
        | true => exact .inl rfl
  rw [root_narrow h] at key
  rcases key with k | ⟨b, k, k2⟩
  · exact .inl (Option.some.inj k)
  · exact .inr ⟨b, Option.some.inj k, k2⟩
structure SpOk (S : Nat) (a1 a2 : List Int) (a3 : List F) : Prop where
  i : SpIn S a1 a2
  g : SpGood S a1 a2
  l : a3.length = a2.length
theorem at?_i {α : Type} {L : List α} {v : Int} (d : α) (h0 : 0 ≤ v) (h : v.toNat < L.length) : at? L v = some (L.getD v.toNat d) := at?_of h0 (by simp [List.getD, h])
theorem SpOk.row {S : Nat} {a1 a2 : List Int} {a3 : List F} (h : SpOk S a1 a2 a3) {i : Nat} (hi : i < S) : 0 ≤ gI a1 i ∧ gI a1 i ≤ gI a1 (i + 1) ∧ gI a1 (i + 1) ≤ (a2.length : Int) :=
  ⟨(h.g.lo h.i (by omega)).1, h.g.s i hi, (h.g.lo h.i (i := i + 1) (by omega)).2⟩
def loK (a1 : List Int) (i : Nat) : Nat := (gI a1 i).toNat
def laK (a1 : List Int) (i : Nat) : Nat := (gI a1 (i + 1)).toNat - 1
structure Root (S : Nat) (a1 a2 : List Int) (a3 : List F) : Prop where
  ok : SpOk S a1 a2 a3
  low : ∀ i, i < S → gI a1 i ≤ gI a1 (i + 1) - 1 ∧ gI a2 (laK a1 i) = (i : Int)
theorem Root.at {S : Nat} {a1 a2 : List Int} {a3 : List F} (h : Root S a1 a2 a3) {i : Nat} (hi : i < S) : loK a1 i ≤ laK a1 i ∧ laK a1 i < a2.length ∧ ((laK a1 i : Nat) : Int) = gI a1 (i + 1) - 1 ∧ ((loK a1 i : Nat) : Int) = gI a1 i := by
  obtain ⟨r1, r2, r3⟩ := h.ok.row hi
  obtain ⟨q1, _⟩ := h.low i hi
  unfold loK laK
  omega
def vget (v : List F) (x : Int) : F := v.getD x.toNat none
def swapI (j : Nat) (L : List Int) : List Int := (L.set (j + 1) (L.getD j 0)).set j (L.getD (j + 1) 0)
def insIn (v : List F) : Nat → List Int → List Int
  | 0, L => L
  | j + 1, L => bif flt .f32 (vget v (L.getD (j + 1) 0)) (vget v (L.getD j 0)) then insIn v j (swapI j L) else L
theorem swapI_len {j : Nat} {L : List Int} : (swapI j L).length = L.length := by simp [swapI]
theorem insIn_len {v : List F} : ∀ (j : Nat) (L : List Int), (insIn v j L).length = L.length
  | 0, _ => rfl
  | j + 1, L => by
    unfold insIn
    cases flt .f32 (vget v (L.getD (j + 1) 0)) (vget v (L.getD j 0)) with
    | false => rfl
    | true => rw [cond_true, insIn_len j, swapI_len]
def Names (n : Nat) (L : List Int) : Prop := ∀ x ∈ L, 0 ≤ x ∧ x < (n : Int)
theorem Names.at {n : Nat} {L : List Int} (h : Names n L) {j : Nat} (hj : j < L.length) : 0 ≤ L.getD j 0 ∧ L.getD j 0 < (n : Int) := by
  rw [List.getD_eq_getElem?_getD, List.getElem?_eq_getElem hj]
  exact h _ (List.getElem_mem hj)
theorem Names.set {n : Nat} {L : List Int} (h : Names n L) {j : Nat} {x : Int} (hx : 0 ≤ x ∧ x < (n : Int)) : Names n (L.set j x) := fun y hy => (List.mem_or_eq_of_mem_set hy).elim (fun k => h y k) (fun k => by rw [k]; exact hx)
theorem swapI_names {n j : Nat} {L : List Int} (h : Names n L) (hj : j + 1 < L.length) : Names n (swapI j L) := (h.set (h.at (by omega))).set (h.at hj)
theorem insIn_names {n : Nat} {v : List F} : ∀ (j : Nat) (L : List Int), Names n L → j < L.length → Names n (insIn v j L)
  | 0, _, h, _ => h
  | j + 1, L, h, hj => by
    unfold insIn
    cases flt .f32 (vget v (L.getD (j + 1) 0)) (vget v (L.getD j 0)) with
    | false => exact h
    | true => exact insIn_names j _ (swapI_names h hj) (by rw [swapI_len]; omega)
theorem loop_ins {n : Nat} {v : List F} {ρ : Type} {step : List Int × Int → Option (LR (List Int × Int) (List Int) ρ)} (h0 : ∀ L, step (L, 0) = some (.out L))
    (hs : ∀ (j : Nat) (L : List Int), Names n L → j + 1 < L.length → L.length ≤ 12 → step (L, ((j + 1 : Nat) : Int)) = some (bif flt .f32 (vget v (L.getD (j + 1) 0)) (vget v (L.getD j 0)) then .next (swapI j L, (j : Int)) else .out L)) :
    ∀ (j : Nat) (L : List Int), Names n L → j < L.length → L.length ≤ 12 → loopM step (L, (j : Int)) = some (.inl (insIn v j L))
  | 0, L, _, _, _ => loopM_out (h0 L)
  | j + 1, L, h, hj, hl => by
    have e := hs j L h hj hl
    unfold insIn
    cases hc : flt .f32 (vget v (L.getD (j + 1) 0)) (vget v (L.getD j 0)) with
    | false => rw [hc, cond_false] at e; rw [loopM_out e]; rfl
    | true =>
      rw [hc, cond_true] at e
      rw [loopM_next e, cond_true]
      exact loop_ins h0 hs j _ (swapI_names h hj) (by rw [swapI_len]; omega) (by rw [swapI_len]; omega)
def ordL (v : List F) (n : Nat) : List Int := run (fun i P => insIn v i (P ++ [(i : Int)])) 0 n []
theorem vget_at {v : List F} {x : Int} (h0 : 0 ≤ x) (h1 : x < (v.length : Int)) : at? v x = some (vget v x) := at?_i none h0 (by omega)
theorem wpred {j : Nat} (h : j ≤ 1000000000) : IntKind.i64.wrap (((j + 1 : Nat) : Int) - 1) = (j : Int) := by rw [wrap_i64 (by omega) (by omega)]; omega
theorem s_l04Order_inner {v : List F} {L : List Int} {j : Nat} (hv : v.length ≤ 12) (hN : Names v.length L) (hj : j < L.length) (hl : L.length ≤ 12) : loopM (s_l04Order_s2 v) (L, (j : Int)) = some (.inl (insIn v j L)) := by
  refine loop_ins (n := v.length) (fun L => ?_) (fun j L hN hj hl => ?_) j L hN hj hl
  · show s_l04Order_b2 _ _ _ = _
    unfold s_l04Order_b2
    rw [show decide ((0 : Int) < 0) = false from rfl, bsel_false]
  · show s_l04Order_b2 _ _ _ = _
    unfold s_l04Order_b2
    dsimp only
    obtain ⟨a1, a2⟩ := hN.at hj
    obtain ⟨b1, b2⟩ := hN.at (show j < L.length by omega)
    have hd : decide ((0 : Int) < ((j + 1 : Nat) : Int)) = true := decide_eq_true (by omega)
    have l1 : ∀ x : Int, j < (L.set (j + 1) x).length := fun x => by simp; omega
    rw [hd, bsel_true, at?_n 0 hj, obind_eq, vget_at a1 a2, obind_eq, wpred (by omega), olet_eq, at?_n 0 (by omega), obind_eq, vget_at b1 b2, obind_eq]
    cases flt .f32 (vget v (L.getD (j + 1) 0)) (vget v (L.getD j 0)) with
    | false => rfl
    | true =>
      rw [bsel_true, obind_eq, olet_eq, at?_n 0 (by omega), obind_eq, setAt?_n _ hj, obind_eq, olet_eq, setAt?_n _ (l1 _), obind_eq, olet_eq]
      rfl
theorem s_l04Order_eq {v : List F} (hv : v.length ≤ 12) : s_l04Order v = some (ordL v v.length) := by
  have inv : ∀ i, i ≤ v.length → (run (fun i P => insIn v i (P ++ [(i : Int)])) 0 i []).length = i := fun i hi => by
    have := run_inv (f := fun i P => insIn v i (P ++ [(i : Int)])) (fun i P => P.length = i) i 0 [] rfl fun j s _ _ h => by rw [insIn_len]; simp [h]
    omega
  obtain ⟨e, _⟩ := loop_run (step := s_l04Order_s3 v) (fun (i : Nat) (P : List Int) => (P, (i : Int))) (fun i P => insIn v i (P ++ [(i : Int)])) (fun P => P) (fun i P => P.length = i ∧ Names v.length P) (lo := 0) (n := v.length) (Nat.zero_le _) (s0 := []) ⟨rfl, fun x hx => by cases hx⟩
    (fun i P _ hi hI => by
      have hN : Names v.length (P ++ [(i : Int)]) := by
        intro x hx
        rcases List.mem_append.1 hx with hx | hx
        · exact hI.2 x hx
        · rw [List.mem_singleton.1 hx]; omega
      have hl : (P ++ [(i : Int)]).length = i + 1 := by simp [hI.1]
      refine ⟨?_, by rw [insIn_len, hl], insIn_names i _ hN (by omega)⟩
      show s_l04Order_b3 _ _ _ = _
      unfold s_l04Order_b3
      have ap : apok 8 P.length 1 = true := by simp [apok, hI.1]; omega
      rw [dlt hi, bsel_true, ap, need_true, s_l04Order_inner hv hN (by omega) (by omega), obind_eq, osum_inl]
      unfold s_l04Order_k2
      rw [wsucc (by omega)]; rfl)
    (fun P _ => by
      show s_l04Order_b3 _ _ _ = _
      unfold s_l04Order_b3
      rw [dnlt, bsel_false])
  unfold s_l04Order
  replace e : loopM (s_l04Order_s3 v) ([], 0) = some (.inl (run (fun i P => insIn v i (P ++ [(i : Int)])) 0 (v.length - 0) [])) := e
  rw [e]; rfl
theorem ordL_succ (v : List F) (n : Nat) : ordL v (n + 1) = insIn v n (ordL v n ++ [(n : Int)]) := by
  unfold ordL
  rw [run_last, Nat.zero_add]
theorem ordL_len (v : List F) : ∀ n, (ordL v n).length = n
  | 0 => rfl
  | n + 1 => by rw [ordL_succ, insIn_len]; simp [ordL_len v n]
theorem ordL_names {v : List F} {m : Nat} : ∀ n, n ≤ m → Names m (ordL v n)
  | 0, _ => fun x hx => by cases hx
  | n + 1, h => by
    rw [ordL_succ]
    refine insIn_names n _ (fun x hx => ?_) (by simp [ordL_len])
    rcases List.mem_append.1 hx with hx | hx
    · exact ordL_names n (by omega) x hx
    · rw [List.mem_singleton.1 hx]; omega
theorem log2_le_of {n n' : Nat} (h : n ≤ n') (h0 : n ≠ 0) : n.log2 ≤ n'.log2 := by
  have h1 : n' ≠ 0 := by omega
  exact (Nat.le_log2 h1).2 (Nat.le_trans ((Nat.le_log2 h0).1 (Nat.le_refl _)) h)
theorem cut_mono {s : Bool} {n n' d : Nat} (h : n ≤ n') (h0 : n ≠ 0) (hd : d ≤ n.log2 + 2) : Ieee.Toward.even.cut s n d ≤ Ieee.Toward.even.cut s n' d := by
  have hl := log2_le_of h h0
  unfold Ieee.Toward.cut
  dsimp only
  rw [Nat.min_eq_left hd, Nat.min_eq_left (show d ≤ n'.log2 + 2 by omega)]
  have hg : 0 < 1 <<< d := by rw [Nat.one_shiftLeft]; exact Nat.two_pow_pos d
  generalize 1 <<< d = g at hg
  have hq : n / g ≤ n' / g := Nat.div_le_div_right h
  have e1 := Nat.div_add_mod n g
  have e2 := Nat.div_add_mod n' g
  by_cases e : n / g = n' / g
  · rw [e] at e1 ⊢
    have hr : n % g ≤ n' % g := by omega
    refine Nat.add_le_add_left ?_ _
    have hb : (decide (g < 2 * (n % g)) || (g == 2 * (n % g)) && n' / g % 2 == 1) = true → (decide (g < 2 * (n' % g)) || (g == 2 * (n' % g)) && n' / g % 2 == 1) = true := by
      simp only [Bool.or_eq_true, Bool.and_eq_true, decide_eq_true_eq, beq_iff_eq]
      rintro (h1 | ⟨h1, h2⟩)
      · exact .inl (by omega)
      · by_cases h3 : g = 2 * (n' % g)
        · exact .inr ⟨h3, h2⟩
        · exact .inl (by omega)
    revert hb
    cases (decide (g < 2 * (n % g)) || (g == 2 * (n % g)) && n' / g % 2 == 1) <;> cases (decide (g < 2 * (n' % g)) || (g == 2 * (n' % g)) && n' / g % 2 == 1) <;> simp
  · have h1 : n / g + 1 ≤ n' / g := by omega
    have h2 : ∀ b : Bool, b.toNat ≤ 1 := Bool.toNat_le
    refine Nat.le_trans (Nat.add_le_add_left (h2 _) _) (Nat.le_trans h1 (Nat.le_add_right _ _))
theorem rootFrom_spec (n : Nat) : ∀ (t r : Nat), r * r ≤ n → n < (r + 2 ^ t) * (r + 2 ^ t) → Ieee.Datum.rootFrom n t r * Ieee.Datum.rootFrom n t r ≤ n ∧ n < (Ieee.Datum.rootFrom n t r + 1) * (Ieee.Datum.rootFrom n t r + 1)
  | 0, r, h1, h2 => by
    unfold Ieee.Datum.rootFrom
    simpa using ⟨h1, h2⟩
  | t + 1, r, h1, h2 => by
    unfold Ieee.Datum.rootFrom
    simp only
    rw [Nat.one_shiftLeft]
    have hp : 2 ^ (t + 1) = 2 ^ t + 2 ^ t := by rw [Nat.pow_succ]; omega
    split
    · rename_i h
      exact rootFrom_spec n t (r + 2 ^ t) h (by rw [Nat.add_assoc, ← hp]; exact h2)
    · rename_i h
      exact rootFrom_spec n t r h1 (by omega)
theorem sticky_mono {n n' w w' : Nat} (h : n ≤ n') (h1 : w * w ≤ n) (h2 : n < (w + 1) * (w + 1)) (h3 : w' * w' ≤ n') (h4 : n' < (w' + 1) * (w' + 1)) : 2 * w + (w * w != n).toNat ≤ 2 * w' + (w' * w' != n').toNat := by
  have hw : w ≤ w' := by
    rcases Nat.lt_or_ge w' w with h5 | h5
    · exfalso
      have : (w' + 1) * (w' + 1) ≤ w * w := Nat.mul_le_mul h5 h5
      omega
    · exact h5
  by_cases e : w = w'
  · subst e
    by_cases e2 : w * w = n
    · rw [e2]
      simp
    · have e3 : w * w ≠ n' := by omega
      have a1 : (w * w != n) = true := by simpa using e2
      have a2 : (w * w != n') = true := by simpa using e3
      rw [a1, a2]; exact Nat.le_refl _
  · have a1 := Bool.toNat_le (w * w != n)
    omega
def rtMore (P : Int) : Nat := 56 + ((P - 56) % 2).toNat
def rtN (M : Nat) (P : Int) : Nat := M <<< rtMore P
def rtW (M : Nat) (P : Int) : Nat := Ieee.Datum.rootFrom (rtN M P) 55 0
def rtG (M : Nat) (P : Int) : Nat := 2 * rtW M P + (rtW M P * rtW M P != rtN M P).toNat
def rtQ (P : Int) : Int := (P - (rtMore P : Int)) / 2 - 1
theorem root_is {M : Nat} {P : Int} (h0 : M ≠ 0) (hl : M.log2 = 52) : Ieee.Datum.root 54 (.number false M P) = some (.number false (rtG M P) (rtQ P)) := by
  unfold Ieee.Datum.root
  dsimp only
  rw [if_neg h0, if_neg (by decide), hl]
  have hm : 2 * 54 - 52 + ((P - ((2 * 54 - 52 : Nat) : Int)) % 2).toNat = rtMore P := rfl
  rw [hm]
  have hlogn : (M <<< rtMore P).log2 / 2 + 1 = 55 := by
    rw [Nat.shiftLeft_eq, log2_mul_pow h0, hl]
    unfold rtMore
    omega
  rw [hlogn]
  rfl
theorem rtN_bound {M : Nat} {P : Int} (h1 : 2 ^ 52 ≤ M) (h2 : M < 2 ^ 53) : 2 ^ 108 ≤ rtN M P ∧ rtN M P < 2 ^ 110 := by
  unfold rtN
  rw [Nat.shiftLeft_eq]
  have hm : rtMore P = 56 ∨ rtMore P = 57 := by unfold rtMore; omega
  rcases hm with hm | hm <;> rw [hm] <;> omega
theorem rtW_spec {M : Nat} {P : Int} (h1 : 2 ^ 52 ≤ M) (h2 : M < 2 ^ 53) : rtW M P * rtW M P ≤ rtN M P ∧ rtN M P < (rtW M P + 1) * (rtW M P + 1) ∧ 2 ^ 54 ≤ rtW M P ∧ rtW M P < 2 ^ 55 := by
  obtain ⟨b1, b2⟩ := rtN_bound (P := P) h1 h2
  obtain ⟨s1, s2⟩ := rootFrom_spec (rtN M P) 55 0 (by omega) (by rw [Nat.zero_add]; have : 2 ^ 55 * 2 ^ 55 = 2 ^ 110 := by decide
                                                                 omega)
  refine ⟨s1, s2, ?_, ?_⟩
  · rcases Nat.lt_or_ge (rtW M P) (2 ^ 54) with h | h
    · exfalso
      have : (rtW M P + 1) * (rtW M P + 1) ≤ 2 ^ 54 * 2 ^ 54 := Nat.mul_le_mul h h
      have e : 2 ^ 54 * 2 ^ 54 = 2 ^ 108 := by decide
      have s2' : rtN M P < (rtW M P + 1) * (rtW M P + 1) := s2
      omega
    · exact h
  · have := rootFrom_lt (rtN M P) 55 0
    unfold rtW
    omega
theorem rtG_bound {M : Nat} {P : Int} (h1 : 2 ^ 52 ≤ M) (h2 : M < 2 ^ 53) : 2 ^ 55 ≤ rtG M P ∧ rtG M P < 2 ^ 56 := by
  obtain ⟨_, _, s3, s4⟩ := rtW_spec (P := P) h1 h2
  have := Bool.toNat_le (rtW M P * rtW M P != rtN M P)
  unfold rtG
  omega
theorem rt_order {M M' : Nat} {P P' : Int} (h1 : 2 ^ 52 ≤ M) (h2 : M < 2 ^ 53) (h3 : 2 ^ 52 ≤ M') (h4 : M' < 2 ^ 53) (h : P < P' ∨ P = P' ∧ M ≤ M') : rtQ P < rtQ P' ∨ rtQ P = rtQ P' ∧ rtG M P ≤ rtG M' P' := by
  have hm : rtMore P = 56 + (P % 2).toNat := by unfold rtMore; omega
  have hm' : rtMore P' = 56 + (P' % 2).toNat := by unfold rtMore; omega
  have hq : rtQ P = P / 2 - 29 := by unfold rtQ; rw [hm]; omega
  have hq' : rtQ P' = P' / 2 - 29 := by unfold rtQ; rw [hm']; omega
  by_cases hlt : rtQ P < rtQ P'
  · exact .inl hlt
  · refine .inr ⟨by omega, ?_⟩
    have hN : rtN M P ≤ rtN M' P' := by
      unfold rtN
      rw [Nat.shiftLeft_eq, Nat.shiftLeft_eq, hm, hm']
      rcases h with h | ⟨h, hM⟩
      · have e1 : (P % 2).toNat = 0 := by omega
        have e2 : (P' % 2).toNat = 1 := by omega
        rw [e1, e2]; omega
      · subst h
        exact Nat.mul_le_mul_right _ hM
    obtain ⟨a1, a2, _, _⟩ := rtW_spec (P := P) h1 h2
    obtain ⟨c1, c2, _, _⟩ := rtW_spec (P := P') h3 h4
    exact sticky_mono hN a1 a2 c1 c2
theorem log2_eq {m n : Nat} (h1 : 2 ^ n ≤ m) (h2 : m < 2 ^ (n + 1)) : m.log2 = n := by
  have h0 : m ≠ 0 := by have := Nat.two_pow_pos n; omega
  have a := (Nat.le_log2 h0).2 h1
  have b := log2_lt_of h0 h2
  omega
def rgD (G : Nat) (Q : Int) : Nat := (Q + 1077).toNat * 4503599627370496 + Ieee.Toward.even.cut false G 3
theorem cut3 {G : Nat} (h1 : 2 ^ 55 ≤ G) (h2 : G < 2 ^ 56) : 4503599627370496 ≤ Ieee.Toward.even.cut false G 3 ∧ Ieee.Toward.even.cut false G 3 ≤ 2 * 4503599627370496 := by
  have hl := log2_eq h1 h2
  unfold Ieee.Toward.cut
  dsimp only
  rw [hl]
  have hg : 1 <<< min 3 (55 + 2) = 8 := by decide
  rw [hg]
  have := Bool.toNat_le (decide (8 < 2 * (G % 8)) || 8 == 2 * (G % 8) && G / 8 % 2 == 1)
  omega
theorem near_le {a c : Nat} (q : a ≤ 1085) (h : c ≤ 2 * 4503599627370496) : a * 4503599627370496 + c ≤ 9218868437227405312 := by omega
theorem near_e {Q : Int} (q1 : -1000 ≤ Q) (q2 : Q ≤ 8) : max (Q + ((55 : Nat) : Int) - ((52 : Nat) : Int)) (-1074) = Q + 3 ∧ (Q - (Q + 3)).toNat = 0 ∧ (Q + 3 - Q).toNat = 3 ∧ (Q + 3 - -1074).toNat = (Q + 1077).toNat ∧ (Q + 1077).toNat ≤ 1085 := by
  refine ⟨?_, ?_, ?_, ?_, ?_⟩ <;> omega
theorem near_d {G : Nat} {Q : Int} (h1 : 2 ^ 55 ≤ G) (h2 : G < 2 ^ 56) (q1 : -1000 ≤ Q) (q2 : Q ≤ 8) : Ieee.double.nearest false G Q = rgD G Q := by
  obtain ⟨e1, e2, e3, e4, e5⟩ := near_e q1 q2
  have hle := near_le e5 (cut3 h1 h2).2
  have hl := log2_eq h1 h2
  have hG : ¬ G = 0 := fun h => by rw [h] at h1; exact absurd h1 (by decide)
  unfold Ieee.Format.nearest
  rw [if_neg hG]
  dsimp only
  rw [hl]
  show Ieee.double.word false (min ((max (Q + ((55 : Nat) : Int) - ((52 : Nat) : Int)) (-1074) - -1074).toNat * 4503599627370496 + Ieee.Toward.even.cut false (G <<< (Q - max (Q + ((55 : Nat) : Int) - ((52 : Nat) : Int)) (-1074)).toNat) (max (Q + ((55 : Nat) : Int) - ((52 : Nat) : Int)) (-1074) - Q).toNat) 9218868437227405312) = _
  rw [e1, e2, e3, e4, Nat.shiftLeft_zero, word_false, Nat.min_eq_left hle]
  rfl
theorem rgD_mono {G G' : Nat} {Q Q' : Int} (h1 : 2 ^ 55 ≤ G) (h2 : G < 2 ^ 56) (h3 : 2 ^ 55 ≤ G') (h4 : G' < 2 ^ 56) (q1 : -1000 ≤ Q) (h : Q < Q' ∨ Q = Q' ∧ G ≤ G') : rgD G Q ≤ rgD G' Q' := by
  obtain ⟨c1, c2⟩ := cut3 h1 h2
  obtain ⟨c3, c4⟩ := cut3 h3 h4
  unfold rgD
  rcases h with h | ⟨h, hG⟩
  · omega
  · subst h
    have hl := log2_eq h1 h2
    have := cut_mono (s := false) (d := 3) hG (by omega) (by omega)
    omega
def rgS (r : Nat) : Nat := (r / 4503599627370496 - 897) * 8388608 + Ieee.Toward.even.cut false (4503599627370496 + r % 4503599627370496) 29
theorem cut29 (x : Nat) (hx : x < 4503599627370496) : 8388608 ≤ Ieee.Toward.even.cut false (4503599627370496 + x) 29 ∧ Ieee.Toward.even.cut false (4503599627370496 + x) 29 ≤ 2 * 8388608 := by
  have hl : (4503599627370496 + x).log2 = 52 := log2_eq (by omega) (by omega)
  unfold Ieee.Toward.cut
  dsimp only
  rw [hl]
  have hg : 1 <<< min 29 (52 + 2) = 536870912 := by decide
  rw [hg]
  have := Bool.toNat_le (decide (536870912 < 2 * ((4503599627370496 + x) % 536870912)) || 536870912 == 2 * ((4503599627370496 + x) % 536870912) && (4503599627370496 + x) / 536870912 % 2 == 1)
  omega
theorem rgS_mono {r r' : Nat} (h : r ≤ r') (h0 : 897 ≤ r / 4503599627370496) : rgS r ≤ rgS r' := by
  have x1 := Nat.mod_lt r (show 0 < 4503599627370496 by decide)
  have x2 := Nat.mod_lt r' (show 0 < 4503599627370496 by decide)
  obtain ⟨c1, c2⟩ := cut29 _ x1
  obtain ⟨c3, c4⟩ := cut29 _ x2
  have hd : r / 4503599627370496 ≤ r' / 4503599627370496 := Nat.div_le_div_right h
  have m1 := Nat.div_add_mod r 4503599627370496
  have m2 := Nat.div_add_mod r' 4503599627370496
  unfold rgS
  by_cases e : r / 4503599627370496 = r' / 4503599627370496
  · have hm : 4503599627370496 + r % 4503599627370496 ≤ 4503599627370496 + r' % 4503599627370496 := by omega
    have hl : (4503599627370496 + r % 4503599627370496).log2 = 52 := log2_eq (by omega) (by omega)
    have := cut_mono (s := false) (d := 29) hm (by omega) (by omega)
    rw [e]; omega
  · omega
theorem nears_e {k : Nat} (k1 : 897 ≤ k) (k2 : k ≤ 1100) : max (-1074 + ((k - 1 : Nat) : Int) + ((52 : Nat) : Int) - ((23 : Nat) : Int)) (-149) = (k : Int) - 1046 ∧ (-1074 + ((k - 1 : Nat) : Int) - ((k : Int) - 1046)).toNat = 0 ∧ ((k : Int) - 1046 - (-1074 + ((k - 1 : Nat) : Int))).toNat = 29 ∧ ((k : Int) - 1046 - -149).toNat = k - 897 := by
  refine ⟨?_, ?_, ?_, ?_⟩ <;> omega
theorem nears_le {a c : Nat} (q : a ≤ 203) (h : c ≤ 2 * 8388608) : a * 8388608 + c ≤ 2139095040 := by omega
theorem near_s {x k : Nat} (hx : x < 4503599627370496) (k1 : 897 ≤ k) (k2 : k ≤ 1100) : Ieee.single.nearest false (4503599627370496 + x) (-1074 + ((k - 1 : Nat) : Int)) = (k - 897) * 8388608 + Ieee.Toward.even.cut false (4503599627370496 + x) 29 := by
  obtain ⟨e1, e2, e3, e4⟩ := nears_e k1 k2
  have hle := nears_le (a := k - 897) (by omega) (cut29 x hx).2
  have hl : (4503599627370496 + x).log2 = 52 := log2_eq (by omega) (by omega)
  have hG : ¬ 4503599627370496 + x = 0 := by omega
  unfold Ieee.Format.nearest
  rw [if_neg hG]
  dsimp only
  rw [hl]
  show Ieee.single.word false (min ((max (-1074 + ((k - 1 : Nat) : Int) + ((52 : Nat) : Int) - ((23 : Nat) : Int)) (-149) - -149).toNat * 8388608 + Ieee.Toward.even.cut false ((4503599627370496 + x) <<< (-1074 + ((k - 1 : Nat) : Int) - max (-1074 + ((k - 1 : Nat) : Int) + ((52 : Nat) : Int) - ((23 : Nat) : Int)) (-149)).toNat) (max (-1074 + ((k - 1 : Nat) : Int) + ((52 : Nat) : Int) - ((23 : Nat) : Int)) (-149) - (-1074 + ((k - 1 : Nat) : Int))).toNat) 2139095040) = _
  rw [e1, e2, e3, e4, Nat.shiftLeft_zero, word_false, Nat.min_eq_left hle]
theorem lex_of {M M' c c' : Nat} (h1 : 2 ^ 52 ≤ M) (h2 : M' < 2 ^ 53) (h : M * 2 ^ c < M' * 2 ^ c') : c < c' ∨ c = c' ∧ M < M' := by
  rcases Nat.lt_trichotomy c c' with hc | hc | hc
  · exact .inl hc
  · subst hc
    exact .inr ⟨rfl, Nat.lt_of_mul_lt_mul_right h⟩
  · exfalso
    have e : c = c' + 1 + (c - (c' + 1)) := by omega
    have a1 : 2 ^ (c' + 1) ≤ 2 ^ c := Nat.pow_le_pow_right (by decide) hc
    have a2 : 2 ^ 52 * 2 ^ (c' + 1) ≤ M * 2 ^ c := Nat.mul_le_mul h1 a1
    have a3 : M' * 2 ^ c' ≤ 2 ^ 53 * 2 ^ c' := Nat.mul_le_mul_right _ (Nat.le_of_lt h2)
    have a4 : 2 ^ 52 * 2 ^ (c' + 1) = 2 ^ 53 * 2 ^ c' := by rw [← Nat.pow_add, ← Nat.pow_add]; congr 1; omega
    omega
theorem norm53 {m a : Nat} (h0 : m ≠ 0) (hm : m < 2 ^ 24) : 2 ^ 52 ≤ m * 2 ^ (52 - m.log2) ∧ m * 2 ^ (52 - m.log2) < 2 ^ 53 ∧ m * 2 ^ (52 - m.log2) * 2 ^ (a + m.log2) = m * 2 ^ a * 2 ^ 52 := by
  have hlog : m.log2 < 24 := log2_lt_of h0 hm
  have b1 := (Nat.le_log2 h0).1 (Nat.le_refl m.log2)
  have b2 : m < 2 ^ (m.log2 + 1) := by
    rcases Nat.lt_or_ge m (2 ^ (m.log2 + 1)) with h | h
    · exact h
    · have := (Nat.le_log2 h0).2 h; omega
  have hp := Nat.two_pow_pos (52 - m.log2)
  refine ⟨?_, ?_, ?_⟩
  · have := Nat.mul_le_mul_right (2 ^ (52 - m.log2)) b1
    rw [← Nat.pow_add, show m.log2 + (52 - m.log2) = 52 by omega] at this
    exact this
  · have := Nat.mul_lt_mul_of_pos_right b2 hp
    rw [← Nat.pow_add, show m.log2 + 1 + (52 - m.log2) = 53 by omega] at this
    exact this
  · rw [Nat.mul_assoc, Nat.mul_assoc, ← Nat.pow_add, ← Nat.pow_add]
    congr 2
    omega
theorem narrow_is {c m : Nat} {e : Int} (s1 : Ieee.double.read c = .number false m e) (s2 : m ≠ 0 → e + (m.log2 : Int) ≤ 64) : fnarrow (some c) = some (some (Ieee.single.nearest false m e)) := by
  have hfn : fnarrow (some c) = if (Ieee.single.read (Ieee.single.write (.number false m e))).isInfinity then none else some (some (Ieee.single.write (.number false m e))) := by
    have : FloatKind.f64.decode c = .number false m e := s1
    simp only [fnarrow]
    rw [this]; rfl
  obtain ⟨z, hz⟩ := narrow_num s1 s2
  rw [hz] at hfn
  split at hfn
  · cases hfn
  · rw [hz, hfn]; rfl
theorem rgD_k {G : Nat} {Q : Int} (h1 : 2 ^ 55 ≤ G) (h2 : G < 2 ^ 56) (q1 : -140 ≤ Q) (q2 : Q ≤ 8) : 897 ≤ rgD G Q / 4503599627370496 ∧ rgD G Q / 4503599627370496 ≤ 1100 ∧ 4503599627370496 ≤ rgD G Q ∧ rgD G Q < 9218868437227405312 ∧ rgD G Q / 4503599627370496 ≤ 1087 := by
  obtain ⟨c1, c2⟩ := cut3 h1 h2
  unfold rgD
  omega
theorem rootN_is {b : Nat} (h : FOk .f32 (some b)) (hs : wneg Ieee.single b = false) (g1 : wrung Ieee.single b < Ieee.single.infRung) (h0 : rval Ieee.single (wrung Ieee.single b) ≠ 0) :
    ∃ M c : Nat, 2 ^ 52 ≤ M ∧ M < 2 ^ 53 ∧ M * 2 ^ c = rval Ieee.single (wrung Ieee.single b) * 2 ^ 52 ∧ c ≤ 276 ∧ rootN (some b) = some (rgS (rgD (rtG M ((c : Int) - 201)) (rtQ ((c : Int) - 201)))) := by
  obtain ⟨m, a, e1, e2⟩ := read_fin Ieee.single g1
  have hm0 : m ≠ 0 := by
    intro e
    rw [e, Nat.zero_mul] at e2
    exact h0 e2.symm
  obtain ⟨k1, k2, k3⟩ := single_num e1
  obtain ⟨n1, n2, n3⟩ := norm53 (a := a) hm0 k1
  have hlog : m.log2 < 24 := log2_lt_of hm0 k1
  have hlp : Ieee.single.leastPlace = -149 := rfl
  rw [hlp] at k2 k3
  refine ⟨m * 2 ^ (52 - m.log2), a + m.log2, n1, n2, by rw [n3, e2], by omega, ?_⟩
  obtain ⟨R, r1, r2, r3, r4⟩ := widen_num (s := false) k1 (by omega : -149 ≤ -149 + (a : Int)) (by omega) hm0
  have hw : fwiden (some b) = some (Ieee.double.write (Ieee.single.read b)) := rfl
  have hsq : ∀ R, fsqrt (some R) = ((Ieee.double.read R).root 54).map Ieee.double.write := fun _ => rfl
  have hn := root_narrow h
  rw [hw, hsq, e1, hs, hlp] at hn
  have e3 : Ieee.double.write (.number false m (-149 + (a : Int))) = Ieee.double.word false R := r1
  rw [e3, r4] at hn
  have hP : -149 + (a : Int) + (m.log2 : Int) - 52 = ((a + m.log2 : Nat) : Int) - 201 := by omega
  rw [hP] at hn
  generalize hM : m * 2 ^ (52 - m.log2) = M at n1 n2 hn
  generalize hc : a + m.log2 = c at hn
  have hM0 : M ≠ 0 := by omega
  have hMl : M.log2 = 52 := log2_eq n1 n2
  have hq : rtQ ((c : Int) - 201) = ((c : Int) - 201) / 2 - 29 := by
    have hm : rtMore ((c : Int) - 201) = 56 + (((c : Int) - 201) % 2).toNat := by unfold rtMore; omega
    unfold rtQ; rw [hm]; omega
  have q1 : -140 ≤ rtQ ((c : Int) - 201) := by omega
  have q2 : rtQ ((c : Int) - 201) ≤ 8 := by omega
  obtain ⟨G1, G2⟩ := rtG_bound (P := (c : Int) - 201) n1 n2
  rw [root_is hM0 hMl] at hn
  have hnd := near_d G1 G2 (by omega) q2
  have hwr : Option.map Ieee.double.write (some (.number false (rtG M ((c : Int) - 201)) (rtQ ((c : Int) - 201)))) = some (rgD (rtG M ((c : Int) - 201)) (rtQ ((c : Int) - 201))) := congrArg some hnd
  rw [hwr] at hn
  obtain ⟨d1, d2, d3, d4, d5⟩ := rgD_k G1 G2 q1 q2
  generalize rgD (rtG M ((c : Int) - 201)) (rtQ ((c : Int) - 201)) = r at hn d1 d2 d3 d4 d5
  have hrd := readWord Ieee.double false (r := r) d4
  rw [word_false] at hrd
  have hrd2 : Ieee.double.read r = .number false (4503599627370496 + r % 4503599627370496) (-1074 + ((r / 4503599627370496 - 1 : Nat) : Int)) := by
    rw [hrd, if_neg (show ¬ r < Ieee.double.binade from Nat.not_lt.2 d3)]; rfl
  have hx := Nat.mod_lt r (show 0 < 4503599627370496 by decide)
  have hl2 : (4503599627370496 + r % 4503599627370496).log2 = 52 := log2_eq (by omega) (by omega)
  rw [narrow_is hrd2 (fun _ => by rw [hl2]; omega), near_s hx d1 d2] at hn
  have := Option.some.inj hn
  rw [← this]
  rfl
theorem root_rungs {b b' : Nat} (h : FOk .f32 (some b)) (hs : wneg Ieee.single b = false) (g : wrung Ieee.single b < Ieee.single.infRung) (h0 : rval Ieee.single (wrung Ieee.single b) ≠ 0)
    (h' : FOk .f32 (some b')) (hs' : wneg Ieee.single b' = false) (g' : wrung Ieee.single b' < Ieee.single.infRung) (hlt : rval Ieee.single (wrung Ieee.single b) < rval Ieee.single (wrung Ieee.single b')) :
    ∃ r r', rootN (some b) = some r ∧ rootN (some b') = some r' ∧ r ≤ r' ∧ r' < 2147483648 := by
  obtain ⟨M, c, m1, m2, m3, m4, m5⟩ := rootN_is h hs g h0
  obtain ⟨M', c', n1, n2, n3, n4, n5⟩ := rootN_is h' hs' g' (by omega)
  refine ⟨_, _, m5, n5, ?_⟩
  have hl : M * 2 ^ c < M' * 2 ^ c' := by
    rw [m3, n3]
    exact Nat.mul_lt_mul_of_pos_right hlt (Nat.two_pow_pos 52)
  have ho := lex_of m1 n2 hl
  obtain ⟨a1, a2⟩ := rtG_bound (P := (c : Int) - 201) m1 m2
  obtain ⟨a3, a4⟩ := rtG_bound (P := (c' : Int) - 201) n1 n2
  have ht := rt_order (P := (c : Int) - 201) (P' := (c' : Int) - 201) m1 m2 n1 n2 (by omega)
  have hq : -140 ≤ rtQ ((c : Int) - 201) ∧ rtQ ((c : Int) - 201) ≤ 8 := by
    have hm : rtMore ((c : Int) - 201) = 56 + (((c : Int) - 201) % 2).toNat := by unfold rtMore; omega
    unfold rtQ
    rw [hm]
    omega
  have hq' : -140 ≤ rtQ ((c' : Int) - 201) ∧ rtQ ((c' : Int) - 201) ≤ 8 := by
    have hm : rtMore ((c' : Int) - 201) = 56 + (((c' : Int) - 201) % 2).toNat := by unfold rtMore; omega
    unfold rtQ
    rw [hm]
    omega
  have hd := rgD_mono a1 a2 a3 a4 (by omega) ht
  refine ⟨rgS_mono hd (rgD_k a1 a2 hq.1 hq.2).1, ?_⟩
  obtain ⟨_, _, _, _, k5⟩ := rgD_k a3 a4 hq'.1 hq'.2
  have hx := (cut29 _ (Nat.mod_lt (rgD (rtG M' ((c' : Int) - 201)) (rtQ ((c' : Int) - 201))) (show 0 < 4503599627370496 by decide))).2
  unfold rgS
  omega
theorem rootN_neg {b : Nat} (h : FOk .f32 (some b)) (hs : wneg Ieee.single b = true) (g1 : wrung Ieee.single b < Ieee.single.infRung) (h0 : rval Ieee.single (wrung Ieee.single b) ≠ 0) : rootN (some b) = none := by
  obtain ⟨m, a, e1, e2⟩ := read_fin Ieee.single g1
  have hm0 : m ≠ 0 := by
    intro e
    rw [e, Nat.zero_mul] at e2
    exact h0 e2.symm
  obtain ⟨k1, k2, k3⟩ := single_num e1
  have hlp : Ieee.single.leastPlace = -149 := rfl
  rw [hlp] at k2 k3
  obtain ⟨R, r1, r2, r3, r4⟩ := widen_num (s := true) k1 (by omega : -149 ≤ -149 + (a : Int)) (by omega) hm0
  have hw : fwiden (some b) = some (Ieee.double.write (Ieee.single.read b)) := rfl
  have hsq : ∀ R, fsqrt (some R) = ((Ieee.double.read R).root 54).map Ieee.double.write := fun _ => rfl
  have hn := root_narrow h
  rw [hw, hsq, e1, hs, hlp] at hn
  have e3 : Ieee.double.write (.number true m (-149 + (a : Int))) = Ieee.double.word true R := r1
  rw [e3, r4] at hn
  have hM0 : m * 2 ^ (52 - m.log2) ≠ 0 := Nat.mul_ne_zero hm0 (Nat.ne_of_gt (Nat.two_pow_pos _))
  have hno : ∀ P : Int, Ieee.Datum.root 54 (.number true (m * 2 ^ (52 - m.log2)) P) = none := by
    intro P
    unfold Ieee.Datum.root
    dsimp only
    rw [if_neg hM0, if_pos rfl]
  rw [hno] at hn
  exact (Option.some.inj hn).symm
theorem fin_wrung {b : Nat} (h : FOk .f32 (some b)) (f : fin32 (some b) = true) : wrung Ieee.single b < Ieee.single.infRung := by
  rcases read_cases (f := Ieee.single) (fmt_ok .f32) h.some.2 with ⟨g1, _⟩ | ⟨_, g2⟩
  · exact g1
  · simp [fin32, g2, Ieee.Datum.isInfinity] at f
theorem lt_fin {b c : Nat} (hb : wrung Ieee.single b < Ieee.single.infRung) (hc : wrung Ieee.single c < Ieee.single.infRung) : flt .f32 (some b) (some c) = decide (sval (wneg Ieee.single b) (rval Ieee.single (wrung Ieee.single b)) < sval (wneg Ieee.single c) (rval Ieee.single (wrung Ieee.single c))) := by
  show (Ieee.single.order b c == some .lt) = _
  rw [order_fin Ieee.single hb hc]
  by_cases h : sval (wneg Ieee.single b) (rval Ieee.single (wrung Ieee.single b)) < sval (wneg Ieee.single c) (rval Ieee.single (wrung Ieee.single c))
  · rw [Int.compare_eq_lt.2 h, decide_eq_true h]; rfl
  · rw [decide_eq_false h]
    cases e : compare (sval (wneg Ieee.single b) (rval Ieee.single (wrung Ieee.single b))) (sval (wneg Ieee.single c) (rval Ieee.single (wrung Ieee.single c))) with
    | lt => exact absurd (Int.compare_eq_lt.1 e) h
    | eq => rfl
    | gt => rfl
theorem root_order {b b' : Nat} (h : FOk .f32 (some b)) (h' : FOk .f32 (some b')) (f : fin32 (some b) = true) (f' : fin32 (some b') = true) (fr : fin32 (rootN (some b)) = true) (hlt : flt .f32 (some b) (some b') = true) : flt .f32 (rootN (some b')) (rootN (some b)) = false := by
  have g := fin_wrung h f
  have g' := fin_wrung h' f'
  rw [lt_fin g g', decide_eq_true_eq] at hlt
  cases er : rootN (some b) with
  | none => rw [er] at fr; cases fr
  | some r =>
    rw [er] at fr
    have hr : FOk .f32 (some r) := by rw [← er]; exact rootN_ok h
    have gr := fin_wrung hr fr
    cases er' : rootN (some b') with
    | none => rfl
    | some r' =>
      have hr' : FOk .f32 (some r') := by rw [← er']; exact rootN_ok h'
      rcases rootN_sign h with e | ⟨q, e, sg⟩
      · rw [er] at e; cases e
      rcases rootN_sign h' with e' | ⟨q', e', sg'⟩
      · rw [er'] at e'; cases e'
      rw [er] at e; cases e
      rw [er'] at e'; cases e'
      have nn : ∀ {q : Nat}, (wneg Ieee.single q = false ∨ wrung Ieee.single q = 0) → 0 ≤ sval (wneg Ieee.single q) (rval Ieee.single (wrung Ieee.single q)) := by
        intro q hq
        rcases hq with hq | hq
        · rw [hq]; simp [sval]
        · rw [hq, rval_zero]; cases wneg Ieee.single q <;> simp [sval]
      cases fr' : fin32 (some r') with
      | false =>
        rcases read_cases (f := Ieee.single) (fmt_ok .f32) hr'.some.2 with ⟨g1, g2⟩ | ⟨g1, g2⟩
        · simp [fin32, g2] at fr'
        · have hsg : wneg Ieee.single r' = false := by
            rcases sg' with hs | hs
            · exact hs
            · rw [hs] at g1; exact absurd g1 (by decide)
          rw [hsg] at g2
          obtain ⟨m, a, e1, _⟩ := read_fin Ieee.single gr
          show (Ieee.single.order r' r == some .lt) = false
          unfold Ieee.Format.order
          rw [g2, e1]; rfl
      | true =>
        have gr' := fin_wrung hr' fr'
        rw [lt_fin gr' gr, decide_eq_false_iff_not]
        have n' := nn sg'
        by_cases z0 : rval Ieee.single (wrung Ieee.single b) = 0
        · have w0 : wrung Ieee.single b = 0 := rval_inj Ieee.single (by rw [z0, rval_zero])
          have hb : b % 2147483648 = 0 := w0
          have hb2 : b < 4294967296 := h.some.1
          have hz : rval Ieee.single (wrung Ieee.single r) = 0 := by
            have hc : b = 0 ∨ b = 2147483648 := by omega
            rcases hc with hc | hc
            · subst hc
              have : rootN (some 0) = some 0 := rfl
              rw [this] at er; cases er
              exact rval_zero _
            · subst hc
              have : rootN (some 2147483648) = some 2147483648 := rfl
              rw [this] at er; cases er
              exact rval_zero _
          have hs0 : sval (wneg Ieee.single r) (rval Ieee.single (wrung Ieee.single r)) = 0 := by
            rw [hz]; cases wneg Ieee.single r <;> simp [sval]
          omega
        · cases hs : wneg Ieee.single b with
          | true => rw [rootN_neg h hs g z0] at er; cases er
          | false =>
            rw [hs] at hlt
            have hpos : (0 : Int) < (rval Ieee.single (wrung Ieee.single b) : Int) := by omega
            have hv : sval false (rval Ieee.single (wrung Ieee.single b)) = (rval Ieee.single (wrung Ieee.single b) : Int) := by simp [sval]
            rw [hv] at hlt
            cases hs' : wneg Ieee.single b' with
            | true =>
              rw [hs'] at hlt
              have : sval true (rval Ieee.single (wrung Ieee.single b')) ≤ 0 := by simp [sval]
              omega
            | false =>
              rw [hs'] at hlt
              have hv' : sval false (rval Ieee.single (wrung Ieee.single b')) = (rval Ieee.single (wrung Ieee.single b') : Int) := by simp [sval]
              rw [hv'] at hlt
              obtain ⟨q, q', e1, e2, e3, e4⟩ := root_rungs h hs g z0 h' hs' g' (by omega)
              rw [er] at e1; cases e1
              rw [er'] at e2; cases e2
              have hw : ∀ x, x < 2147483648 → wneg Ieee.single x = false := by
                intro x hx
                unfold wneg
                rw [show Ieee.single.signWeight = 2147483648 from rfl, Nat.div_eq_of_lt hx]; rfl
              have w1 : wrung Ieee.single r = r := Nat.mod_eq_of_lt (by show r < 2147483648; omega)
              have w2 : wrung Ieee.single r' = r' := Nat.mod_eq_of_lt (by show r' < 2147483648; omega)
              have hle := rval_le Ieee.single e3
              rw [hw r (by omega), hw r' e4, w1, w2]
              simp only [sval]
              simp
              exact hle
def sqL (A C : Nat) (L : List F) : List F := (List.range C).map fun k => colDot A C L k k
theorem sqL_len {A C : Nat} {L : List F} : (sqL A C L).length = C := by simp [sqL]
theorem sqL_oks {A C : Nat} {L : List F} : FOks (sqL A C L) := by
  intro c hc
  obtain ⟨k, _, rfl⟩ := List.mem_map.1 hc
  exact colDot_ok _ _ _ _ _
theorem s_l04Squares_eq {A C : Nat} {L : List F} (m : Mat A C L) : s_l04Squares (A : Int) (C : Int) L = some (sqL A C L) := by
  have hC := m.C1
  have e := (loop_run (step := s_l04Squares_s1 (A : Int) (C : Int) L) (fun (k : Nat) (l : List F) => (l, (k : Int))) (fun k l => l ++ [colDot A C L k k]) (fun l => l) (fun k l => l.length = k) (lo := 0) (n := C) (Nat.zero_le _) (s0 := []) rfl
    (fun k l _ hk hl => by
      refine ⟨?_, by simp [hl]⟩
      show s_l04Squares_b1 _ _ _ _ _ = _
      unfold s_l04Squares_b1
      dsimp only
      have ap : apok 4 l.length 1 = true := by simp [apok, hl]; omega
      rw [dlt hk, bsel_true, s_l04Sums_eq m hk hk, obind3_eq, ap, need_true, wsucc (by omega)]
      rfl)
    (fun l _ => by
      show s_l04Squares_b1 _ _ _ _ _ = _
      unfold s_l04Squares_b1
      rw [dnlt, bsel_false])).1
  rw [Nat.sub_zero, run_map] at e
  unfold s_l04Squares
  replace e : loopM (s_l04Squares_s1 (A : Int) (C : Int) L) ([], 0) = some (.inl (sqL A C L)) := e
  rw [e]; rfl
theorem i_Matrix_columnSquares_eq {A C : Nat} {L : List F} (m : Mat A C L) : i_Matrix_columnSquares (A : Int) (C : Int) L = some (sqL A C L) := by
  have hC := m.C1
  have e := (loop_run (step := i_Matrix_columnSquares_s1 (A : Int) (C : Int) L) (fun (k : Nat) (l : List F) => (l, (k : Int))) (fun k l => l ++ [colDot A C L k k]) (fun l => l) (fun k l => l.length = k) (lo := 0) (n := C) (Nat.zero_le _) (s0 := []) rfl
    (fun k l _ hk hl => by
      refine ⟨?_, by simp [hl]⟩
      show i_Matrix_columnSquares_b1 _ _ _ _ _ = _
      unfold i_Matrix_columnSquares_b1
      dsimp only
      have ap : apok 4 l.length 1 = true := by simp [apok, hl]; omega
      rw [dlt hk, bsel_true, i_Matrix_column_eq m hk, obind_eq, obind_eq, i_dot_cols m, obind_eq, ap, need_true, wsucc (by omega)]
      rfl)
    (fun l _ => by
      show i_Matrix_columnSquares_b1 _ _ _ _ _ = _
      unfold i_Matrix_columnSquares_b1
      rw [dnlt, bsel_false])).1
  rw [Nat.sub_zero, run_map] at e
  unfold i_Matrix_columnSquares
  replace e : loopM (i_Matrix_columnSquares_s1 (A : Int) (C : Int) L) ([], 0) = some (.inl (sqL A C L)) := e
  rw [e]; rfl
def swapG {α : Type} (d : α) (j : Nat) (L : List α) : List α := (L.set (j + 1) (L.getD j d)).set j (L.getD (j + 1) d)
def insG {α : Type} (d : α) (lt : α → α → Bool) : Nat → List α → List α
  | 0, L => L
  | j + 1, L => bif lt (L.getD (j + 1) d) (L.getD j d) then insG d lt j (swapG d j L) else L
theorem swapG_len {α : Type} {d : α} {j : Nat} {L : List α} : (swapG d j L).length = L.length := by simp [swapG]
theorem insG_len {α : Type} {d : α} {lt : α → α → Bool} : ∀ (j : Nat) (L : List α), (insG d lt j L).length = L.length
  | 0, _ => rfl
  | j + 1, L => by
    unfold insG
    cases lt (L.getD (j + 1) d) (L.getD j d) with
    | false => rfl
    | true => rw [cond_true, insG_len j, swapG_len]
theorem getD_appG {α : Type} {d : α} {P R : List α} {j : Nat} (h : j < P.length) : (P ++ R).getD j d = P.getD j d := by
  rw [List.getD_eq_getElem?_getD, List.getElem?_append_left h, ← List.getD_eq_getElem?_getD]
theorem swapG_app {α : Type} {d : α} {j : Nat} {P R : List α} (h : j + 1 < P.length) : swapG d j (P ++ R) = swapG d j P ++ R := by
  unfold swapG
  rw [getD_appG h, getD_appG (by omega), List.set_append_left _ _ h, List.set_append_left _ _ (by simp; omega)]
theorem insG_app {α : Type} {d : α} {lt : α → α → Bool} : ∀ (j : Nat) (P R : List α), j < P.length → insG d lt j (P ++ R) = insG d lt j P ++ R
  | 0, _, _, _ => rfl
  | j + 1, P, R, h => by
    unfold insG
    rw [getD_appG h, getD_appG (by omega)]
    cases lt (P.getD (j + 1) d) (P.getD j d) with
    | false => rfl
    | true => rw [cond_true, cond_true, swapG_app h]; exact insG_app j _ _ (by rw [swapG_len]; omega)
theorem swapG_end {α : Type} {d : α} (Q : List α) (a x : α) : swapG d Q.length (Q ++ [a, x]) = Q ++ [x, a] := by
  unfold swapG
  have e1 : (Q ++ [a, x]).getD Q.length d = a := by simp [List.getD_eq_getElem?_getD]
  have e2 : (Q ++ [a, x]).getD (Q.length + 1) d = x := by simp [List.getD_eq_getElem?_getD]
  rw [e1, e2, List.set_append_right _ _ (by omega), List.set_append_right _ _ (by omega)]
  simp
theorem insG_mem {α : Type} {d : α} {lt : α → α → Bool} : ∀ (j : Nat) (P : List α) (x : α), P.length = j → (insG d lt j (P ++ [x])).Perm (P ++ [x])
  | 0, _, _, _ => List.Perm.refl _
  | j + 1, P, x, h => by
    have hne : P ≠ [] := by intro e; rw [e] at h; cases h
    obtain ⟨Q, a, rfl⟩ : ∃ Q a, P = Q ++ [a] := ⟨P.dropLast, P.getLast hne, (List.dropLast_concat_getLast hne).symm⟩
    have hQ : Q.length = j := by simpa using h
    unfold insG
    have e0 : Q ++ [a] ++ [x] = Q ++ [a, x] := by simp
    have e1 : (Q ++ [a, x]).getD j d = a := by subst hQ; simp [List.getD_eq_getElem?_getD]
    have e2 : (Q ++ [a, x]).getD (j + 1) d = x := by subst hQ; simp [List.getD_eq_getElem?_getD]
    rw [e0, e1, e2]
    cases lt x a with
    | false => exact List.Perm.refl _
    | true =>
      rw [cond_true]
      have e3 : swapG d j (Q ++ [a, x]) = (Q ++ [x]) ++ [a] := by subst hQ; rw [swapG_end]; simp
      rw [e3, insG_app j _ _ (by simp; omega)]
      refine ((insG_mem j Q x hQ).append_right [a]).trans ?_
      rw [List.append_assoc]
      exact List.Perm.append_left Q (List.Perm.swap a x [])
theorem insG_sorted {α : Type} {d : α} {lt : α → α → Bool} (key : α → Nat) : ∀ (j : Nat) (P : List α) (x : α), P.length = j → (∀ a ∈ P, lt x a = decide (key x < key a)) → P.Pairwise (fun a b => key a ≤ key b) → (insG d lt j (P ++ [x])).Pairwise (fun a b => key a ≤ key b)
  | 0, P, x, h, _, _ => by
    have : P = [] := List.length_eq_zero_iff.1 h
    subst this
    simp [insG]
  | j + 1, P, x, h, hk, hp => by
    have hne : P ≠ [] := by intro e; rw [e] at h; cases h
    obtain ⟨Q, a, rfl⟩ : ∃ Q a, P = Q ++ [a] := ⟨P.dropLast, P.getLast hne, (List.dropLast_concat_getLast hne).symm⟩
    have hQ : Q.length = j := by simpa using h
    rw [List.pairwise_append] at hp
    obtain ⟨p1, _, p2⟩ := hp
    have p2 : ∀ q ∈ Q, key q ≤ key a := fun q hq => p2 q hq a (by simp)
    unfold insG
    have e0 : Q ++ [a] ++ [x] = Q ++ [a, x] := by simp
    have e1 : (Q ++ [a, x]).getD j d = a := by subst hQ; simp [List.getD_eq_getElem?_getD]
    have e2 : (Q ++ [a, x]).getD (j + 1) d = x := by subst hQ; simp [List.getD_eq_getElem?_getD]
    rw [e0, e1, e2, hk a (by simp)]
    by_cases hlt : key x < key a
    · rw [decide_eq_true hlt, cond_true]
      have e3 : swapG d j (Q ++ [a, x]) = (Q ++ [x]) ++ [a] := by subst hQ; rw [swapG_end]; simp
      rw [e3, insG_app j _ _ (by simp; omega), List.pairwise_append]
      refine ⟨insG_sorted key j Q x hQ (fun b hb => hk b (by simp [hb])) p1, by simp, fun b hb c hc => ?_⟩
      have hc : c = a := by simpa using hc
      subst hc
      have hb := (insG_mem j Q x hQ).mem_iff.1 hb
      rcases List.mem_append.1 hb with hb | hb
      · exact p2 b hb
      · have : b = x := by simpa using hb
        subst this; omega
    · rw [decide_eq_false hlt, cond_false, ← e0, List.pairwise_append, List.pairwise_append]
      refine ⟨⟨p1, by simp, fun q hq b hb => by have : b = a := by simpa using hb
                                                subst this; exact p2 q hq⟩, by simp, fun q hq b hb => ?_⟩
      have hb : b = x := by simpa using hb
      subst hb
      rcases List.mem_append.1 hq with hq | hq
      · have := p2 q hq; omega
      · have : q = a := by simpa using hq
        subst this; omega
def sortG {α : Type} (d : α) (lt : α → α → Bool) (L : List α) : Nat → List α
  | 0 => []
  | n + 1 => insG d lt n (sortG d lt L n ++ [L.getD n d])
theorem sortG_len {α : Type} {d : α} {lt : α → α → Bool} {L : List α} : ∀ n, (sortG d lt L n).length = n
  | 0 => rfl
  | n + 1 => by unfold sortG; rw [insG_len]; simp [sortG_len n]
theorem sortG_perm {α : Type} {d : α} {lt : α → α → Bool} {L : List α} : ∀ n, n ≤ L.length → (sortG d lt L n).Perm (L.take n)
  | 0, _ => by simp [sortG]
  | n + 1, h => by
    unfold sortG
    refine (insG_mem n _ _ (sortG_len n)).trans ?_
    rw [List.take_succ_eq_append_getElem (by omega)]
    have : L.getD n d = L[n] := by
      rw [List.getD_eq_getElem?_getD, List.getElem?_eq_getElem (by omega)]; rfl
    rw [this]
    exact (sortG_perm n (by omega)).append_right _
theorem sortG_mem {α : Type} {d : α} {lt : α → α → Bool} {L : List α} {n : Nat} (h : n ≤ L.length) {x : α} (hx : x ∈ sortG d lt L n) : x ∈ L := List.mem_of_mem_take ((sortG_perm n h).mem_iff.1 hx)
theorem sortG_sorted {α : Type} {d : α} {lt : α → α → Bool} {L : List α} (key : α → Nat) (hk : ∀ a ∈ L, ∀ b ∈ L, lt a b = decide (key a < key b)) : ∀ n, n ≤ L.length → (sortG d lt L n).Pairwise (fun a b => key a ≤ key b)
  | 0, _ => by simp [sortG]
  | n + 1, h => by
    unfold sortG
    refine insG_sorted key n _ _ (sortG_len n) (fun a ha => hk _ ?_ a (sortG_mem (by omega) ha)) (sortG_sorted key hk n (by omega))
    have : L.getD n d = L[n] := by
      rw [List.getD_eq_getElem?_getD, List.getElem?_eq_getElem (by omega)]; rfl
    rw [this]
    exact List.getElem_mem _
theorem wpredG {j : Nat} (h : j ≤ 1000000000) : IntKind.i64.wrap (((j + 1 : Nat) : Int) - 1) = (j : Int) := by rw [wrap_i64 (by omega) (by omega)]; omega
theorem loop_insG {α β ρ : Type} {d : α} {lt : α → α → Bool} {step : β × Int → Option (LR (β × Int) β ρ)} (f : List α → β) (h0 : ∀ L, step (f L, 0) = some (.out (f L))) (Ok : List α → Prop) (hok : ∀ j L, Ok L → j + 1 < L.length → Ok (swapG d j L))
    (hs : ∀ (j : Nat) (L : List α), Ok L → j + 1 < L.length → L.length ≤ 1000000 → step (f L, ((j + 1 : Nat) : Int)) = some (bif lt (L.getD (j + 1) d) (L.getD j d) then .next (f (swapG d j L), (j : Int)) else .out (f L))) :
    ∀ (j : Nat) (L : List α), Ok L → j < L.length → L.length ≤ 1000000 → loopM step (f L, (j : Int)) = some (.inl (f (insG d lt j L)))
  | 0, L, _, _, _ => loopM_out (h0 L)
  | j + 1, L, h, hj, hl => by
    have e := hs j L h hj hl
    unfold insG
    cases hc : lt (L.getD (j + 1) d) (L.getD j d) with
    | false => rw [hc, cond_false] at e; rw [loopM_out e]; rfl
    | true =>
      rw [hc, cond_true] at e
      rw [loopM_next e, cond_true]
      exact loop_insG f h0 Ok hok hs j _ (hok j L h hj) (by rw [swapG_len]; omega) (by rw [swapG_len]; omega)
def NN (c : F) : Prop := ∀ b, c = some b → wneg Ieee.single b = false
theorem square_nn (x : F) : NN (fop .mul .f32 x x) := by
  cases x with
  | none => intro b h; cases h
  | some a =>
    intro b h
    have h : ((Ieee.single.read a).product (Ieee.single.read a)).map Ieee.single.write = some b := h
    obtain ⟨d, hd, rfl⟩ := Option.map_eq_some_iff.1 h
    have hn : d.isNaN = false ∧ d.neg = false := by
      cases hr : Ieee.single.read a with
      | nan s t => rw [hr] at hd; cases hd
      | infinity s => rw [hr] at hd; cases hd; cases s <;> exact ⟨rfl, rfl⟩
      | number s m i => rw [hr] at hd; cases hd; cases s <;> exact ⟨rfl, rfl⟩
    rw [(write_neg Ieee.single hn.1).1, hn.2]
theorem add_nn {x y : F} (hx : FOk .f32 x) (hy : FOk .f32 y) (nx : NN x) (ny : NN y) : NN (fop .add .f32 x y) := by
  cases x with
  | none => intro b h; cases h
  | some a =>
    cases y with
    | none => intro b h; cases h
    | some c =>
      intro b h
      have h : ((Ieee.single.read a).sum (Ieee.single.read c)).map Ieee.single.write = some b := h
      obtain ⟨d, hd, rfl⟩ := Option.map_eq_some_iff.1 h
      have na := read_neg_of Ieee.single (fmt_ok .f32) hx.some.2
      rw [nx a rfl] at na
      have nc := read_neg_of Ieee.single (fmt_ok .f32) hy.some.2
      rw [ny c rfl] at nc
      have hn : d.isNaN = false ∧ d.neg = false := by
        cases hr : Ieee.single.read a with
        | nan s t => rw [hr] at hd; cases hd
        | infinity s =>
          have hs : s = false := by rw [hr] at na; exact na
          subst hs
          cases hc : Ieee.single.read c with
          | nan s t => rw [hr, hc] at hd; cases hd
          | infinity t =>
            have ht : t = false := by rw [hc] at nc; exact nc
            subst ht
            rw [hr, hc] at hd; cases hd; exact ⟨rfl, rfl⟩
          | number t n j => rw [hr, hc] at hd; cases hd; exact ⟨rfl, rfl⟩
        | number s m i =>
          have hs : s = false := by rw [hr] at na; exact na
          subst hs
          cases hc : Ieee.single.read c with
          | nan s t => rw [hr, hc] at hd; cases hd
          | infinity t =>
            have ht : t = false := by rw [hc] at nc; exact nc
            subst ht
            rw [hr, hc] at hd; cases hd; exact ⟨rfl, rfl⟩
          | number t n j =>
            have ht : t = false := by rw [hc] at nc; exact nc
            subst ht
            rw [hr, hc] at hd; cases hd
            refine ⟨rfl, ?_⟩
            show (if Ieee.signed false m (i - min i j).toNat + Ieee.signed false n (j - min i j).toNat = 0 then (false && false) else decide (Ieee.signed false m (i - min i j).toNat + Ieee.signed false n (j - min i j).toNat < 0)) = false
            have h1 : 0 ≤ Ieee.signed false m (i - min i j).toNat := Int.natCast_nonneg _
            have h2 : 0 ≤ Ieee.signed false n (j - min i j).toNat := Int.natCast_nonneg _
            split
            · rfl
            · exact decide_eq_false (by omega)
      rw [(write_neg Ieee.single hn.1).1, hn.2]
theorem dotSame_nn (u : Nat → F) : ∀ n, NN (dotN u u n) := fun n => by
  have := run_inv (f := dotE u u) (fun _ s => NN s ∧ FOk .f32 s) n 0 (some 0) ⟨fun b h => by cases h; rfl, zero_ok⟩ fun j s _ _ h => ⟨add_nn h.2 (fop_fok _ _ _) h.1 (square_nn _), fop_fok _ _ _⟩
  exact this.1
theorem colDot_nn (A C : Nat) (L : List F) (k : Nat) : NN (colDot A C L k k) := dotSame_nn _ _
theorem nn_word {c : F} (h : FOk .f32 c) (n : NN c) (f : fin32 c = true) : ∃ b, c = some b ∧ b < 2139095040 := by
  cases c with
  | none => cases f
  | some b =>
    refine ⟨b, rfl, ?_⟩
    have g := fin_wrung h f
    have h1 := h.some.1
    have e := lt_of_wneg h1 (n b rfl)
    have g : b % 2147483648 < 2139095040 := g
    omega
theorem word_flt {b c : Nat} (hb : b < 2139095040) (hc : c < 2139095040) : flt .f32 (some b) (some c) = decide (b < c) := by
  have w : ∀ x, x < 2139095040 → wneg Ieee.single x = false ∧ wrung Ieee.single x = x := by
    intro x hx
    refine ⟨?_, Nat.mod_eq_of_lt (by show x < 2147483648; omega)⟩
    unfold wneg
    rw [show Ieee.single.signWeight = 2147483648 from rfl, Nat.div_eq_of_lt (by omega)]; rfl
  rw [lt_fin (by rw [(w b hb).2]; exact hb) (by rw [(w c hc).2]; exact hc), (w b hb).1, (w c hc).1, (w b hb).2, (w c hc).2]
  have sv : ∀ x : Nat, sval false x = (x : Int) := fun _ => rfl
  rw [sv, sv]
  by_cases h : b < c
  · have := rval_mono Ieee.single h
    rw [decide_eq_true h, decide_eq_true (by omega)]
  · have := rval_le Ieee.single (Nat.le_of_not_lt h)
    rw [decide_eq_false h, decide_eq_false (by omega)]
theorem root_word {c : F} (h : FOk .f32 c) (n : NN c) (f : fin32 (rootN c) = true) : ∃ b, c = some b ∧ b < 2139095040 := by
  have hf : fin32 c = true := by
    cases hf : fin32 c with
    | true => rfl
    | false =>
      cases c with
      | none => have : rootN none = none := rfl
                rw [this] at f; cases f
      | some b =>
        exfalso
        have hp : flt .f32 (some 0) (some b) = true := by
          rcases read_cases (f := Ieee.single) (fmt_ok .f32) h.some.2 with ⟨g1, g2⟩ | ⟨g1, g2⟩
          · simp [fin32, g2] at hf
          · rw [n b rfl] at g2
            show (Ieee.single.order 0 b == some .lt) = true
            unfold Ieee.Format.order
            rw [g2]; rfl
        rw [rootN_inf h hp hf] at f; cases f
  exact nn_word h n hf
theorem root_nn {c : F} (h : FOk .f32 c) (n : NN c) (f : fin32 (rootN c) = true) : ∃ b, rootN c = some b ∧ b < 2139095040 := by
  obtain ⟨b, rfl, hb⟩ := root_word h n f
  by_cases h0 : b = 0
  · subst h0; exact ⟨0, rfl, by omega⟩
  · have hw : wrung Ieee.single b = b := Nat.mod_eq_of_lt (by show b < 2147483648; omega)
    have hz : rval Ieee.single (wrung Ieee.single b) ≠ 0 := by
      rw [hw]
      intro e
      exact h0 (rval_inj Ieee.single (by rw [e, rval_zero]))
    refine nn_word (rootN_ok h) ?_ f
    obtain ⟨M, c, h1, h2, h3, h4, e⟩ := rootN_is h (n b rfl) (by rw [hw]; exact hb) hz
    intro q hq
    rcases rootN_sign h with e' | ⟨q', e', sg⟩
    · rw [hq] at e'; cases e'
    · rw [hq] at e'; cases e'
      rcases sg with sg | sg
      · exact sg
      · -- a root's word is a rung
        rw [hq] at e
        have := Option.some.inj e
        rcases Nat.lt_or_ge q 2147483648 with hl | hl
        · unfold wneg
          rw [show Ieee.single.signWeight = 2147483648 from rfl, Nat.div_eq_of_lt hl]; rfl
        · exfalso
          obtain ⟨r1, r2⟩ := rtG_bound (P := (c : Int) - 201) h1 h2
          have hq1 : rtQ ((c : Int) - 201) ≤ 8 ∧ -140 ≤ rtQ ((c : Int) - 201) := by
            have hm : rtMore ((c : Int) - 201) = 56 ∨ rtMore ((c : Int) - 201) = 57 := by unfold rtMore; omega
            unfold rtQ
            rcases hm with hm | hm <;> rw [hm] <;> omega
          obtain ⟨k1, k2, _⟩ := rgD_k r1 r2 hq1.2 hq1.1
          have x1 := Nat.mod_lt (rgD (rtG M ((c : Int) - 201)) (rtQ ((c : Int) - 201))) (show 0 < 4503599627370496 by decide)
          obtain ⟨c1, c2⟩ := cut29 _ x1
          unfold rgS at this
          omega
theorem loop_sortG {α ρ : Type} {d : α} {lt : α → α → Bool} {step : List α × Int → Option (LR (List α × Int) (List α) ρ)} {R : List α} {n : Nat} (hR : R.length = n) (h0 : 0 < n)
    (hs : ∀ (i : Nat) (L : List α), 1 ≤ i → i < n → L.length = n → (∀ x ∈ L, x ∈ R) → step (L, (i : Int)) = some (.next (insG d lt i L, ((i + 1 : Nat) : Int)))) (he : ∀ L, step (L, (n : Int)) = some (.out L)) : loopM step (R, 1) = some (.inl (sortG d lt R n)) := by
  have hd : ∀ i, i < n → R.drop i = R.getD i d :: R.drop (i + 1) := fun i hi => by
    rw [List.drop_eq_getElem_cons (by omega)]
    congr 1
    rw [List.getD_eq_getElem?_getD, List.getElem?_eq_getElem (by omega)]; rfl
  have e := (loop_run (step := step) (fun (i : Nat) (_ : Unit) => (sortG d lt R i ++ R.drop i, (i : Int))) (fun _ _ => ()) (fun _ => sortG d lt R n) (fun _ _ => True) (lo := 1) (n := n) h0 (s0 := ()) trivial
    (fun i _ h1 hi _ => by
      refine ⟨?_, trivial⟩
      rw [hs i _ h1 hi (by rw [List.length_append, sortG_len, List.length_drop]; omega) (fun x hx => by
        rcases List.mem_append.1 hx with hx | hx
        · exact sortG_mem (by omega) hx
        · exact List.mem_of_mem_drop hx)]
      rw [hd i hi]
      have : sortG d lt R i ++ R.getD i d :: R.drop (i + 1) = (sortG d lt R i ++ [R.getD i d]) ++ R.drop (i + 1) := by simp
      rw [this, insG_app i _ _ (by simp [sortG_len])]
      rfl)
    (fun _ _ => by
      rw [he, List.drop_of_length_le (by omega), List.append_nil])).1
  have h1 : sortG d lt R 1 ++ R.drop 1 = R := by
    show [] ++ [R.getD 0 d] ++ R.drop 1 = R
    have := hd 0 h0
    rw [List.drop_zero] at this
    rw [List.nil_append, List.singleton_append, ← this]
  replace e : loopM step (sortG d lt R 1 ++ R.drop 1, 1) = some (.inl (sortG d lt R n)) := e
  rw [h1] at e
  exact e
def ltS (x y : F) : Bool := bif feq .f32 y y then (bif feq .f32 x x then flt .f32 y x else false) else feq .f32 x x
theorem i_SingularOf_1_lt (x y : F) : ∃ r, i_SingularOf_1 x y = some r ∧ decide (r < 0) = ltS x y := by
  unfold i_SingularOf_1 x_cmp_Compare_float32 x_cmp_isNaN_float32 ltS
  cases feq .f32 x x <;> cases feq .f32 y y <;> cases flt .f32 y x <;> cases flt .f32 x y <;> exact ⟨_, rfl, rfl⟩
theorem x_slices_insertionSortCmpFunc_float32_0o_3Fi_SingularOf_1_eq {R : List F} {n : Nat} (hR : R.length = n) (h0 : 0 < n) (hn : n ≤ 12) : x_slices_insertionSortCmpFunc_float32_0o_3Fi_SingularOf_1 0 (n : Int) R = some (sortG none ltS R n) := by
  have inner : ∀ (j : Nat) (L : List F), j < L.length → L.length ≤ 1000000 → loopM (x_slices_insertionSortCmpFunc_float32_0o_3Fi_SingularOf_1_s2 0) (L, (j : Int)) = some (.inl (insG none ltS j L)) := fun j L hj hl =>
    loop_insG (fun L => L) (fun L => by
      show x_slices_insertionSortCmpFunc_float32_0o_3Fi_SingularOf_1_b2 _ _ _ = _
      unfold x_slices_insertionSortCmpFunc_float32_0o_3Fi_SingularOf_1_b2
      rw [show decide ((0 : Int) < 0) = false from rfl, bsel_false]) (fun _ => True) (fun _ _ _ _ => trivial) (fun j L _ hj hl => by
      show x_slices_insertionSortCmpFunc_float32_0o_3Fi_SingularOf_1_b2 _ _ _ = _
      unfold x_slices_insertionSortCmpFunc_float32_0o_3Fi_SingularOf_1_b2
      dsimp only
      obtain ⟨r, hr1, hr2⟩ := i_SingularOf_1_lt (L.getD (j + 1) none) (L.getD j none)
      have hd : decide ((0 : Int) < ((j + 1 : Nat) : Int)) = true := decide_eq_true (by omega)
      have l1 : ∀ x : F, j < (L.set (j + 1) x).length := fun x => by simp; omega
      rw [hd, bsel_true, at?_n none hj, obind_eq, wpredG (by omega), olet_eq, at?_n none (by omega), obind_eq, hr1, obind_eq, hr2]
      cases ltS (L.getD (j + 1) none) (L.getD j none) with
      | false => rfl
      | true =>
        rw [bsel_true, olet_eq, olet_eq, at?_n none (by omega), obind_eq, obind_eq, setAt?_n _ hj, obind_eq, setAt?_n _ (l1 _), obind_eq, olet_eq]
        rfl) j L trivial hj hl
  have e := loop_sortG (d := none) (lt := ltS) (step := x_slices_insertionSortCmpFunc_float32_0o_3Fi_SingularOf_1_s3 0 (n : Int)) hR h0
    (fun i L h1 hi hl _ => by
      show x_slices_insertionSortCmpFunc_float32_0o_3Fi_SingularOf_1_b3 _ _ _ _ = _
      unfold x_slices_insertionSortCmpFunc_float32_0o_3Fi_SingularOf_1_b3
      dsimp only
      rw [dlt hi, bsel_true, inner i L (by omega) (by omega), obind_eq, osum_inl]
      unfold x_slices_insertionSortCmpFunc_float32_0o_3Fi_SingularOf_1_k2
      rw [wsucc (by omega)]; rfl)
    (fun L => by
      show x_slices_insertionSortCmpFunc_float32_0o_3Fi_SingularOf_1_b3 _ _ _ _ = _
      unfold x_slices_insertionSortCmpFunc_float32_0o_3Fi_SingularOf_1_b3
      dsimp only
      rw [dnlt, bsel_false])
  unfold x_slices_insertionSortCmpFunc_float32_0o_3Fi_SingularOf_1
  rw [show IntKind.i64.wrap (0 + 1) = 1 from rfl, olet_eq, e]; rfl
theorem x_slices_SortStableFunc_float32_float32_0o_1Fi_SingularOf_1_eq {R : List F} {n : Nat} (hR : R.length = n) (h0 : 0 < n) (hn : n ≤ 12) : x_slices_SortStableFunc_float32_float32_0o_1Fi_SingularOf_1 R = some (sortG none ltS R n) := by
  unfold x_slices_SortStableFunc_float32_float32_0o_1Fi_SingularOf_1 x_slices_stableCmpFunc_float32_0o_2Fi_SingularOf_1
  have e1 : loopM (x_slices_stableCmpFunc_float32_0o_2Fi_SingularOf_1_s1 ((R.length : Nat) : Int) R) (R, 0, 20) = some (.inl (R, 0)) := by
    refine loopM_out ?_
    show x_slices_stableCmpFunc_float32_0o_2Fi_SingularOf_1_b1 _ _ _ _ _ = _
    unfold x_slices_stableCmpFunc_float32_0o_2Fi_SingularOf_1_b1
    rw [hR, show decide ((20 : Int) ≤ (n : Int)) = false from decide_eq_false (by omega), bsel_false]
  have e2 : loopM (x_slices_stableCmpFunc_float32_0o_2Fi_SingularOf_1_s6 ((R.length : Nat) : Int) R) (sortG none ltS R n, 20) = some (.inl (sortG none ltS R n)) := by
    refine loopM_out ?_
    show x_slices_stableCmpFunc_float32_0o_2Fi_SingularOf_1_b6 _ _ _ _ = _
    unfold x_slices_stableCmpFunc_float32_0o_2Fi_SingularOf_1_b6
    rw [hR, show decide ((20 : Int) < (n : Int)) = false from decide_eq_false (by omega), bsel_false]
  rw [e1, obind_eq, osum_inl]
  unfold x_slices_stableCmpFunc_float32_0o_2Fi_SingularOf_1_k1
  dsimp only
  rw [hR] at e2 ⊢
  rw [x_slices_insertionSortCmpFunc_float32_0o_3Fi_SingularOf_1_eq hR h0 hn, obind_eq, sortG_len, decide_eq_true rfl, need_true, e2, obind_eq, osum_inl]
  unfold x_slices_stableCmpFunc_float32_0o_2Fi_SingularOf_1_k6
  rw [obind_eq, sortG_len, decide_eq_true rfl, need_true]
theorem vget_mem {v : List F} {x : Int} (h0 : 0 ≤ x) (h1 : x < (v.length : Int)) : vget v x ∈ v := by
  unfold vget
  rw [List.getD_eq_getElem?_getD, List.getElem?_eq_getElem (by omega)]
  exact List.getElem_mem _
def ltV (v : List F) (x y : Int) : Bool := flt .f32 (vget v x) (vget v y)
theorem insIn_insG (v : List F) : ∀ j L, insIn v j L = insG 0 (ltV v) j L
  | 0, _ => rfl
  | j + 1, L => by
    unfold insIn insG ltV
    cases flt .f32 (vget v (L.getD (j + 1) 0)) (vget v (L.getD j 0)) with
    | false => rfl
    | true => rw [cond_true, cond_true]; exact insIn_insG v j _
theorem ordL_sortG (v : List F) (m : Nat) : ∀ n, n ≤ m → ordL v n = sortG 0 (ltV v) (upTo m) n
  | 0, _ => rfl
  | n + 1, h => by
    have : (upTo m).getD n 0 = (n : Int) := by
      simp [upTo, List.getD_eq_getElem?_getD, List.getElem?_range, show n < m by omega]
    rw [ordL_succ, insIn_insG, ordL_sortG v m n (by omega)]
    show _ = insG 0 (ltV v) n (sortG 0 (ltV v) (upTo m) n ++ [(upTo m).getD n 0])
    rw [this]
def rootV (v : List F) (x : Int) : F := rootN (vget v x)
def singS (v : List F) (n : Nat) : List F := (ordL v n).reverse.map (rootV v)
theorem map_vget (v : List F) (f : F → F) : (upTo v.length).map (fun x => f (vget v x)) = v.map f := by
  apply List.ext_getElem
  · simp [upTo]
  · intro i h1 h2
    have h3 : i < v.length := by simpa using h2
    simp [upTo, vget, List.getD_eq_getElem?_getD, List.getElem?_eq_getElem h3]
theorem singS_perm {v : List F} {n : Nat} (hv : v.length = n) : (singS v n).Perm (v.map rootN) := by
  unfold singS
  refine ((List.reverse_perm _).map _).trans ?_
  rw [← map_vget v rootN, ordL_sortG v n n (Nat.le_refl _), hv]
  have := sortG_perm (d := 0) (lt := ltV v) (L := upTo n) n (by simp [upTo])
  rw [List.take_of_length_le (by simp [upTo])] at this
  exact this.map _
theorem perm_fin {a b : List F} (h : a.Perm b) : a.all fin32 = b.all fin32 := by
  rw [Bool.eq_iff_iff, List.all_eq_true, List.all_eq_true]
  exact ⟨fun k x hx => k x (h.mem_iff.2 hx), fun k x hx => k x (h.mem_iff.1 hx)⟩
def wkey (c : F) : Nat := c.getD 0
theorem sing_eq {v : List F} {n : Nat} (hv : v.length = n) (g : FOks v) (nn : ∀ c ∈ v, NN c) (f : (v.map rootN).all fin32 = true) : singS v n = sortG none ltS (v.map rootN) n := by
  have hf : ∀ c ∈ v, fin32 (rootN c) = true := fun c hc => List.all_eq_true.1 f _ (List.mem_map_of_mem hc)
  have hw : ∀ c ∈ v.map rootN, ∃ b, c = some b ∧ b < 2139095040 := fun c hc => by
    obtain ⟨d, hd, rfl⟩ := List.mem_map.1 hc
    exact root_nn (g d hd) (nn d hd) (hf d hd)
  have hl : (v.map rootN).length = n := by simp [hv]
  -- the program's
  have p1 : (sortG none ltS (v.map rootN) n).Perm (v.map rootN) := by
    have := sortG_perm (d := none) (lt := ltS) (L := v.map rootN) n (by omega)
    rwa [List.take_of_length_le (by omega)] at this
  have s1 : (sortG none ltS (v.map rootN) n).Pairwise (fun a b => 2139095040 - wkey a ≤ 2139095040 - wkey b) := by
    refine sortG_sorted (d := none) (lt := ltS) (L := v.map rootN) (fun c => 2139095040 - wkey c) (fun a ha b hb => ?_) n (by omega)
    obtain ⟨x, rfl, hx⟩ := hw a ha
    obtain ⟨y, rfl, hy⟩ := hw b hb
    have e : ∀ z, z < 2139095040 → feq .f32 (some z) (some z) = true := fun z hz => by
      show (Ieee.single.order z z == some .eq) = true
      have hz' : wrung Ieee.single z < Ieee.single.infRung := by
        have : wrung Ieee.single z = z := Nat.mod_eq_of_lt (by show z < 2147483648; omega)
        rw [this]; exact hz
      rw [order_fin Ieee.single hz' hz', Int.compare_eq_eq.2 rfl]; rfl
    unfold ltS
    rw [e x hx, e y hy, cond_true, cond_true, word_flt hy hx]
    show decide (y < x) = decide (2139095040 - x < 2139095040 - y)
    by_cases h : y < x
    · rw [decide_eq_true h, decide_eq_true (by omega)]
    · rw [decide_eq_false h, decide_eq_false (by omega)]
  -- the reference's
  have p2 := singS_perm (v := v) (n := n) hv
  have hsq : ∀ x : Int, 0 ≤ x → x < (n : Int) → ∃ b, vget v x = some b ∧ b < 2139095040 := fun x h0 h1 => by
    have hm := vget_mem (v := v) h0 (by omega)
    exact root_word (g _ hm) (nn _ hm) (hf _ hm)
  have su : ∀ x ∈ upTo n, 0 ≤ x ∧ x < (n : Int) := fun x hx => by
    simp [upTo] at hx
    obtain ⟨q, hq, rfl⟩ := hx
    omega
  have s2 : (ordL v n).Pairwise (fun a b => wkey (vget v a) ≤ wkey (vget v b)) := by
    rw [ordL_sortG v n n (Nat.le_refl _)]
    refine sortG_sorted (d := 0) (lt := ltV v) (L := upTo n) (fun x => wkey (vget v x)) (fun a ha b hb => ?_) n (by simp [upTo])
    obtain ⟨x, ex, hx⟩ := hsq a (su a ha).1 (su a ha).2
    obtain ⟨y, ey, hy⟩ := hsq b (su b hb).1 (su b hb).2
    unfold ltV
    rw [ex, ey, word_flt hx hy]; rfl
  have on : ∀ x ∈ ordL v n, 0 ≤ x ∧ x < (n : Int) := fun x hx => ordL_names n (Nat.le_refl _) x hx
  have s3 : (singS v n).Pairwise (fun a b => 2139095040 - wkey a ≤ 2139095040 - wkey b) := by
    unfold singS
    rw [List.pairwise_map, List.pairwise_reverse]
    refine List.Pairwise.imp_of_mem (fun {a b} ha hb h => ?_) s2
    obtain ⟨x, ex, hx⟩ := hsq a (on a ha).1 (on a ha).2
    obtain ⟨y, ey, hy⟩ := hsq b (on b hb).1 (on b hb).2
    have ma := vget_mem (v := v) (on a ha).1 (by have := (on a ha).2; omega)
    have mb := vget_mem (v := v) (on b hb).1 (by have := (on b hb).2; omega)
    obtain ⟨p, ep, hp⟩ := root_nn (g _ ma) (nn _ ma) (hf _ ma)
    obtain ⟨q, eq, hq⟩ := root_nn (g _ mb) (nn _ mb) (hf _ mb)
    show 2139095040 - wkey (rootV v b) ≤ 2139095040 - wkey (rootV v a)
    unfold rootV
    have h : wkey (vget v a) ≤ wkey (vget v b) := h
    rw [ex, ey] at h
    have h : x ≤ y := h
    rw [ep, eq]
    show 2139095040 - q ≤ 2139095040 - p
    rcases Nat.lt_or_ge x y with hlt | hge
    · have gx := g _ ma
      have gy := g _ mb
      have fx : fin32 (vget v a) = true := by
        cases hfx : fin32 (vget v a) with
        | true => rfl
        | false =>
          exfalso
          rw [ex] at gx hfx
          rcases read_cases (f := Ieee.single) (fmt_ok .f32) gx.some.2 with ⟨g1, g2⟩ | ⟨g1, g2⟩
          · simp [fin32, g2] at hfx
          · have : wrung Ieee.single x = x := Nat.mod_eq_of_lt (by show x < 2147483648; omega)
            rw [this] at g1
            have : (2139095040 : Nat) = Ieee.single.infRung := by decide
            omega
      have fy : fin32 (vget v b) = true := by
        cases hfx : fin32 (vget v b) with
        | true => rfl
        | false =>
          exfalso
          rw [ey] at gy hfx
          rcases read_cases (f := Ieee.single) (fmt_ok .f32) gy.some.2 with ⟨g1, g2⟩ | ⟨g1, g2⟩
          · simp [fin32, g2] at hfx
          · have : wrung Ieee.single y = y := Nat.mod_eq_of_lt (by show y < 2147483648; omega)
            rw [this] at g1
            have : (2139095040 : Nat) = Ieee.single.infRung := by decide
            omega
      have fr := hf _ ma
      rw [ex] at gx fx fr ep
      rw [ey] at gy fy eq
      have := root_order gx gy fx fy fr (by rw [word_flt hx hy]; exact decide_eq_true hlt)
      rw [ep, eq, word_flt hq hp, decide_eq_false_iff_not] at this
      omega
    · have : x = y := by omega
      subst this
      rw [ex] at ep
      rw [ey, ep] at eq
      cases eq
      omega
  refine List.Perm.eq_of_pairwise (le := fun a b => 2139095040 - wkey a ≤ 2139095040 - wkey b) (fun a b ha hb h1 h2 => ?_) s3 s1 (p2.trans p1.symm)
  obtain ⟨x, rfl, hx⟩ := hw a (p2.mem_iff.1 ha)
  obtain ⟨y, rfl, hy⟩ := hw b (p1.mem_iff.1 hb)
  have h1 : 2139095040 - x ≤ 2139095040 - y := h1
  have h2 : 2139095040 - y ≤ 2139095040 - x := h2
  congr 1
  omega
theorem s_SingularOf_loop {v : List F} {n : Nat} (hv : v.length = n) (g : FOks v) (hn : n ≤ 12) : loopM (s_SingularOf_s1 v (ordL v n)) ([], (n : Int) - 1) = some (.inl (singS v n)) := by
  have hl : (ordL v n).length = n := ordL_len v n
  have e := (loop_run (step := s_SingularOf_s1 v (ordL v n)) (fun (j : Nat) (l : List F) => (l, (n : Int) - 1 - (j : Int))) (fun j l => l ++ [rootV v ((ordL v n).getD (n - 1 - j) 0)]) (fun l => l) (fun j l => l.length = j) (lo := 0) (n := n) (Nat.zero_le _) (s0 := []) rfl
    (fun j l _ hj hI => by
      refine ⟨?_, by simp [hI]⟩
      show s_SingularOf_b1 _ _ _ _ = _
      unfold s_SingularOf_b1
      dsimp only
      have hz : (n : Int) - 1 - (j : Int) = ((n - 1 - j : Nat) : Int) := by omega
      have hN := (ordL_names (v := v) (m := n) n (Nat.le_refl _)).at (j := n - 1 - j) (by omega)
      have ap : apok 4 l.length 1 = true := by simp [apok, hI]; omega
      have hd : decide ((0 : Int) ≤ ((n - 1 - j : Nat) : Int)) = true := decide_eq_true (by omega)
      have hw : IntKind.i64.wrap (((n - 1 - j : Nat) : Int) - 1) = (n : Int) - 1 - ((j + 1 : Nat) : Int) := by rw [wrap_i64 (by omega) (by omega)]; omega
      rw [hz, hd, bsel_true, at?_n 0 (by omega), obind_eq, vget_at hN.1 (by omega), obind_eq, s_l01Sqrt_eq (g _ (vget_mem hN.1 (by omega))), obind_eq, ap, need_true, hw]
      rfl)
    (fun l _ => by
      show s_SingularOf_b1 _ _ _ _ = _
      unfold s_SingularOf_b1
      dsimp only
      rw [show decide ((0 : Int) ≤ (n : Int) - 1 - (n : Int)) = false from decide_eq_false (by omega), bsel_false])).1
  rw [show ((n : Int) - 1 - ((0 : Nat) : Int)) = (n : Int) - 1 by omega, Nat.sub_zero, run_map] at e
  rw [e]
  congr 2
  unfold singS
  apply List.ext_getElem
  · simp [hl]
  · intro i h1 h2
    have hi : i < n := by simpa using h1
    simp [List.getElem_reverse, hl, List.getD_eq_getElem?_getD]
    congr 1
    rw [List.getElem?_eq_getElem (by omega)]; rfl
theorem i_SingularOf_loop {v : List F} {n : Nat} (hv : v.length = n) (g : FOks v) (hn : n ≤ 12) : loopM (i_SingularOf_s1 v) ([], 0) = some (.inl (v.map rootN)) := by
  have e := (loop_run (step := i_SingularOf_s1 v) (fun (j : Nat) (l : List F) => (l, (j : Int))) (fun j l => l ++ [rootN (v.getD j none)]) (fun l => l) (fun j l => l.length = j) (lo := 0) (n := n) (Nat.zero_le _) (s0 := []) rfl
    (fun j l _ hj hI => by
      refine ⟨?_, by simp [hI]⟩
      show i_SingularOf_b1 _ _ _ = _
      unfold i_SingularOf_b1
      dsimp only
      have ap : apok 4 l.length 1 = true := by simp [apok, hI]; omega
      rw [dlt (show j < v.length by omega), bsel_true, at?_n none (by omega), obind_eq, i_RootNumber_eq (g.getD _), obind_eq, ap, need_true, wsucc (by omega)]
      rfl)
    (fun l _ => by
      show i_SingularOf_b1 _ _ _ = _
      unfold i_SingularOf_b1
      dsimp only
      rw [← hv, dnlt, bsel_false])).1
  rw [Nat.sub_zero, run_map] at e
  replace e : loopM (i_SingularOf_s1 v) ([], 0) = some (.inl ((List.range n).map fun j => rootN (v.getD j none))) := e
  rw [e]
  congr 2
  apply List.ext_getElem
  · simp [hv]
  · intro i h1 h2
    have hi : i < v.length := by simpa using h2
    simp [List.getD_eq_getElem?_getD, List.getElem?_eq_getElem hi]
theorem SingularOf_eq (a0 a1 : Int) (a2 : List F) (a3 : Int) (g : FOks a2) (s2 : a2.length ≤ 1048576) : ∃ b l, s_SingularOf a0 a1 a2 a3 = some (b, l) ∧ i_SingularOf a0 a1 a2 a3 = some (b, l) ∧ l.length ≤ 1048576 := by
  unfold s_SingularOf i_SingularOf i_SideTurns s_l04Tall i_isTall s_l04Rounds i_isRounds
  rw [s_l02Is_eq a0 a1 g s2, i_ValidMatrix_eq a0 a1 g s2, obind_eq, obind_eq]
  cases hv : validM a0 a1 a2 with
  | false => exact ⟨_, _, rfl, rfl, by simp⟩
  | true =>
    rw [bsel_true, bsel_true]
    cases hle : decide (a1 ≤ a0) with
    | false => exact ⟨_, _, rfl, rfl, by simp⟩
    | true =>
      rw [bsel_true, s_l00In_eq, i_inRange_eq, obind_eq, obind_eq, obind_eq, obind_eq, bsel_true, obind_eq]
      cases hr : decide (0 ≤ a3) && decide (a3 ≤ 64) with
      | false => exact ⟨_, _, rfl, rfl, by simp⟩
      | true =>
        rw [bsel_true, bsel_true]
        simp only [Bool.and_eq_true, decide_eq_true_eq] at hr
        obtain ⟨A, C, rfl, rfl, A0, C0, m, f⟩ := valid_mat hv
        obtain ⟨q, rfl⟩ : ∃ q : Nat, a3 = (q : Int) := ⟨a3.toNat, by omega⟩
        have hC := m.C1
        have hI : SInv A C (a2, tabM C C unitF) := ⟨m, g, tabM_mat hC hC, tabM_oks hC hC unitF_ok⟩
        obtain ⟨e1, e2⟩ := s_l04Side_all (a := a2) (b := tabM C C unitF) q hI m.len (tabM_mat hC hC).len A0 (by omega)
        obtain ⟨e3, _⟩ := i_SideTurns_all (a := a2) (b := tabM C C unitF) q hI m.len (tabM_mat hC hC).len A0 (by omega)
        unfold s_l04Side
        rw [s_l02Own_eq _ _ s2, i_Matrix_clone_eq _ _ s2, obind3_eq, obind3_eq, s_l02Unit_eq hC, i_unit_eq hC, obind3_eq, obind3_eq, e1, e3, obind_eq, obind_eq]
        cases hx : runE (fun _ s => sdRound A C s) 0 q (a2, tabM C C unitF) with
        | inr r =>
          have : r = sdFail := runE_ret (P := fun r => r = sdFail) (fun _ _ _ h => sdRound_ret h) hx
          subst this
          exact ⟨_, _, rfl, rfl, by simp⟩
        | inl s' =>
          have hJ := e2 s' hx
          have hl : (sqL A C s'.1).length = C := sqL_len
          have hg : FOks (sqL A C s'.1) := sqL_oks
          have hN : ∀ c ∈ sqL A C s'.1, NN c := fun c hc => by
            obtain ⟨k, _, rfl⟩ := List.mem_map.1 hc
            exact colDot_nn _ _ _ _
          have lS : (singS (sqL A C s'.1) C).length = C := by simp [singS, ordL_len]
          have lP : (sortG none ltS ((sqL A C s'.1).map rootN) C).length = C := sortG_len _
          have lM : ((sqL A C s'.1).map rootN).length = C := by simp [hl]
          have gS : FOks (singS (sqL A C s'.1) C) := fun c hc => by
            obtain ⟨k, hk, rfl⟩ := List.mem_map.1 hc
            have hk := ordL_names (v := sqL A C s'.1) (m := C) C (Nat.le_refl _) k (List.mem_reverse.1 hk)
            exact rootN_ok (hg _ (vget_mem hk.1 (by omega)))
          have pP : (sortG none ltS ((sqL A C s'.1).map rootN) C).Perm ((sqL A C s'.1).map rootN) := by
            have := sortG_perm (d := none) (lt := ltS) (L := (sqL A C s'.1).map rootN) C (by omega)
            rwa [List.take_of_length_le (by omega)] at this
          have gP : FOks (sortG none ltS ((sqL A C s'.1).map rootN) C) := fun c hc => by
            obtain ⟨k, hk, rfl⟩ := List.mem_map.1 (pP.mem_iff.1 hc)
            exact rootN_ok (hg _ hk)
          have fS := perm_fin (singS_perm (v := sqL A C s'.1) (n := C) hl)
          have fP := perm_fin pP
          have hS : s_SingularOf_k1 (singS (sqL A C s'.1) C) = some (bif ((sqL A C s'.1).map rootN).all fin32 then (true, singS (sqL A C s'.1) C) else (false, [])) := by
            unfold s_SingularOf_k1 s_l02List_0o
            rw [s_l02Finite_eq gS (by omega), fS, obind_eq]
            cases ((sqL A C s'.1).map rootN).all fin32 with
            | true => rw [bsel_true, obind_eq, osum_inl, obind2_eq, decide_eq_true rfl, need_true]; rfl
            | false => rw [bsel_false, obind_eq, osum_inr, obind3_eq, decide_eq_true rfl, need_true]; rfl
          have hP : i_SingularOf_k1 ((sqL A C s'.1).map rootN) = some (bif ((sqL A C s'.1).map rootN).all fin32 then (true, sortG none ltS ((sqL A C s'.1).map rootN) C) else (false, [])) := by
            unfold i_SingularOf_k1 i_allFinite_0o
            rw [x_slices_SortStableFunc_float32_float32_0o_1Fi_SingularOf_1_eq lM C0 hC, obind_eq, lP, lM, decide_eq_true rfl, need_true, i_areFinite_eq gP (by omega), fP, obind_eq]
            cases ((sqL A C s'.1).map rootN).all fin32 with
            | true => rw [bsel_true, obind_eq, osum_inl, obind2_eq, lP, decide_eq_true rfl, need_true]; rfl
            | false => rw [bsel_false, obind_eq, osum_inr, obind3_eq, lP, decide_eq_true rfl, need_true]; rfl
          show ∃ b l, obind (s_l04Squares _ _ _) _ = _ ∧ (obind (i_Matrix_columnSquares _ _ _) _ = _ ∧ _)
          rw [s_l04Squares_eq hJ.m, i_Matrix_columnSquares_eq hJ.m, obind_eq, obind_eq, s_l04Order_eq (by omega), hl, obind_eq, ordL_len, show IntKind.i64.wrap ((C : Int) - 1) = (C : Int) - 1 from wrap_i64 (by omega) (by omega), olet_eq, s_SingularOf_loop hl hg hC, i_SingularOf_loop hl hg hC, obind_eq, obind_eq, osum_inl, osum_inl, hS, hP]
          cases hf : ((sqL A C s'.1).map rootN).all fin32 with
          | true =>
            rw [cond_true, cond_true, sing_eq hl hg hN hf]
            exact ⟨_, _, rfl, rfl, by omega⟩
          | false => exact ⟨_, _, rfl, rfl, by simp⟩
theorem w_FnExactSingularOf_true (a0 : Int) (a1 : Int) (a2 : List F) (a3 : Int) (s_a2 : Small a2) (g_a2 : FOks a2) : w_FnExactSingularOf a0 a1 a2 a3 = some true := by
  obtain ⟨l0, e0, h0⟩ := w_szFloat32S_ex a2 1048576 s_a2 (by omega) (by omega)
  rcases Int.lt_or_le l0 0 with c0 | c0
  · simp [w_FnExactSingularOf, w_eqMatrix, w_markMatrix_02o, w_szMatrix, w_toMatrix, e0, c0]
  have d0 : decide (l0 < 0) = false := by simp; omega
  have t0 := h0 c0
  have t_a2 : a2.length ≤ 1048576 := by omega
  have f1 : w_toFloat32S a2 = some a2 := w_toFloat32S_eq a2 t_a2
  obtain ⟨z0, z1, p1, p2, b_z1⟩ := SingularOf_eq a0 a1 a2 a3 g_a2 t_a2
  have f2 : w_eqFloat32S z1 z1 = some true := w_eqFloat32S_refl z1 b_z1
  have f3 : (!(z0 == z0)) = false := by cases z0 <;> rfl
  have f4 : w_eqFloat32S a2 a2 = some true := w_eqFloat32S_refl a2 t_a2
  have f5 : w_markFloat32S_0o 1 a2 = some ((1 + (a2.length : Int)), marks 1 a2.length) := w_markFloat32S_0o_eq 1 a2 (by omega) (by omega) t_a2
  have f6 : decide ((1 + (a2.length : Int)) < 0) = false := by simp <;> omega
  have f7 : w_markFloat32S_0o 1 z1 = some ((1 + (z1.length : Int)), marks 1 z1.length) := w_markFloat32S_0o_eq 1 z1 (by omega) (by omega) b_z1
  have f8 : w_heldFloat32S (marks 1 z1.length) 1 = some (1 + (z1.length : Int)) := w_heldFloat32S_eq 1 z1.length (by omega) (by omega) b_z1
  have f9 : decide ((1 + (z1.length : Int)) < 0) = false := by simp <;> omega
  simp only [w_FnExactSingularOf, w_eqMatrix, w_markMatrix_02o, w_szMatrix, w_toMatrix, e0, d0, f1, p1, p2, f2, f3, f4, f5, f6, f7, f8, f9, obind_eq, obind2_eq, obind3_eq, obind4_eq, obind5_eq, obind6_eq, obind7_eq, obind8_eq, bsel_true, bsel_false, need_true, olet_eq, marks_len, marksI_len, decide_true, Bool.not_true, Bool.not_false]

end Go.Proofs.Ytcoookgeialmnaa
