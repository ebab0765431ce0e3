/- The plain law of FnExactFactorBoth. -/
import Derived.Test.YtjbifkimffmhpaaG2
namespace Go.Proofs.Ytjbifkimffmhpaa
set_option linter.unusedSimpArgs false
set_option linter.unusedVariables false
open Go Go.AM
def Small {α : Type} (l : List α) : Prop := l.length ≤ 9223372036854775807
theorem sz_one (n : Nat) (a : Int) (hn : n ≤ 9223372036854775807) (h0 : 0 ≤ a) (h1 : a ≤ 1048576) :
    ∃ r, olet (IntKind.i64.wrap (a - (n : Int))) (fun x1 => bsel (decide (x1 < 0)) (some (-1)) (some x1)) = some r ∧ (0 ≤ r → (n : Int) ≤ a ∧ r ≤ a) := by
  rw [wrap_i64 (by omega) (by omega)]
  simp only [olet_eq, bsel_if, decide_eq_true_eq]
  split
  · exact ⟨_, rfl, fun h => by omega⟩
  · exact ⟨_, rfl, fun h => by omega⟩
theorem w_szFloat32S_ex (l : List F) (a : Int) (hn : Small l) (h0 : 0 ≤ a) (h1 : a ≤ 1048576) : ∃ r, w_szFloat32S l a = some r ∧ (0 ≤ r → (l.length : Int) ≤ a ∧ r ≤ a) := sz_one l.length a hn h0 h1
theorem w_toFloat32S_eq (a : List F) (h : a.length ≤ 1048576) : w_toFloat32S a = some a := by
  unfold w_toFloat32S
  have hm : mkok 4 (a.length : Int) = true := by simp [mkok]; omega
  rw [hm, need_true, loop_copy (a := a) (ρ := List F) ?_ ?_ _ (by simp)]
  · rfl
  · intro L v x h0 hv hx hL
    show w_toFloat32S_b1 a L v = _
    unfold w_toFloat32S_b1
    have hs := setAt?_of (l := L) (x := x) h0 (by omega)
    simp [bsel_if, hv, at?_of h0 hx, hs, wrap_succ h0 hv (by omega : a.length ≤ 9223372036854775807)]
  · intro L hL
    show w_toFloat32S_b1 a L (a.length : Int) = _
    unfold w_toFloat32S_b1
    simp [bsel_if]
theorem w_sameFloat_refl (c : F) : w_sameFloat c c = some true := by
  unfold w_sameFloat
  cases h : feq .f64 c c <;> simp [w_sameFloat_k1, h, bsel_if]
theorem w_eqFloat32S_refl (a : List F) (h : a.length ≤ 1048576) : w_eqFloat32S a a = some true := by
  unfold w_eqFloat32S
  rw [loop_eq (l := a) (m := a) rfl ?_ ?_]
  · simp [bsel_if, w_eqFloat32S_k1]
  · intro v x y h0 hv hx hy
    rw [hx] at hy; cases hy
    show w_eqFloat32S_b1 a a v = _
    unfold w_eqFloat32S_b1
    rw [at?_of h0 hx, wrap_succ h0 hv (by omega)]
    simp [bsel_if, hv, w_sameFloat_refl]
  · show w_eqFloat32S_b1 a a (a.length : Int) = _
    unfold w_eqFloat32S_b1
    simp [bsel_if]
theorem w_eqInt64S_refl (a : List Int) (h : a.length ≤ 1048576) : w_eqInt64S a a = some true := by
  unfold w_eqInt64S
  rw [loop_eq (l := a) (m := a) rfl ?_ ?_]
  · simp [bsel_if, w_eqInt64S_k1]
  · intro v x y h0 hv hx hy
    rw [hx] at hy; cases hy
    show w_eqInt64S_b1 a a v = _
    unfold w_eqInt64S_b1
    rw [at?_of h0 hx, wrap_succ h0 hv (by omega)]
    simp [bsel_if, hv]
  · show w_eqInt64S_b1 a a (a.length : Int) = _
    unfold w_eqInt64S_b1
    simp [bsel_if]
def FOks (l : List F) : Prop := ∀ c ∈ l, FOk .f32 c
theorem FOks.at {l : List F} (h : FOks l) {i : Nat} {c : F} (e : l[i]? = some c) : FOk .f32 c := h c (List.mem_of_getElem? e)
theorem s_l00In_eq (n lo hi : Int) : s_l00In n lo hi = some (decide (lo ≤ n) && decide (n ≤ hi)) := by
  unfold s_l00In; cases decide (lo ≤ n) <;> rfl
theorem i_inRange_eq (n lo hi : Int) : i_inRange n lo hi = some (decide (lo ≤ n) && decide (n ≤ hi)) := by
  unfold i_inRange; cases decide (lo ≤ n) <;> rfl
theorem s_l01Finite_eq {c : F} (h : FOk .f32 c) : s_l01Finite c = some (fin32 c) := by
  unfold s_l01Finite; rw [olet_eq, sub_self h]
theorem s_l02Finite_eq {a : List F} (ha : FOks a) (sa : a.length ≤ 1048576) : s_l02Finite a = some (a.all fin32) := by
  unfold s_l02Finite
  rw [loop_all (l := a) (p := fin32) false ?_ ?_]
  · cases h : a.all fin32 <;> simp [s_l02Finite_k1]
  · intro v x h0 hv hx
    show s_l02Finite_b1 a v = _
    unfold s_l02Finite_b1
    rw [at?_of h0 hx, wrap_succ h0 hv (by omega)]
    simp [bsel_if, hv, s_l01Finite_eq (ha.at hx)]
  · show s_l02Finite_b1 a (a.length : Int) = _
    unfold s_l02Finite_b1
    simp [bsel_if]
theorem i_IsFinite_eq {c : F} (h : FOk .f32 c) : i_IsFinite c = some (fin32 c) := by
  unfold i_IsFinite i_isFinite64 x_math_IsNaN x_math_IsInf x_math_Abs x_math_IsInf_k1
  cases c with
  | none => simp [fwiden, fin32]
  | some b =>
    have hw := feq_refl (k := .f64) (b := FloatKind.f64.encode (FloatKind.f32.decode b)) (fwiden_ok h)
    have hw' : feq .f64 (fwiden (some b)) (fwiden (some b)) = true := hw
    have hm := fabs_max h (by simp)
    simp only [olet_eq, obind_eq, hw', Bool.not_true, bsel_false, decide_true, bsel_true, hm, Bool.not_not]
theorem i_areFinite_1_eq {c : F} (h : FOk .f32 c) : i_areFinite_1 c = some (!fin32 c) := by
  unfold i_areFinite_1; rw [i_IsFinite_eq h]; rfl
theorem any_not {α : Type} (l : List α) (p : α → Bool) : l.any (fun x => !p x) = !l.all p := by
  induction l with
  | nil => rfl
  | cons a l ih => simp [ih]
theorem i_areFinite_eq {a : List F} (ha : FOks a) (sa : a.length ≤ 1048576) : i_areFinite a = some (a.all fin32) := by
  unfold i_areFinite x_slices_ContainsFunc_float32_float32_1Fi_areFinite_1 x_slices_IndexFunc_float32_float32_1Fi_areFinite_1
  obtain ⟨r, h1, h2⟩ := loop_find (l := a) (p := fun c => !fin32 c) (step := x_slices_IndexFunc_float32_float32_1Fi_areFinite_1_s1 a) (by
    intro v x h0 hv hx
    show x_slices_IndexFunc_float32_float32_1Fi_areFinite_1_b1 a v = _
    unfold x_slices_IndexFunc_float32_float32_1Fi_areFinite_1_b1
    rw [at?_of h0 hx, wrap_succ h0 hv (by omega)]
    simp [bsel_if, hv, i_areFinite_1_eq (ha.at hx)]) (by
    show x_slices_IndexFunc_float32_float32_1Fi_areFinite_1_b1 a (a.length : Int) = _
    unfold x_slices_IndexFunc_float32_float32_1Fi_areFinite_1_b1
    simp [bsel_if])
  rw [h1, any_not]
  cases h : a.all fin32 <;> simp [x_slices_IndexFunc_float32_float32_1Fi_areFinite_1_k1, h2]
theorem fint_ok (n : Int) : FOk .f32 (fint .f32 n) := ⟨_, encode_FR .f32 (d := .number (n < 0) n.natAbs 0) rfl⟩
theorem feq_fint (n : Int) : feq .f32 (fint .f32 n) (fint .f32 n) = true := feq_refl (fint_ok n)
def marks (k : Int) (n : Nat) : List F := (List.range n).map fun (i : Nat) => fint .f32 (k + (i : Int))
def marksI (k : Int) (n : Nat) : List Int := (List.range n).map fun (i : Nat) => k + (i : Int)
theorem marks_len (k : Int) (n : Nat) : (marks k n).length = n := by simp [marks]
theorem marksI_len (k : Int) (n : Nat) : (marksI k n).length = n := by simp [marksI]
theorem loop_mark {α ρ : Type} (mk : Int → α) (k : Int) (n : Nat) {step : List α × Int × Int → Option (LR (List α × Int × Int) (List α × Int) ρ)}
    (hstep : ∀ (L : List α) (i : Nat), i < n → L.length = n → step (L, k + (i : Int), (i : Int)) = some (.next (L.set i (mk (k + (i : Int))), k + ((i + 1 : Nat) : Int), ((i + 1 : Nat) : Int))))
    (hend : ∀ L : List α, L.length = n → step (L, k + (n : Int), (n : Int)) = some (.out (L, k + (n : Int)))) (a : List α) (ha : a.length = n) :
    loopM step (a, k, 0) = some (.inl ((List.range n).map (fun (i : Nat) => mk (k + (i : Int))), k + (n : Int))) := by
  have key : ∀ (m i : Nat) (L : List α), m + i = n → L.length = n → L.take i = (List.range i).map (fun (i : Nat) => mk (k + (i : Int))) → loopM step (L, k + (i : Int), (i : Int)) = some (.inl ((List.range n).map (fun (i : Nat) => mk (k + (i : Int))), k + (n : Int))) := by
    intro m
    induction m with
    | zero =>
      intro i L hi hL ht
      have : i = n := by omega
      subst this
      rw [loopM_out (hend L hL), ← ht, ← hL, List.take_length]
    | succ m ih =>
      intro i L hi hL ht
      rw [loopM_next (hstep L i (by omega) hL)]
      refine ih (i + 1) _ (by omega) (by simpa using hL) ?_
      rw [List.take_succ_eq_append_getElem (by simp; omega), List.take_set_of_le (Nat.le_refl _), ht, List.range_succ, List.map_append]
      simp
  have := key n 0 a (by omega) ha (by simp)
  simpa using this
theorem w_markFloat32S_0o_eq (k : Int) (a : List F) (h0 : -1000000000 ≤ k) (h1 : k ≤ 1000000000) (ha : a.length ≤ 1048576) : w_markFloat32S_0o k a = some (k + (a.length : Int), marks k a.length) := by
  unfold w_markFloat32S_0o
  rw [loop_mark (fun n => fint .f32 n) k a.length (step := w_markFloat32S_0o_s1 a) ?_ ?_ a rfl]
  · rfl
  · intro L i hi hL
    show w_markFloat32S_0o_b1 a L (k + (i : Int)) (i : Int) = _
    unfold w_markFloat32S_0o_b1
    have hs := setAt?_of (l := L) (v := (i : Int)) (x := fint .f32 (k + (i : Int))) (by omega) (by omega)
    have e1 : IntKind.i64.wrap (k + (i : Int) + 1) = k + ((i + 1 : Nat) : Int) := by rw [wrap_i64 (by omega) (by omega)]; omega
    have e2 : IntKind.i64.wrap ((i : Int) + 1) = ((i + 1 : Nat) : Int) := by rw [wrap_i64 (by omega) (by omega)]; omega
    simp only [olet_eq, hs, obind_eq, e1, e2, bsel_if, decide_eq_true_eq]
    rw [if_pos (by omega)]
    rfl
  · intro L hL
    show w_markFloat32S_0o_b1 a L (k + (a.length : Int)) (a.length : Int) = _
    unfold w_markFloat32S_0o_b1
    simp [bsel_if]
theorem w_markInt64S_0o_eq (k : Int) (a : List Int) (h0 : -1000000000 ≤ k) (h1 : k ≤ 1000000000) (ha : a.length ≤ 1048576) : w_markInt64S_0o k a = some (k + (a.length : Int), marksI k a.length) := by
  unfold w_markInt64S_0o
  rw [loop_mark (fun n => n) k a.length (step := w_markInt64S_0o_s1 a) ?_ ?_ a rfl]
  · rfl
  · intro L i hi hL
    show w_markInt64S_0o_b1 a L (k + (i : Int)) (i : Int) = _
    unfold w_markInt64S_0o_b1
    have hs := setAt?_of (l := L) (v := (i : Int)) (x := k + (i : Int)) (by omega) (by omega)
    have e1 : IntKind.i64.wrap (k + (i : Int) + 1) = k + ((i + 1 : Nat) : Int) := by rw [wrap_i64 (by omega) (by omega)]; omega
    have e2 : IntKind.i64.wrap ((i : Int) + 1) = ((i + 1 : Nat) : Int) := by rw [wrap_i64 (by omega) (by omega)]; omega
    simp only [olet_eq, hs, obind_eq, e1, e2, bsel_if, decide_eq_true_eq]
    rw [if_pos (by omega)]
    rfl
  · intro L hL
    show w_markInt64S_0o_b1 a L (k + (a.length : Int)) (a.length : Int) = _
    unfold w_markInt64S_0o_b1
    simp [bsel_if]
theorem loop_held {k : Int} {n : Nat} {step : Int × Int → Option (LR (Int × Int) Int Int)}
    (hstep : ∀ i : Nat, i < n → step (k + (i : Int), (i : Int)) = some (.next (k + ((i + 1 : Nat) : Int), ((i + 1 : Nat) : Int)))) (hend : step (k + (n : Int), (n : Int)) = some (.out (k + (n : Int)))) :
    loopM step (k, 0) = some (.inl (k + (n : Int))) := by
  have key : ∀ (m i : Nat), m + i = n → loopM step (k + (i : Int), (i : Int)) = some (.inl (k + (n : Int))) := by
    intro m
    induction m with
    | zero => intro i hi; have : i = n := by omega
              subst this; exact loopM_out hend
    | succ m ih => intro i hi; rw [loopM_next (hstep i (by omega))]; exact ih (i + 1) (by omega)
  have := key n 0 (by omega)
  simpa using this
theorem w_heldFloat32S_eq (k : Int) (n : Nat) (h0 : -1000000000 ≤ k) (h1 : k ≤ 1000000000) (hn : n ≤ 1048576) : w_heldFloat32S (marks k n) k = some (k + (n : Int)) := by
  unfold w_heldFloat32S
  rw [loop_held (k := k) (n := n) (step := w_heldFloat32S_s1 (marks k n)) ?_ ?_]
  · rfl
  · intro i hi
    show w_heldFloat32S_b1 (marks k n) (k + (i : Int)) (i : Int) = _
    unfold w_heldFloat32S_b1
    have hx : (marks k n)[(i : Int).toNat]? = some (fint .f32 (k + (i : Int))) := by simp [marks, hi]
    have e1 : IntKind.i64.wrap (k + (i : Int) + 1) = k + ((i + 1 : Nat) : Int) := by rw [wrap_i64 (by omega) (by omega)]; omega
    have e2 : IntKind.i64.wrap ((i : Int) + 1) = ((i + 1 : Nat) : Int) := by rw [wrap_i64 (by omega) (by omega)]; omega
    rw [at?_of (by omega) hx]
    simp only [olet_eq, obind_eq, e1, e2, bsel_if, decide_eq_true_eq, marks_len, feq_fint]
    rw [if_pos (by omega)]
    simp
  · show w_heldFloat32S_b1 (marks k n) (k + (n : Int)) (n : Int) = _
    unfold w_heldFloat32S_b1
    simp [bsel_if, marks_len]
theorem w_heldInt64S_eq (k : Int) (n : Nat) (h0 : -1000000000 ≤ k) (h1 : k ≤ 1000000000) (hn : n ≤ 1048576) : w_heldInt64S (marksI k n) k = some (k + (n : Int)) := by
  unfold w_heldInt64S
  rw [loop_held (k := k) (n := n) (step := w_heldInt64S_s1 (marksI k n)) ?_ ?_]
  · rfl
  · intro i hi
    show w_heldInt64S_b1 (marksI k n) (k + (i : Int)) (i : Int) = _
    unfold w_heldInt64S_b1
    have hx : (marksI k n)[(i : Int).toNat]? = some (k + (i : Int)) := by simp [marksI, hi]
    have e1 : IntKind.i64.wrap (k + (i : Int) + 1) = k + ((i + 1 : Nat) : Int) := by rw [wrap_i64 (by omega) (by omega)]; omega
    have e2 : IntKind.i64.wrap ((i : Int) + 1) = ((i + 1 : Nat) : Int) := by rw [wrap_i64 (by omega) (by omega)]; omega
    rw [at?_of (by omega) hx]
    simp only [olet_eq, obind_eq, e1, e2, bsel_if, decide_eq_true_eq, marksI_len]
    rw [if_pos (by omega)]
    simp
  · show w_heldInt64S_b1 (marksI k n) (k + (n : Int)) (n : Int) = _
    unfold w_heldInt64S_b1
    simp [bsel_if, marksI_len]
theorem small_mul {x y : Nat} (hx : x ≤ 12) (hy : y ≤ 12) : x * y ≤ 144 := Nat.mul_le_mul hx hy
def side (n : Int) : Bool := decide (1 ≤ n) && decide (n ≤ 12)
theorem s_l02Sides_eq (x y : Int) : s_l02Sides x y = some (side x && side y) := by
  unfold s_l02Sides; rw [s_l00In_eq, s_l00In_eq]; unfold side
  cases decide (1 ≤ x) <;> cases decide (x ≤ 12) <;> rfl
theorem i_isSide_eq (x : Int) : i_isSide x = some (side x) := by
  unfold i_isSide; rw [i_inRange_eq]; rfl
def validM (a0 a1 : Int) (a2 : List F) : Bool := side a0 && side a1 && decide ((a2.length : Int) = IntKind.i64.wrap (a0 * a1)) && a2.all fin32
theorem s_l02Is_eq (a0 a1 : Int) {a2 : List F} (g2 : FOks a2) (s2 : a2.length ≤ 1048576) : s_l02Is a0 a1 a2 = some (validM a0 a1 a2) := by
  unfold s_l02Is validM
  rw [s_l02Sides_eq, s_l02Finite_eq g2 s2]
  cases side a0 <;> cases side a1 <;> simp [bsel_if] <;> split <;> simp_all
theorem i_ValidMatrix_eq (a0 a1 : Int) {a2 : List F} (g2 : FOks a2) (s2 : a2.length ≤ 1048576) : i_ValidMatrix a0 a1 a2 = some (validM a0 a1 a2) := by
  unfold i_ValidMatrix i_length_float32 validM
  rw [i_isSide_eq, i_isSide_eq, i_areFinite_eq g2 s2]
  cases side a0 <;> cases side a1 <;> simp [bsel_if] <;> split <;> simp_all
theorem side_nat {n : Int} (h : side n = true) : ∃ m : Nat, n = (m : Int) ∧ 0 < m ∧ m ≤ 12 := by
  simp [side] at h
  exact ⟨n.toNat, by omega, by omega, by omega⟩
theorem FOks.getD {l : List F} (h : FOks l) (n : Nat) : FOk .f32 (l.getD n none) := by
  simp only [List.getD]
  cases e : l[n]? with
  | none => exact fok_none _
  | some c => exact h.at e
theorem FOks.set {l : List F} (h : FOks l) {n : Nat} {x : F} (hx : FOk .f32 x) : FOks (l.set n x) := by
  intro c hc
  rcases List.mem_or_eq_of_mem_set hc with h1 | h1
  · exact h c h1
  · exact h1 ▸ hx
theorem wsucc {i : Nat} (h : i ≤ 1000000000) : IntKind.i64.wrap ((i : Int) + 1) = ((i + 1 : Nat) : Int) := by
  rw [wrap_i64 (by omega) (by omega)]; omega
theorem dlt {i n : Nat} (h : i < n) : decide ((i : Int) < (n : Int)) = true := by simp; omega
theorem dnlt {n : Nat} : decide ((n : Int) < (n : Int)) = false := by simp
theorem i_Matrix_at_eq {A C i k : Nat} {L : List F} (r : Int) (h : Mat A C L) (hi : i < A) (hk : k < C) : i_Matrix_at r (C : Int) L (i : Int) (k : Int) = some (gm none L C i k) := by
  obtain ⟨e1, e2⟩ := idx_w h.A1 h.C1 hi hk
  unfold i_Matrix_at
  rw [e1, olet_eq, e2, olet_eq, at?_n none (h.lt hi hk), obind_eq]
theorem s_l02At_eq {A C i k : Nat} {L : List F} (r : Int) (h : Mat A C L) (hi : i < A) (hk : k < C) : s_l02At r (C : Int) L (i : Int) (k : Int) = some (gm none L C i k) := by
  obtain ⟨e1, e2⟩ := idx_w h.A1 h.C1 hi hk
  unfold s_l02At
  rw [e1, olet_eq, e2, olet_eq, at?_n none (h.lt hi hk), obind_eq]
theorem i_Matrix_set_02o_eq {A C i k : Nat} {L : List F} (r : Int) (h : Mat A C L) (hi : i < A) (hk : k < C) (x : F) : i_Matrix_set_02o r (C : Int) (i : Int) (k : Int) x L = some (sm L C i k x) := by
  obtain ⟨e1, e2⟩ := idx_w h.A1 h.C1 hi hk
  unfold i_Matrix_set_02o
  rw [e1, olet_eq, e2, olet_eq, setAt?_n x (h.lt hi hk), obind_eq]
theorem i_absolute_eq {c : F} (h : FOk .f32 c) : i_absolute c = some (fabs32 c) := by
  unfold i_absolute x_math_Abs
  rw [olet_eq, olet_eq, obind_eq, abs_narrow h, obind_eq]
theorem s_l02Size_eq {c : F} (h : FOk .f32 c) : s_l02Size c = some (fabs32 c) := by
  unfold s_l02Size
  rw [← size_abs h, bsel_if, olet_eq]
  split <;> rfl
theorem i_mul_eq (a b : F) : i_mul a b = some (fop .mul .f32 a b) := rfl
def swapP {α : Type} (d : α) (C i j c : Nat) (L : List α) : List α := sm (sm L C i c (gm d L C j c)) C j c (gm d L C i c)
theorem swapP_mat {α : Type} {d : α} {A C i j c : Nat} {L : List α} (h : Mat A C L) : Mat A C (swapP d C i j c L) := (h.set _ _ _).set _ _ _
theorem swapP_oks {C i j c : Nat} {L : List F} (h : FOks L) : FOks (swapP none C i j c L) := (h.set (h.getD _)).set (h.getD _)
theorem swapP_comm {α : Type} {d : α} {A C i j c : Nat} {L : List α} (h : Mat A C L) (hi : i < A) (hj : j < A) (hc : c < C) : swapP d C i j c L = swapP d C j i c L := by
  unfold swapP
  by_cases e : i = j
  · subst e; rfl
  · have hne : i * C + c ≠ j * C + c := fun e2 => e (idx_eq hc hc e2).1
    exact List.set_comm _ _ hne
def swapR {α : Type} (d : α) (C i j : Nat) (L : List α) : List α := run (swapP d C i j) 0 C L
theorem swapR_mat {α : Type} {d : α} {A C i j : Nat} {L : List α} (h : Mat A C L) : Mat A C (swapR d C i j L) := run_inv (fun _ L => Mat A C L) C 0 L h fun _ _ _ _ h => swapP_mat h
theorem swapR_oks {C i j : Nat} {L : List F} (h : FOks L) : FOks (swapR none C i j L) := run_inv (fun _ L => FOks L) C 0 L h fun _ _ _ _ h => swapP_oks h
theorem swapR_comm {α : Type} {d : α} {A C i j : Nat} {L : List α} (h : Mat A C L) (hi : i < A) (hj : j < A) : swapR d C i j L = swapR d C j i L :=
  run_congr (fun _ L => Mat A C L) C 0 L h fun c L _ hc hL => ⟨swapP_comm hL hi hj (by omega), swapP_mat hL⟩
theorem getD_of_lt {α : Type} {l : List α} {n : Nat} (d : α) (h : n < l.length) : l[n]? = some (l.getD n d) := by simp [List.getD, h]
theorem fin_all {L : List F} : L.all fin32 = true ↔ ∀ n, n < L.length → fin32 (L.getD n none) = true := by
  rw [List.all_eq_true]
  constructor
  · intro h n hn; exact h _ (List.mem_of_getElem? (getD_of_lt none hn))
  · intro h c hc
    obtain ⟨n, hn, e⟩ := List.mem_iff_getElem.1 hc
    have := h n hn
    simpa [List.getD, hn, e] using this
theorem fin_set {L : List F} (h : L.all fin32 = true) {n : Nat} {x : F} (hx : fin32 x = true) : (L.set n x).all fin32 = true := by
  rw [List.all_eq_true] at h ⊢
  intro c hc
  rcases List.mem_or_eq_of_mem_set hc with h1 | h1
  · exact h c h1
  · exact h1 ▸ hx
theorem swapP_fin {A C i j c : Nat} {L : List F} (m : Mat A C L) (hi : i < A) (hj : j < A) (hc : c < C) (h : L.all fin32 = true) : (swapP none C i j c L).all fin32 = true :=
  fin_set (fin_set h (fin_all.1 h _ (m.lt hj hc))) (fin_all.1 h _ (m.lt hi hc))
theorem swapR_fin {A C i j : Nat} {L : List F} (m : Mat A C L) (hi : i < A) (hj : j < A) (h : L.all fin32 = true) : (swapR none C i j L).all fin32 = true :=
  (run_inv (fun _ L => Mat A C L ∧ L.all fin32 = true) C 0 L ⟨m, h⟩ fun _ _ _ hc h => ⟨swapP_mat h.1, swapP_fin h.1 hi hj (by omega) h.2⟩).2
theorem i_Matrix_swapRows_02o_eq {A C i j : Nat} {L : List F} (h : Mat A C L) (hi : i < A) (hj : j < A) : i_Matrix_swapRows_02o (A : Int) (C : Int) (i : Int) (j : Int) L = some (swapR none C i j L) := by
  have hC := h.C1
  obtain ⟨e, _⟩ := loop_run (step := i_Matrix_swapRows_02o_s1 (A : Int) (C : Int) (i : Int) (j : Int) L) (fun c L => (L, (c : Int))) (swapP none C i j) (fun L => L) (fun _ L' => Mat A C L') (lo := 0) (n := C) (Nat.zero_le _) (s0 := L) h
    (fun c L' h1 h2 h3 => by
      refine ⟨?_, swapP_mat h3⟩
      show i_Matrix_swapRows_02o_b1 _ _ _ _ _ _ _ = _
      unfold i_Matrix_swapRows_02o_b1
      have l1 : decide ((sm L' C i c (gm none L' C j c)).length = L.length) = true := by simp [h3.len, h.len]
      have l2 : decide ((sm (sm L' C i c (gm none L' C j c)) C j c (gm none L' C i c)).length = L.length) = true := by simp [h3.len, h.len]
      rw [dlt h2, bsel_true, i_Matrix_at_eq _ h3 hi h2, obind_eq, i_Matrix_at_eq _ h3 hj h2, obind_eq, i_Matrix_set_02o_eq _ h3 hi h2, obind_eq, l1, need_true, i_Matrix_set_02o_eq _ (h3.set _ _ _) hj h2, obind_eq, l2, need_true, wsucc (by omega)]
      rfl)
    (fun L' _ => by
      show i_Matrix_swapRows_02o_b1 _ _ _ _ _ _ _ = _
      unfold i_Matrix_swapRows_02o_b1
      rw [dnlt, bsel_false])
  unfold i_Matrix_swapRows_02o
  replace e : loopM (i_Matrix_swapRows_02o_s1 (A : Int) (C : Int) (i : Int) (j : Int) L) (L, 0) = some (.inl (run (swapP none C i j) 0 (C - 0) L)) := e
  rw [e]; rfl
theorem s_l03Swap_0p0_C02o1_3o2_eq {A C i j : Nat} {L : List F} (ord : List Int) (h : Mat A C L) (hi : i < A) (hj : j < A) : s_l03Swap_0p0_C02o1_3o2 (i : Int) (j : Int) (A : Int) (C : Int) L ord = some (swapR none C i j L, ord) := by
  have hC := h.C1
  obtain ⟨e, _⟩ := loop_run (step := s_l03Swap_0p0_C02o1_3o2_s1 (i : Int) (j : Int) (C : Int)) (fun c L => (L, (c : Int))) (swapP none C i j) (fun L => L) (fun _ L' => Mat A C L') (lo := 0) (n := C) (Nat.zero_le _) (s0 := L) h
    (fun c L' h1 h2 h3 => by
      refine ⟨?_, swapP_mat h3⟩
      show s_l03Swap_0p0_C02o1_3o2_b1 _ _ _ _ _ = _
      unfold s_l03Swap_0p0_C02o1_3o2_b1
      obtain ⟨e1, e2⟩ := idx_w h.A1 h.C1 hi h2
      obtain ⟨e3, e4⟩ := idx_w h.A1 h.C1 hj h2
      rw [dlt h2, bsel_true]
      simp only [e1, e2, e3, e4, olet_eq, at?_n none (h3.lt hi h2), at?_n none (h3.lt hj h2), obind_eq, setAt?_n _ (h3.lt hi h2), setAt?_n _ ((h3.set _ _ _).lt hj h2), wsucc (show c ≤ 1000000000 by omega)]
      rfl)
    (fun L' _ => by
      show s_l03Swap_0p0_C02o1_3o2_b1 _ _ _ _ _ = _
      unfold s_l03Swap_0p0_C02o1_3o2_b1
      rw [dnlt, bsel_false])
  unfold s_l03Swap_0p0_C02o1_3o2
  replace e : loopM (s_l03Swap_0p0_C02o1_3o2_s1 (i : Int) (j : Int) (C : Int)) (L, 0) = some (.inl (run (swapP none C i j) 0 (C - 0) L)) := e
  rw [e]; rfl
def tradeP (i j : Nat) (l : List Int) : List Int := (l.set i (l.getD j 0)).set j (l.getD i 0)
theorem tradeP_len (i j : Nat) (l : List Int) : (tradeP i j l).length = l.length := by simp [tradeP]
theorem tradeP_comm (i j : Nat) (l : List Int) : tradeP i j l = tradeP j i l := by
  unfold tradeP
  by_cases e : i = j
  · subst e; rfl
  · exact List.set_comm _ _ e
theorem i_swap_0o_eq {i j : Nat} {l : List Int} (hi : i < l.length) (hj : j < l.length) : i_swap_0o (i : Int) (j : Int) l = some (tradeP i j l) := by
  unfold i_swap_0o
  rw [at?_n 0 hj, obind_eq, at?_n 0 hi, obind_eq, setAt?_n _ hi, obind_eq, setAt?_n _ (by simpa using hj)]
  rfl
theorem s_l03Trade_0o_eq {i j : Nat} {l : List Int} (hi : i < l.length) (hj : j < l.length) : s_l03Trade_0o (i : Int) (j : Int) l = some (tradeP i j l) := by
  unfold s_l03Trade_0o
  rw [at?_n 0 hi, obind_eq, at?_n 0 hj, obind_eq, setAt?_n _ hi, obind_eq, setAt?_n _ (by simpa using hj)]
  rfl
def upTo (n : Nat) : List Int := (List.range n).map fun (i : Nat) => (i : Int)
theorem upTo_len (n : Nat) : (upTo n).length = n := by simp [upTo]
theorem run_upTo : ∀ n : Nat, run (fun (i : Nat) (l : List Int) => l ++ [(i : Int)]) 0 n [] = upTo n
  | 0 => rfl
  | n + 1 => by rw [run_last, run_upTo n]; simp [upTo, List.range_succ]
theorem i_ascending_eq {n : Nat} (hn : n ≤ 12) : i_ascending (n : Int) = some (upTo n) := by
  obtain ⟨e, _⟩ := loop_run (step := i_ascending_s1 (n : Int)) (fun c L => (L, (c : Int))) (fun (i : Nat) (l : List Int) => l ++ [(i : Int)]) (fun L => L) (fun i L => L.length = i) (lo := 0) (n := n) (Nat.zero_le _) (s0 := []) rfl
    (fun c L h1 h2 h3 => by
      refine ⟨?_, by simp [h3]⟩
      show i_ascending_b1 _ _ _ = _
      unfold i_ascending_b1
      have ap : apok 8 L.length 1 = true := by simp [apok]; omega
      rw [dlt h2, bsel_true, ap, need_true, wsucc (by omega)]
      rfl)
    (fun L _ => by
      show i_ascending_b1 _ _ _ = _
      unfold i_ascending_b1
      rw [dnlt, bsel_false])
  unfold i_ascending
  replace e : loopM (i_ascending_s1 (n : Int)) ([], 0) = some (.inl (run (fun (i : Nat) (l : List Int) => l ++ [(i : Int)]) 0 (n - 0) [])) := e
  rw [e, Nat.sub_zero, run_upTo]; rfl
theorem s_l03Count_eq {n : Nat} (hn : n ≤ 12) : s_l03Count (n : Int) = some (upTo n) := by
  obtain ⟨e, _⟩ := loop_run (step := s_l03Count_s1 (n : Int)) (fun c L => (L, (c : Int))) (fun (i : Nat) (l : List Int) => l ++ [(i : Int)]) (fun L => L) (fun i L => L.length = i) (lo := 0) (n := n) (Nat.zero_le _) (s0 := []) rfl
    (fun c L h1 h2 h3 => by
      refine ⟨?_, by simp [h3]⟩
      show s_l03Count_b1 _ _ _ = _
      unfold s_l03Count_b1
      have ap : apok 8 L.length 1 = true := by simp [apok]; omega
      rw [dlt h2, bsel_true, ap, need_true, wsucc (by omega)]
      rfl)
    (fun L _ => by
      show s_l03Count_b1 _ _ _ = _
      unfold s_l03Count_b1
      rw [dnlt, bsel_false])
  unfold s_l03Count
  replace e : loopM (s_l03Count_s1 (n : Int)) ([], 0) = some (.inl (run (fun (i : Nat) (l : List Int) => l ++ [(i : Int)]) 0 (n - 0) [])) := e
  rw [e, Nat.sub_zero, run_upTo]; rfl
def elimE (C k r : Nat) (f : F) (j : Nat) (L : List F) : List F := sm L C r j (fop .sub .f32 (gm none L C r j) (fop .mul .f32 f (gm none L C k j)))
def elimRow (C k r : Nat) (L : List F) : List F := run (elimE C k r (fop .quo .f32 (gm none L C r k) (gm none L C k k))) (k + 1) (C - (k + 1)) (sm L C r k (fop .quo .f32 (gm none L C r k) (gm none L C k k)))
def elimP (A C k : Nat) (L : List F) : List F := run (elimRow C k) (k + 1) (A - (k + 1)) L
theorem elimE_mat {A C k r j : Nat} {f : F} {L : List F} (h : Mat A C L) : Mat A C (elimE C k r f j L) := h.set _ _ _
theorem elimE_oks {C k r j : Nat} {f : F} {L : List F} (h : FOks L) : FOks (elimE C k r f j L) := h.set (fop_fok _ _ _)
theorem elimRow_mat {A C k r : Nat} {L : List F} (h : Mat A C L) : Mat A C (elimRow C k r L) := run_inv (fun _ L => Mat A C L) _ _ _ (h.set _ _ _) fun _ _ _ _ h => elimE_mat h
theorem elimRow_oks {C k r : Nat} {L : List F} (h : FOks L) : FOks (elimRow C k r L) := run_inv (fun _ L => FOks L) _ _ _ (h.set (fop_fok _ _ _)) fun _ _ _ _ h => elimE_oks h
theorem elimP_mat {A C k : Nat} {L : List F} (h : Mat A C L) : Mat A C (elimP A C k L) := run_inv (fun _ L => Mat A C L) _ _ _ h fun _ _ _ _ h => elimRow_mat h
theorem elimP_oks {A C k : Nat} {L : List F} (h : FOks L) : FOks (elimP A C k L) := run_inv (fun _ L => FOks L) _ _ _ h fun _ _ _ _ h => elimRow_oks h
theorem elimE_keep {A C k r j i c : Nat} {f : F} {L : List F} (h : Mat A C L) (hr : r < A) (hj : j < C) (hc : c < C) (hne : r ≠ i ∨ c < j) : gm none (elimE C k r f j L) C i c = gm none L C i c := by
  unfold elimE
  rw [gm_set h hr hj hc, if_neg]
  rintro ⟨rfl, rfl⟩
  rcases hne with h | h
  · exact h rfl
  · omega
theorem elimRow_keep {A C k r i c : Nat} {L : List F} (h : Mat A C L) (hr : r < A) (hk : k < C) (hc : c < C) (hne : r ≠ i) : gm none (elimRow C k r L) C i c = gm none L C i c := by
  unfold elimRow
  have h1 := run_inv (f := elimE C k r (fop .quo .f32 (gm none L C r k) (gm none L C k k))) (fun _ L' => Mat A C L' ∧ gm none L' C i c = gm none L C i c) (C - (k + 1)) (k + 1) (sm L C r k (fop .quo .f32 (gm none L C r k) (gm none L C k k)))
    ⟨h.set _ _ _, by rw [gm_set h hr hk hc, if_neg (fun e => hne e.1)]⟩ (fun j L' a b hI => ⟨elimE_mat hI.1, by rw [elimE_keep hI.1 hr (by omega) hc (.inl hne)]; exact hI.2⟩)
  exact h1.2
theorem i_Matrix_eliminate_02o_eq {A C k : Nat} {L : List F} (h : Mat A C L) (hkA : k < A) (hkC : k < C) : i_Matrix_eliminate_02o (A : Int) (C : Int) (k : Int) L = some (elimP A C k L) := by
  have hC := h.C1
  have hA := h.A1
  have inner : ∀ (r : Nat) (f : F) (L' : List F), r < A → Mat A C L' → loopM (i_Matrix_eliminate_02o_s2 (A : Int) (C : Int) (k : Int) L (r : Int) f) (L', ((k + 1 : Nat) : Int)) = some (.inl (run (elimE C k r f) (k + 1) (C - (k + 1)) L')) ∧ Mat A C (run (elimE C k r f) (k + 1) (C - (k + 1)) L') := by
    intro r f L' hr hL'
    exact loop_run (step := i_Matrix_eliminate_02o_s2 (A : Int) (C : Int) (k : Int) L (r : Int) f) (fun j L => (L, (j : Int))) (elimE C k r f) (fun L => L) (fun _ L => Mat A C L) (lo := k + 1) (n := C) hkC (s0 := L') hL'
      (fun j L2 h1 h2 h3 => by
        refine ⟨?_, elimE_mat h3⟩
        show i_Matrix_eliminate_02o_b2 _ _ _ _ _ _ _ _ = _
        unfold i_Matrix_eliminate_02o_b2
        have l1 : decide ((elimE C k r f j L2).length = L.length) = true := by simp [(elimE_mat (k := k) (r := r) (j := j) (f := f) h3).len, h.len]
        unfold elimE at l1
        rw [dlt h2, bsel_true, i_Matrix_at_eq _ h3 hr h2, obind_eq, i_Matrix_at_eq _ h3 hkA h2, obind_eq, i_mul_eq, obind_eq, olet_eq, i_Matrix_set_02o_eq _ h3 hr h2, obind_eq, l1, need_true, wsucc (by omega)]
        rfl)
      (fun L2 _ => by
        show i_Matrix_eliminate_02o_b2 _ _ _ _ _ _ _ _ = _
        unfold i_Matrix_eliminate_02o_b2
        rw [dnlt, bsel_false])
  obtain ⟨e, _⟩ := loop_run (step := i_Matrix_eliminate_02o_s3 (A : Int) (C : Int) (k : Int) L) (fun j L => (L, (j : Int))) (elimRow C k) (fun L => L) (fun _ L => Mat A C L) (lo := k + 1) (n := A) hkA (s0 := L) h
    (fun r L2 h1 h2 h3 => by
      refine ⟨?_, elimRow_mat h3⟩
      show i_Matrix_eliminate_02o_b3 _ _ _ _ _ _ = _
      unfold i_Matrix_eliminate_02o_b3
      have l1 : decide ((sm L2 C r k (fop .quo .f32 (gm none L2 C r k) (gm none L2 C k k))).length = L.length) = true := by simp [h3.len, h.len]
      obtain ⟨i1, i2⟩ := inner r (fop .quo .f32 (gm none L2 C r k) (gm none L2 C k k)) _ h2 (h3.set r k (fop .quo .f32 (gm none L2 C r k) (gm none L2 C k k)))
      rw [dlt h2, bsel_true, i_Matrix_at_eq _ h3 h2 hkC, obind_eq, i_Matrix_at_eq _ h3 hkA hkC, obind_eq, olet_eq, i_Matrix_set_02o_eq _ h3 h2 hkC, obind_eq, l1, need_true, wsucc (by omega), olet_eq, i1, obind_eq, osum_inl]
      unfold i_Matrix_eliminate_02o_k2
      rw [wsucc (by omega)]
      rfl)
    (fun L2 _ => by
      show i_Matrix_eliminate_02o_b3 _ _ _ _ _ _ = _
      unfold i_Matrix_eliminate_02o_b3
      rw [dnlt, bsel_false])
  unfold i_Matrix_eliminate_02o
  rw [wsucc (by omega), olet_eq, e]
  rfl
theorem fin_not {A C : Nat} {L : List F} (h : Mat A C L) {i c : Nat} (hi : i < A) (hc : c < C) (hx : fin32 (gm none L C i c) = false) : L.all fin32 = false := by
  cases e : L.all fin32 with
  | false => rfl
  | true => have := fin_all.1 e _ (h.lt hi hc); rw [hx] at this; cases this
theorem s_l03Clear_0p0_C02o1_3o2_eq {A C k : Nat} {L : List F} (ord : List Int) (g : FOks L) (hfin : L.all fin32 = true) (h : Mat A C L) (hkA : k < A) (hkC : k < C) :
    (s_l03Clear_0p0_C02o1_3o2 (k : Int) (A : Int) (C : Int) L ord = some (true, elimP A C k L, ord) ∧ (elimP A C k L).all fin32 = true) ∨ (∃ L', s_l03Clear_0p0_C02o1_3o2 (k : Int) (A : Int) (C : Int) L ord = some (false, L', ord) ∧ L'.length = L.length ∧ (elimP A C k L).all fin32 = false) := by
  have hC := h.C1
  have hA := h.A1
  -- one row, number by number
  let fE : Nat → F → Nat → List F → List F ⊕ (Bool × List F × List Int) := fun r f j L2 => if fin32 (fop .sub .f32 (gm none L2 C r j) (fop .mul .f32 f (gm none L2 C k j))) = true then .inl (elimE C k r f j L2) else .inr (false, elimE C k r f j L2, ord)
  have inner : ∀ (r : Nat) (f : F) (L' : List F), k < r → r < A → Mat A C L' → FOks L' → L'.all fin32 = true →
      (loopM (s_l03Clear_0p0_C02o1_3o2_s2 (k : Int) (C : Int) ord (r : Int) f) (L', ((k + 1 : Nat) : Int)) = some (.inl (run (elimE C k r f) (k + 1) (C - (k + 1)) L')) ∧ (run (elimE C k r f) (k + 1) (C - (k + 1)) L').all fin32 = true) ∨
      (∃ L'', loopM (s_l03Clear_0p0_C02o1_3o2_s2 (k : Int) (C : Int) ord (r : Int) f) (L', ((k + 1 : Nat) : Int)) = some (.inr (false, L'', ord)) ∧ L''.length = L.length ∧ ∃ c, c < C ∧ fin32 (gm none (run (elimE C k r f) (k + 1) (C - (k + 1)) L') C r c) = false) := by
    intro r f L' hkr hr hL' hg' hf'
    have hstep : ∀ (j : Nat) (L2 : List F), k + 1 ≤ j → j < C → Mat A C L2 ∧ FOks L2 ∧ L2.all fin32 = true →
        (∃ s', fE r f j L2 = .inl s' ∧ s_l03Clear_0p0_C02o1_3o2_s2 (k : Int) (C : Int) ord (r : Int) f (L2, (j : Int)) = some (.next (s', ((j + 1 : Nat) : Int))) ∧ (Mat A C s' ∧ FOks s' ∧ s'.all fin32 = true)) ∨ (∃ q, fE r f j L2 = .inr q ∧ s_l03Clear_0p0_C02o1_3o2_s2 (k : Int) (C : Int) ord (r : Int) f (L2, (j : Int)) = some (.ret q)) := by
      intro j L2 h1 h2 ⟨h3, h4, h5⟩
      have hb : s_l03Clear_0p0_C02o1_3o2_s2 (k : Int) (C : Int) ord (r : Int) f (L2, (j : Int)) = bsel (fin32 (fop .sub .f32 (gm none L2 C r j) (fop .mul .f32 f (gm none L2 C k j)))) (some (.next (elimE C k r f j L2, ((j + 1 : Nat) : Int)))) (some (.ret (false, elimE C k r f j L2, ord))) := by
        show s_l03Clear_0p0_C02o1_3o2_b2 _ _ _ _ _ _ _ = _
        unfold s_l03Clear_0p0_C02o1_3o2_b2
        obtain ⟨e1, e2⟩ := idx_w h.A1 h.C1 hr h2
        obtain ⟨e3, e4⟩ := idx_w h.A1 h.C1 hkA h2
        rw [dlt h2, bsel_true]
        simp only [e1, e2, e3, e4, olet_eq, at?_n none (h3.lt hr h2), at?_n none (h3.lt hkA h2), obind_eq, setAt?_n _ (h3.lt hr h2), wsucc (show j ≤ 1000000000 by omega), s_l01Finite_eq (fop_fok .f32 _ _)]
        rfl
      cases hx : fin32 (fop .sub .f32 (gm none L2 C r j) (fop .mul .f32 f (gm none L2 C k j))) with
      | true =>
        refine .inl ⟨elimE C k r f j L2, by simp only [fE, hx, if_true], by rw [hb, hx, bsel_true], elimE_mat h3, elimE_oks h4, ?_⟩
        unfold elimE; exact fin_set h5 hx
      | false => exact .inr ⟨(false, elimE C k r f j L2, ord), by simp only [fE, hx]; rfl, by rw [hb, hx, bsel_false]⟩
    have hrun := runE_run (f := fE r f) (g := elimE C k r f) (fun _ L2 => Mat A C L2 ∧ FOks L2 ∧ L2.all fin32 = true) (fun j L2 => Mat A C L2 ∧ ∃ c, c < j ∧ c < C ∧ fin32 (gm none L2 C r c) = false) (fun q => ∃ L'', q = (false, L'', ord) ∧ L''.length = L.length) (C - (k + 1)) (k + 1) L' ⟨hL', hg', hf'⟩
      (fun j L2 h1 h2 ⟨h3, h4, h5⟩ => by
        cases hx : fin32 (fop .sub .f32 (gm none L2 C r j) (fop .mul .f32 f (gm none L2 C k j))) with
        | true =>
          refine .inl ⟨by simp only [fE, hx, if_true], elimE_mat h3, elimE_oks h4, ?_⟩
          unfold elimE; exact fin_set h5 hx
        | false =>
          refine .inr ⟨(false, elimE C k r f j L2, ord), by simp only [fE, hx]; rfl, ⟨_, rfl, by rw [(elimE_mat h3).len, h.len]⟩, elimE_mat h3, j, by omega, by omega, ?_⟩
          unfold elimE
          rw [gm_set h3 hr (by omega) (by omega), if_pos ⟨rfl, rfl⟩]; exact hx)
      (fun j L2 h1 h2 ⟨h3, c, h4, h5, h6⟩ => ⟨elimE_mat h3, c, by omega, h5, by rw [elimE_keep h3 hr (by omega) h5 (.inr h4)]; exact h6⟩)
    rcases loop_runE (step := s_l03Clear_0p0_C02o1_3o2_s2 (k : Int) (C : Int) ord (r : Int) f) (fun j L => (L, (j : Int))) (fE r f) (fun L => L) (fun _ L2 => Mat A C L2 ∧ FOks L2 ∧ L2.all fin32 = true) (lo := k + 1) (n := C) hkC (s0 := L') ⟨hL', hg', hf'⟩ hstep
      (fun L2 _ => by
        show s_l03Clear_0p0_C02o1_3o2_b2 _ _ _ _ _ _ _ = _
        unfold s_l03Clear_0p0_C02o1_3o2_b2
        rw [dnlt, bsel_false]) with ⟨s', e1, e2, e3⟩ | ⟨q, e1, e2⟩
    · rcases hrun with ⟨h1, h2⟩ | ⟨q, h1, _⟩
      · rw [e1] at h1
        have := Sum.inl.inj h1
        subst this
        exact .inl ⟨e2, h2.2.2⟩
      · rw [e1] at h1; cases h1
    · rcases hrun with ⟨h1, h2⟩ | ⟨q', h1, ⟨L'', h2, h3⟩, h4, c, _, h5, h6⟩
      · rw [e1] at h1; cases h1
      · rw [e1] at h1
        have := Sum.inr.inj h1
        subst this
        exact .inr ⟨L'', by rw [e2, h2], h3, c, h5, h6⟩
  -- row by row
  let gR : Nat → List F → List F ⊕ (Bool × List F × List Int) := fun r L2 =>
    match s_l03Clear_0p0_C02o1_3o2_s3 (k : Int) (A : Int) (C : Int) ord (L2, (r : Int)) with
    | some (.next s) => .inl s.1
    | some (.ret q) => .inr q
    | _ => .inl L2
  have hrow : ∀ (r : Nat) (L2 : List F), k + 1 ≤ r → r < A → Mat A C L2 ∧ FOks L2 ∧ L2.all fin32 = true →
      (s_l03Clear_0p0_C02o1_3o2_s3 (k : Int) (A : Int) (C : Int) ord (L2, (r : Int)) = some (.next (elimRow C k r L2, ((r + 1 : Nat) : Int))) ∧ (elimRow C k r L2).all fin32 = true) ∨
      (∃ L'', s_l03Clear_0p0_C02o1_3o2_s3 (k : Int) (A : Int) (C : Int) ord (L2, (r : Int)) = some (.ret (false, L'', ord)) ∧ L''.length = L.length ∧ ∃ c, c < C ∧ fin32 (gm none (elimRow C k r L2) C r c) = false) := by
    intro r L2 h1 h2 ⟨h3, h4, h5⟩
    obtain ⟨e1, e2⟩ := idx_w h.A1 h.C1 h2 hkC
    obtain ⟨e3, e4⟩ := idx_w h.A1 h.C1 hkA hkC
    have hb : s_l03Clear_0p0_C02o1_3o2_s3 (k : Int) (A : Int) (C : Int) ord (L2, (r : Int)) = bsel (fin32 (fop .quo .f32 (gm none L2 C r k) (gm none L2 C k k)))
        (obind (loopM (s_l03Clear_0p0_C02o1_3o2_s2 (k : Int) (C : Int) ord (r : Int) (fop .quo .f32 (gm none L2 C r k) (gm none L2 C k k))) (sm L2 C r k (fop .quo .f32 (gm none L2 C r k) (gm none L2 C k k)), ((k + 1 : Nat) : Int))) fun z => osum z (fun e => s_l03Clear_0p0_C02o1_3o2_k2 (r : Int) e) (fun r => some (LR.ret r)))
        (some (.ret (false, sm L2 C r k (fop .quo .f32 (gm none L2 C r k) (gm none L2 C k k)), ord))) := by
      show s_l03Clear_0p0_C02o1_3o2_b3 _ _ _ _ _ _ = _
      unfold s_l03Clear_0p0_C02o1_3o2_b3
      rw [dlt h2, bsel_true]
      simp only [e1, e2, e3, e4, olet_eq, at?_n none (h3.lt h2 hkC), at?_n none (h3.lt hkA hkC), obind_eq, setAt?_n _ (h3.lt h2 hkC), wsucc (show k ≤ 1000000000 by omega), s_l01Finite_eq (fop_fok .f32 _ _)]
    rw [hb]
    cases hx : fin32 (fop .quo .f32 (gm none L2 C r k) (gm none L2 C k k)) with
    | true =>
      rw [bsel_true]
      rcases inner r (fop .quo .f32 (gm none L2 C r k) (gm none L2 C k k)) (sm L2 C r k (fop .quo .f32 (gm none L2 C r k) (gm none L2 C k k))) (by omega) h2 (h3.set _ _ _) (h4.set (fop_fok _ _ _)) (fin_set h5 hx) with ⟨i1, i2⟩ | ⟨L'', i1, i2, c, i3, i4⟩
      · refine .inl ⟨?_, i2⟩
        rw [i1, obind_eq, osum_inl]
        unfold s_l03Clear_0p0_C02o1_3o2_k2
        rw [wsucc (by omega)]; rfl
      · exact .inr ⟨L'', by rw [i1]; rfl, i2, c, i3, i4⟩
    | false =>
      rw [bsel_false]
      refine .inr ⟨_, rfl, by rw [(h3.set _ _ _).len, h.len], k, hkC, ?_⟩
      unfold elimRow
      have hkeep := run_inv (f := elimE C k r (fop .quo .f32 (gm none L2 C r k) (gm none L2 C k k))) (fun j L' => Mat A C L' ∧ k < j ∧ gm none L' C r k = fop .quo .f32 (gm none L2 C r k) (gm none L2 C k k)) (C - (k + 1)) (k + 1) (sm L2 C r k (fop .quo .f32 (gm none L2 C r k) (gm none L2 C k k)))
        ⟨h3.set _ _ _, by omega, by rw [gm_set h3 h2 hkC hkC, if_pos ⟨rfl, rfl⟩]⟩ (fun j L' a b hI => ⟨elimE_mat hI.1, by omega, by rw [elimE_keep hI.1 h2 (by omega) hkC (.inr hI.2.1)]; exact hI.2.2⟩)
      rw [hkeep.2.2]; exact hx
  have hrun := runE_run (f := gR) (g := elimRow C k) (fun _ L2 => Mat A C L2 ∧ FOks L2 ∧ L2.all fin32 = true) (fun j L2 => Mat A C L2 ∧ ∃ r c, r < j ∧ r < A ∧ c < C ∧ fin32 (gm none L2 C r c) = false) (fun q => ∃ L'', q = (false, L'', ord) ∧ L''.length = L.length) (A - (k + 1)) (k + 1) L ⟨h, g, hfin⟩
    (fun r L2 h1 h2 h3 => by
      rcases hrow r L2 h1 (by omega) h3 with ⟨i1, i2⟩ | ⟨L'', i1, i2, c, i3, i4⟩
      · exact .inl ⟨by simp only [gR, i1], elimRow_mat h3.1, elimRow_oks h3.2.1, i2⟩
      · exact .inr ⟨(false, L'', ord), by simp only [gR, i1], ⟨L'', rfl, i2⟩, elimRow_mat h3.1, r, c, by omega, by omega, i3, i4⟩)
    (fun j L2 h1 h2 ⟨h3, r, c, h4, h5, h6, h7⟩ => ⟨elimRow_mat h3, r, c, by omega, h5, h6, by rw [elimRow_keep h3 (by omega) hkC h6 (by omega)]; exact h7⟩)
  have hE : k + 1 + (A - (k + 1)) = A := by omega
  rw [hE] at hrun
  rcases loop_runE (step := s_l03Clear_0p0_C02o1_3o2_s3 (k : Int) (A : Int) (C : Int) ord) (fun j L => (L, (j : Int))) gR (fun L => L) (fun _ L2 => Mat A C L2 ∧ FOks L2 ∧ L2.all fin32 = true) (lo := k + 1) (n := A) hkA (s0 := L) ⟨h, g, hfin⟩
    (fun r L2 h1 h2 h3 => by
      rcases hrow r L2 h1 h2 h3 with ⟨i1, i2⟩ | ⟨L'', i1, i2, c, i3, i4⟩
      · exact .inl ⟨elimRow C k r L2, by simp only [gR, i1], i1, elimRow_mat h3.1, elimRow_oks h3.2.1, i2⟩
      · exact .inr ⟨(false, L'', ord), by simp only [gR, i1], i1⟩)
    (fun L2 _ => by
      show s_l03Clear_0p0_C02o1_3o2_b3 _ _ _ _ _ _ = _
      unfold s_l03Clear_0p0_C02o1_3o2_b3
      rw [dnlt, bsel_false]) with ⟨s', e1, e2, e3⟩ | ⟨q, e1, e2⟩
  · rcases hrun with ⟨h1, h2⟩ | ⟨q, h1, _⟩
    · rw [e1] at h1
      have := Sum.inl.inj h1
      subst this
      refine .inl ⟨?_, h2.2.2⟩
      unfold s_l03Clear_0p0_C02o1_3o2
      rw [wsucc (by omega), olet_eq, e2]; rfl
    · rw [e1] at h1; cases h1
  · rcases hrun with ⟨h1, h2⟩ | ⟨q', h1, ⟨L'', h2, h3⟩, h4, r, c, _, h5, h6, h7⟩
    · rw [e1] at h1; cases h1
    · rw [e1] at h1
      have := Sum.inr.inj h1
      subst this
      refine .inr ⟨L'', ?_, h3, fin_not h4 h5 h6 h7⟩
      unfold s_l03Clear_0p0_C02o1_3o2
      rw [wsucc (by omega), olet_eq, e2, h2]; rfl
theorem s_l02Square_eq (a0 a1 : Int) {a2 : List F} (g2 : FOks a2) (s2 : a2.length ≤ 1048576) : s_l02Square a0 a1 a2 = some (validM a0 a1 a2 && decide (a0 = a1)) := by
  unfold s_l02Square
  rw [s_l02Is_eq a0 a1 g2 s2, obind_eq]
  cases validM a0 a1 a2 <;> rfl
theorem i_isSquare_eq (a0 a1 : Int) {a2 : List F} (g2 : FOks a2) (s2 : a2.length ≤ 1048576) : i_isSquare a0 a1 a2 = some (validM a0 a1 a2 && decide (a0 = a1)) := by
  unfold i_isSquare
  rw [i_ValidMatrix_eq a0 a1 g2 s2, obind_eq]
  cases validM a0 a1 a2 <;> rfl
theorem valid_mat {a0 a1 : Int} {a2 : List F} (h : validM a0 a1 a2 = true) : ∃ A C : Nat, a0 = (A : Int) ∧ a1 = (C : Int) ∧ 0 < A ∧ 0 < C ∧ Mat A C a2 ∧ a2.all fin32 = true := by
  simp only [validM, Bool.and_eq_true, decide_eq_true_eq] at h
  obtain ⟨⟨⟨v1, v2⟩, v3⟩, v4⟩ := h
  obtain ⟨A, rfl, A0, A1⟩ := side_nat v1
  obtain ⟨C, rfl, C0, C1⟩ := side_nat v2
  have hAC := small_mul A1 C1
  rw [← Int.natCast_mul, wn (by omega)] at v3
  exact ⟨A, C, rfl, rfl, A0, C0, ⟨A1, C1, by omega⟩, v4⟩
theorem mat_valid {A C : Nat} {L : List F} (h : Mat A C L) (hA : 0 < A) (hC : 0 < C) : validM (A : Int) (C : Int) L = L.all fin32 := by
  unfold validM side
  have hAC := small_mul h.A1 h.C1
  have h1 := h.A1
  have h2 := h.C1
  rw [← Int.natCast_mul, wn (by omega), h.len]
  have e1 : decide ((1 : Int) ≤ (A : Int)) = true := by simp; omega
  have e2 : decide ((A : Int) ≤ 12) = true := by simp; omega
  have e3 : decide ((1 : Int) ≤ (C : Int)) = true := by simp; omega
  have e4 : decide ((C : Int) ≤ 12) = true := by simp; omega
  rw [e1, e2, e3, e4]
  simp
theorem s_l02Own_eq (a0 a1 : Int) {L : List F} (h : L.length ≤ 1048576) : s_l02Own a0 a1 L = some (a0, a1, L) := by
  have ap : apok 4 0 L.length = true := by simp [apok]; omega
  unfold s_l02Own; rw [ap]; rfl
theorem i_Matrix_clone_eq (a0 a1 : Int) {L : List F} (h : L.length ≤ 1048576) : i_Matrix_clone a0 a1 L = some (a0, a1, L) := by
  have ap : apok 4 0 L.length = true := by simp [apok]; omega
  unfold i_Matrix_clone x_slices_Clone_float32_float32; rw [ap]; rfl
def swapQ {α : Type} (d : α) (C i j r : Nat) (L : List α) : List α := sm (sm L C r i (gm d L C r j)) C r j (gm d L C r i)
theorem swapQ_mat {α : Type} {d : α} {A C i j r : Nat} {L : List α} (h : Mat A C L) : Mat A C (swapQ d C i j r L) := (h.set _ _ _).set _ _ _
theorem swapQ_oks {C i j r : Nat} {L : List F} (h : FOks L) : FOks (swapQ none C i j r L) := (h.set (h.getD _)).set (h.getD _)
theorem swapQ_comm {α : Type} {d : α} {C i j r : Nat} {L : List α} : swapQ d C i j r L = swapQ d C j i r L := by
  unfold swapQ
  by_cases e : i = j
  · subst e; rfl
  · exact List.set_comm _ _ (by omega)
def swapK {α : Type} (d : α) (A C i j : Nat) (L : List α) : List α := run (swapQ d C i j) 0 A L
theorem swapK_mat {α : Type} {d : α} {A C i j : Nat} {L : List α} (h : Mat A C L) : Mat A C (swapK d A C i j L) := run_inv (fun _ L => Mat A C L) A 0 L h fun _ _ _ _ h => swapQ_mat h
theorem swapK_oks {A C i j : Nat} {L : List F} (h : FOks L) : FOks (swapK none A C i j L) := run_inv (fun _ L => FOks L) A 0 L h fun _ _ _ _ h => swapQ_oks h
theorem swapK_comm {α : Type} {d : α} {A C i j : Nat} {L : List α} : swapK d A C i j L = swapK d A C j i L :=
  run_congr (fun _ _ => True) A 0 L trivial fun _ _ _ _ _ => ⟨swapQ_comm, trivial⟩
theorem swapQ_fin {A C i j r : Nat} {L : List F} (m : Mat A C L) (hr : r < A) (hi : i < C) (hj : j < C) (h : L.all fin32 = true) : (swapQ none C i j r L).all fin32 = true :=
  fin_set (fin_set h (fin_all.1 h _ (m.lt hr hj))) (fin_all.1 h _ (m.lt hr hi))
theorem swapK_fin {A C i j : Nat} {L : List F} (m : Mat A C L) (hi : i < C) (hj : j < C) (h : L.all fin32 = true) : (swapK none A C i j L).all fin32 = true :=
  (run_inv (fun _ L => Mat A C L ∧ L.all fin32 = true) A 0 L ⟨m, h⟩ fun _ _ _ hc h => ⟨swapQ_mat h.1, swapQ_fin h.1 (by omega) hi hj h.2⟩).2
theorem i_Matrix_swapColumns_02o_eq {A C i j : Nat} {L : List F} (h : Mat A C L) (hi : i < C) (hj : j < C) : i_Matrix_swapColumns_02o (A : Int) (C : Int) (i : Int) (j : Int) L = some (swapK none A C i j L) := by
  have hA := h.A1
  obtain ⟨e, _⟩ := loop_run (step := i_Matrix_swapColumns_02o_s1 (A : Int) (C : Int) (i : Int) (j : Int) L) (fun c L => (L, (c : Int))) (swapQ none C i j) (fun L => L) (fun _ L' => Mat A C L') (lo := 0) (n := A) (Nat.zero_le _) (s0 := L) h
    (fun c L' h1 h2 h3 => by
      refine ⟨?_, swapQ_mat h3⟩
      show i_Matrix_swapColumns_02o_b1 _ _ _ _ _ _ _ = _
      unfold i_Matrix_swapColumns_02o_b1
      have l1 : decide ((sm L' C c i (gm none L' C c j)).length = L.length) = true := by simp [h3.len, h.len]
      have l2 : decide ((sm (sm L' C c i (gm none L' C c j)) C c j (gm none L' C c i)).length = L.length) = true := by simp [h3.len, h.len]
      rw [dlt h2, bsel_true, i_Matrix_at_eq _ h3 h2 hi, obind_eq, i_Matrix_at_eq _ h3 h2 hj, obind_eq, i_Matrix_set_02o_eq _ h3 h2 hi, obind_eq, l1, need_true, i_Matrix_set_02o_eq _ (h3.set _ _ _) h2 hj, obind_eq, l2, need_true, wsucc (by omega)]
      rfl)
    (fun L' _ => by
      show i_Matrix_swapColumns_02o_b1 _ _ _ _ _ _ _ = _
      unfold i_Matrix_swapColumns_02o_b1
      rw [dnlt, bsel_false])
  unfold i_Matrix_swapColumns_02o
  replace e : loopM (i_Matrix_swapColumns_02o_s1 (A : Int) (C : Int) (i : Int) (j : Int) L) (L, 0) = some (.inl (run (swapQ none C i j) 0 (A - 0) L)) := e
  rw [e]; rfl
theorem s_FactorBoth_swap {n i j : Nat} {L : List F} (h : Mat n n L) (hi : i < n) (hj : j < n) : loopM (s_FactorBoth_s24 (n : Int) (i : Int) (j : Int)) (L, 0) = some (.inl (swapK none n n i j L)) := by
  have hn := h.A1
  obtain ⟨e, _⟩ := loop_run (step := s_FactorBoth_s24 (n : Int) (i : Int) (j : Int)) (fun c L => (L, (c : Int))) (swapQ none n i j) (fun L => L) (fun _ L' => Mat n n L') (lo := 0) (n := n) (Nat.zero_le _) (s0 := L) h
    (fun r L' h1 h2 h3 => by
      refine ⟨?_, swapQ_mat h3⟩
      show s_FactorBoth_b24 _ _ _ _ _ = _
      unfold s_FactorBoth_b24
      obtain ⟨e1, e2⟩ := idx_w h.A1 h.C1 h2 hi
      obtain ⟨e3, e4⟩ := idx_w h.A1 h.C1 h2 hj
      rw [dlt h2, bsel_true]
      simp only [e1, e2, e3, e4, olet_eq, at?_n none (h3.lt h2 hi), at?_n none (h3.lt h2 hj), obind_eq, setAt?_n _ (h3.lt h2 hi), setAt?_n _ ((h3.set _ _ _).lt h2 hj), wsucc (show r ≤ 1000000000 by omega)]
      rfl)
    (fun L' _ => by
      show s_FactorBoth_b24 _ _ _ _ _ = _
      unfold s_FactorBoth_b24
      rw [dnlt, bsel_false])
  exact e
def findB (C : Nat) (L : List F) (i c : Nat) (p : Nat × Nat) : Nat × Nat := bif flt .f32 (fabs32 (gm none L C p.1 p.2)) (fabs32 (gm none L C i c)) then (i, c) else p
def findR (n k : Nat) (L : List F) (i : Nat) (p : Nat × Nat) : Nat × Nat := run (fun c p => findB n L i c p) k (n - k) p
def findA (n k : Nat) (L : List F) : Nat × Nat := run (findR n k L) k (n - k) (k, k)
theorem s_FactorBoth_findR {n k i : Nat} {L : List F} (p : Nat × Nat) (g : FOks L) (h : Mat n n L) (hk : k < n) (hi : i < n) (hp : p.1 < n ∧ p.2 < n) : loopM (s_FactorBoth_s22 (n : Int) (n : Int) (n : Int) L (i : Int)) ((p.1 : Int), (p.2 : Int), (k : Int)) = some (.inl (((findR n k L i p).1 : Int), ((findR n k L i p).2 : Int))) ∧ ((findR n k L i p).1 < n ∧ (findR n k L i p).2 < n) := by
  have hn := h.A1
  exact loop_run (step := s_FactorBoth_s22 (n : Int) (n : Int) (n : Int) L (i : Int)) (fun (c : Nat) (p : Nat × Nat) => ((p.1 : Int), (p.2 : Int), (c : Int))) (fun c p => findB n L i c p) (fun (p : Nat × Nat) => ((p.1 : Int), (p.2 : Int))) (fun _ p => p.1 < n ∧ p.2 < n) (lo := k) (n := n) (Nat.le_of_lt hk) (s0 := p) hp
    (fun c p h1 h2 h3 => by
      refine ⟨?_, ?_⟩
      · show s_FactorBoth_b22 _ _ _ _ _ _ _ _ = _
        unfold s_FactorBoth_b22
        rw [dlt h2, bsel_true, s_l02At_eq _ h hi h2, obind_eq, s_l02Size_eq (g.getD _), obind_eq, s_l02At_eq _ h h3.1 h3.2, obind_eq, s_l02Size_eq (g.getD _), obind_eq]
        unfold s_FactorBoth_k21 findB
        rw [wsucc (by omega)]
        cases flt .f32 (fabs32 (gm none L n p.1 p.2)) (fabs32 (gm none L n i c)) <;> rfl
      · unfold findB
        cases flt .f32 (fabs32 (gm none L n p.1 p.2)) (fabs32 (gm none L n i c))
        · exact h3
        · exact ⟨hi, h2⟩)
    (fun p _ => by
      show s_FactorBoth_b22 _ _ _ _ _ _ _ _ = _
      unfold s_FactorBoth_b22
      rw [dnlt, bsel_false])
theorem s_FactorBoth_findA {n k : Nat} {L : List F} (g : FOks L) (h : Mat n n L) (hk : k < n) : loopM (s_FactorBoth_s23 (n : Int) (n : Int) (n : Int) L (k : Int)) ((k : Int), (k : Int), (k : Int)) = some (.inl (((findA n k L).1 : Int), ((findA n k L).2 : Int))) ∧ ((findA n k L).1 < n ∧ (findA n k L).2 < n) := by
  have hn := h.A1
  exact loop_run (step := s_FactorBoth_s23 (n : Int) (n : Int) (n : Int) L (k : Int)) (fun (c : Nat) (p : Nat × Nat) => ((p.1 : Int), (p.2 : Int), (c : Int))) (findR n k L) (fun (p : Nat × Nat) => ((p.1 : Int), (p.2 : Int))) (fun _ p => p.1 < n ∧ p.2 < n) (lo := k) (n := n) (Nat.le_of_lt hk) (s0 := (k, k)) ⟨hk, hk⟩
    (fun i p h1 h2 h3 => by
      obtain ⟨e1, e2⟩ := s_FactorBoth_findR p g h hk h2 h3
      refine ⟨?_, e2⟩
      show s_FactorBoth_b23 _ _ _ _ _ _ _ _ = _
      unfold s_FactorBoth_b23
      rw [dlt h2, bsel_true, e1, obind_eq, osum_inl]
      unfold s_FactorBoth_k22
      rw [wsucc (by omega)]; rfl)
    (fun p _ => by
      show s_FactorBoth_b23 _ _ _ _ _ _ _ _ = _
      unfold s_FactorBoth_b23
      rw [dnlt, bsel_false])
theorem i_FactorBoth_findR {n k i : Nat} {L : List F} (p : Nat × Nat) (g : FOks L) (h : Mat n n L) (hk : k < n) (hi : i < n) (hp : p.1 < n ∧ p.2 < n) : loopM (i_FactorBoth_s21 (n : Int) (n : Int) (n : Int) L (i : Int)) ((p.1 : Int), (p.2 : Int), (k : Int)) = some (.inl (((findR n k L i p).1 : Int), ((findR n k L i p).2 : Int))) ∧ ((findR n k L i p).1 < n ∧ (findR n k L i p).2 < n) := by
  have hn := h.A1
  exact loop_run (step := i_FactorBoth_s21 (n : Int) (n : Int) (n : Int) L (i : Int)) (fun (c : Nat) (p : Nat × Nat) => ((p.1 : Int), (p.2 : Int), (c : Int))) (fun c p => findB n L i c p) (fun (p : Nat × Nat) => ((p.1 : Int), (p.2 : Int))) (fun _ p => p.1 < n ∧ p.2 < n) (lo := k) (n := n) (Nat.le_of_lt hk) (s0 := p) hp
    (fun c p h1 h2 h3 => by
      refine ⟨?_, ?_⟩
      · show i_FactorBoth_b21 _ _ _ _ _ _ _ _ = _
        unfold i_FactorBoth_b21
        rw [dlt h2, bsel_true, i_Matrix_at_eq _ h hi h2, obind_eq, i_absolute_eq (g.getD _), obind_eq, i_Matrix_at_eq _ h h3.1 h3.2, obind_eq, i_absolute_eq (g.getD _), obind_eq]
        unfold i_FactorBoth_k20 findB
        rw [wsucc (by omega)]
        cases flt .f32 (fabs32 (gm none L n p.1 p.2)) (fabs32 (gm none L n i c)) <;> rfl
      · unfold findB
        cases flt .f32 (fabs32 (gm none L n p.1 p.2)) (fabs32 (gm none L n i c))
        · exact h3
        · exact ⟨hi, h2⟩)
    (fun p _ => by
      show i_FactorBoth_b21 _ _ _ _ _ _ _ _ = _
      unfold i_FactorBoth_b21
      rw [dnlt, bsel_false])
theorem i_FactorBoth_findA {n k : Nat} {L : List F} (g : FOks L) (h : Mat n n L) (hk : k < n) : loopM (i_FactorBoth_s22 (n : Int) (n : Int) (n : Int) L (k : Int)) ((k : Int), (k : Int), (k : Int)) = some (.inl (((findA n k L).1 : Int), ((findA n k L).2 : Int))) ∧ ((findA n k L).1 < n ∧ (findA n k L).2 < n) := by
  have hn := h.A1
  exact loop_run (step := i_FactorBoth_s22 (n : Int) (n : Int) (n : Int) L (k : Int)) (fun (c : Nat) (p : Nat × Nat) => ((p.1 : Int), (p.2 : Int), (c : Int))) (findR n k L) (fun (p : Nat × Nat) => ((p.1 : Int), (p.2 : Int))) (fun _ p => p.1 < n ∧ p.2 < n) (lo := k) (n := n) (Nat.le_of_lt hk) (s0 := (k, k)) ⟨hk, hk⟩
    (fun i p h1 h2 h3 => by
      obtain ⟨e1, e2⟩ := i_FactorBoth_findR p g h hk h2 h3
      refine ⟨?_, e2⟩
      show i_FactorBoth_b22 _ _ _ _ _ _ _ _ = _
      unfold i_FactorBoth_b22
      rw [dlt h2, bsel_true, e1, obind_eq, osum_inl]
      unfold i_FactorBoth_k21
      rw [wsucc (by omega)]; rfl)
    (fun p _ => by
      show i_FactorBoth_b22 _ _ _ _ _ _ _ _ = _
      unfold i_FactorBoth_b22
      rw [dnlt, bsel_false])
theorem ford_zero {x : F} (h : FOk .f32 x) (hf : fin32 x = true) : ∃ o, ford .f32 x (some 0) = some o := by
  cases x with
  | none => cases hf
  | some b =>
    have hn := h.some.2
    rcases read_cases (f := Ieee.single) (fmt_ok .f32) hn with ⟨g1, _⟩ | ⟨_, g2⟩
    · exact ⟨_, order_zero g1⟩
    · have : (Ieee.single.read b).isInfinity = true := by rw [g2]; rfl
      simp only [fin32, this] at hf
      cases hf
theorem least_eq {x : F} (h : FOk .f32 x) (hf : fin32 x = true) : fle .f32 (some 0) x = !flt .f32 x (some 0) := by
  obtain ⟨o, ho⟩ := ford_zero h hf
  unfold fle flt
  rw [ford_swap (a := x) (b := some 0), ho]
  cases o <;> rfl
theorem s_l02Least_eq {x : F} (h : FOk .f32 x) : s_l02Least x = some (fin32 x && !flt .f32 x (some 0)) := by
  unfold s_l02Least
  rw [s_l01Finite_eq h, obind_eq]
  cases hf : fin32 x with
  | false => rfl
  | true => rw [bsel_true, least_eq h hf]; rfl
abbrev FB := List F × List Int × List Int
abbrev FBr := Int × Int × Int × Bool × List F × List Int × List Int
def fbPick (n k : Nat) (near : F) (p q : Nat) (s : FB) : LR FB (List F × List Int × List Int × Int) FBr :=
  bif fle .f32 (fabs32 (gm none s.1 n p q)) near then .out (s.1, s.2.1, s.2.2, (k : Int))
  else bif (elimP n n k (swapK none n n k q (swapR none n k p s.1))).all fin32 then .next (elimP n n k (swapK none n n k q (swapR none n k p s.1)), tradeP k p s.2.1, tradeP k q s.2.2)
  else .ret (0, 0, 0, false, [], [], [])
def fbStep (n : Nat) (near : F) (k : Nat) (s : FB) : LR FB (List F × List Int × List Int × Int) FBr := fbPick n k near (findA n k s.1).1 (findA n k s.1).2 s
structure FbInv (n : Nat) (s : FB) : Prop where
  m : Mat n n s.1
  g : FOks s.1
  f : s.1.all fin32 = true
  o : s.2.1.length = n
  c : s.2.2.length = n
abbrev fbMk (k : Nat) (s : FB) : List F × List Int × List Int × Int × Int := (s.1, s.2.1, s.2.2, (k : Int), (k : Int))
theorem fbStep_inv {n k : Nat} {near : F} {s s' : FB} (h : FbInv n s) (e : fbStep n near k s = .next s') : FbInv n s' := by
  unfold fbStep at e
  generalize (findA n k s.1).1 = p at e
  generalize (findA n k s.1).2 = q at e
  unfold fbPick at e
  cases hz : fle .f32 (fabs32 (gm none s.1 n p q)) near with
  | true => rw [hz, cond_true] at e; cases e
  | false =>
    rw [hz, cond_false] at e
    cases hf : (elimP n n k (swapK none n n k q (swapR none n k p s.1))).all fin32 with
    | false => rw [hf, cond_false] at e; cases e
    | true =>
      rw [hf, cond_true] at e
      cases e
      exact ⟨elimP_mat (swapK_mat (swapR_mat h.m)), elimP_oks (swapK_oks (swapR_oks h.g)), hf, by rw [tradeP_len]; exact h.o, by rw [tradeP_len]; exact h.c⟩
theorem s_FactorBoth_step {n k : Nat} {near : F} {s : FB} (r5 : List F) (r6 r7 : List Int) (h5 : r5.length = n * n) (h6 : r6.length = n) (h7 : r7.length = n) (hk : k < n) (h : FbInv n s) :
    s_FactorBoth_b25 (n : Int) near (n : Int) (n : Int) r5 r6 r7 s.1 s.2.1 s.2.2 (k : Int) (k : Int) = some (lrmap (fbMk (k + 1)) (fbStep n near k s)) := by
  have hn := h.m.A1
  obtain ⟨p1, p2, p3⟩ := s_FactorBoth_findA h.g h.m hk
  unfold s_FactorBoth_b25 fbStep
  rw [dlt hk, bsel_true, p1, obind_eq, osum_inl]
  generalize (findA n k s.1).1 = p at p2
  generalize (findA n k s.1).2 = q at p3
  unfold s_FactorBoth_k23 fbPick
  rw [s_l02At_eq _ h.m p2 p3, obind_eq, s_l02Size_eq (h.g.getD _), obind_eq]
  cases hz : fle .f32 (fabs32 (gm none s.1 n p q)) near with
  | true => rfl
  | false =>
    rw [bsel_false, cond_false]
    have m1 : Mat n n (swapR none n k p s.1) := swapR_mat h.m
    have m2 : Mat n n (swapK none n n k q (swapR none n k p s.1)) := swapK_mat m1
    have l1 : decide ((swapR none n k p s.1).length = r5.length) = true := by simp [m1.len, h5]
    have l2 : decide (s.2.1.length = r6.length) = true := by simp [h.o, h6]
    have l3 : decide ((tradeP k p s.2.1).length = r6.length) = true := by simp [tradeP_len, h.o, h6]
    have l5 : decide ((tradeP k q s.2.2).length = r7.length) = true := by simp [tradeP_len, h.c, h7]
    have o1 : k < s.2.1.length := by rw [h.o]; exact hk
    have o2 : p < s.2.1.length := by rw [h.o]; exact p2
    have o3 : k < s.2.2.length := by rw [h.c]; exact hk
    have o4 : q < s.2.2.length := by rw [h.c]; exact p3
    rw [s_l03Swap_0p0_C02o1_3o2_eq _ h.m hk p2, obind2_eq, l1, need_true, l2, need_true, s_l03Trade_0o_eq o1 o2, obind_eq, l3, need_true, s_FactorBoth_swap m1 hk p3, obind_eq, osum_inl]
    unfold s_FactorBoth_k24
    rw [s_l03Trade_0o_eq o3 o4, obind_eq, l5, need_true]
    rcases s_l03Clear_0p0_C02o1_3o2_eq (tradeP k p s.2.1) (swapK_oks (swapR_oks h.g)) (swapK_fin m1 hk p3 (swapR_fin h.m hk p2 h.f)) m2 hk hk with ⟨c1, c2⟩ | ⟨L', c1, c2, c3⟩
    · have l4 : decide ((elimP n n k (swapK none n n k q (swapR none n k p s.1))).length = r5.length) = true := by simp [(elimP_mat m2).len, h5]
      rw [c1, obind3_eq, l4, need_true, l3, need_true, c2, wsucc (by omega)]
      rfl
    · have l4 : decide (L'.length = r5.length) = true := by simp [c2, m2.len, h5]
      rw [c1, obind3_eq, l4, need_true, l3, need_true, c3]
      rfl
theorem i_FactorBoth_step {n k : Nat} {near : F} {s : FB} (r5 : List F) (r6 r7 : List Int) (h5 : r5.length = n * n) (h6 : r6.length = n) (h7 : r7.length = n) (hk : k < n) (h : FbInv n s) :
    i_FactorBoth_b23 (n : Int) near (n : Int) (n : Int) r5 r6 r7 s.1 s.2.1 s.2.2 (k : Int) (k : Int) = some (lrmap (fbMk (k + 1)) (fbStep n near k s)) := by
  have hn := h.m.A1
  obtain ⟨p1, p2, p3⟩ := i_FactorBoth_findA h.g h.m hk
  unfold i_FactorBoth_b23 fbStep
  rw [dlt hk, bsel_true, p1, obind_eq, osum_inl]
  generalize (findA n k s.1).1 = p at p2
  generalize (findA n k s.1).2 = q at p3
  unfold i_FactorBoth_k22 fbPick
  rw [i_Matrix_at_eq _ h.m p2 p3, obind_eq, i_absolute_eq (h.g.getD _), obind_eq]
  cases hz : fle .f32 (fabs32 (gm none s.1 n p q)) near with
  | true => rfl
  | false =>
    rw [bsel_false, cond_false]
    have m1 : Mat n n (swapR none n k p s.1) := swapR_mat h.m
    have m2 : Mat n n (swapK none n n k q (swapR none n k p s.1)) := swapK_mat m1
    have l1 : decide ((swapR none n k p s.1).length = r5.length) = true := by simp [m1.len, h5]
    have l2 : decide ((swapK none n n k q (swapR none n k p s.1)).length = r5.length) = true := by simp [m2.len, h5]
    have l3 : decide ((tradeP k p s.2.1).length = r6.length) = true := by simp [tradeP_len, h.o, h6]
    have l5 : decide ((tradeP k q s.2.2).length = r7.length) = true := by simp [tradeP_len, h.c, h7]
    have o1 : k < s.2.1.length := by rw [h.o]; exact hk
    have o2 : p < s.2.1.length := by rw [h.o]; exact p2
    have o3 : k < s.2.2.length := by rw [h.c]; exact hk
    have o4 : q < s.2.2.length := by rw [h.c]; exact p3
    have l4 : decide ((elimP n n k (swapK none n n k q (swapR none n k p s.1))).length = r5.length) = true := by simp [(elimP_mat m2).len, h5]
    rw [i_Matrix_swapRows_02o_eq h.m p2 hk, swapR_comm h.m p2 hk, obind_eq, l1, need_true, i_swap_0o_eq o2 o1, tradeP_comm p k, obind_eq, l3, need_true, i_Matrix_swapColumns_02o_eq m1 p3 hk, swapK_comm (i := q), obind_eq, l2, need_true, i_swap_0o_eq o4 o3, tradeP_comm q k, obind_eq, l5, need_true,
      i_Matrix_eliminate_02o_eq m2 hk hk, obind_eq, l4, need_true, i_ValidMatrix_eq _ _ (elimP_oks (swapK_oks (swapR_oks h.g))) (elimP_mat m2).le, mat_valid (elimP_mat m2) (by omega) (by omega), obind_eq, wsucc (by omega)]
    cases (elimP n n k (swapK none n n k q (swapR none n k p s.1))).all fin32 <;> rfl
theorem FactorBoth_loops {n : Nat} {near : F} {L : List F} {o : List Int} (h : FbInv n (L, o, o)) :
    ∃ q, loopM (s_FactorBoth_s25 (n : Int) near (n : Int) (n : Int) L o o) (L, o, o, 0, 0) = some q ∧ loopM (i_FactorBoth_s23 (n : Int) near (n : Int) (n : Int) L o o) (L, o, o, 0, 0) = some q ∧ ((∃ e, q = .inl e ∧ (e.1.length ≤ 1048576 ∧ e.2.1.length ≤ 1048576 ∧ e.2.2.1.length ≤ 1048576)) ∨ ∃ r, q = .inr r ∧ r = (0, 0, 0, false, [], [], [])) := by
  have hn := h.m.A1
  refine ⟨runL (fbStep n near) (fun s => (s.1, s.2.1, s.2.2, (n : Int))) 0 (n - 0) (L, o, o), ?_, ?_, ?_⟩
  · exact loop_runL (step := s_FactorBoth_s25 (n : Int) near (n : Int) (n : Int) L o o) fbMk (fbStep n near) (fun s => (s.1, s.2.1, s.2.2, (n : Int))) (fun _ s => FbInv n s) (lo := 0) (n := n) (Nat.zero_le _) h
      (fun k s _ hk hI => ⟨s_FactorBoth_step L o o h.m.len h.o h.o hk hI, fun s' e => fbStep_inv hI e⟩)
      (fun s _ => by
        show s_FactorBoth_b25 _ _ _ _ _ _ _ _ _ _ _ _ = _
        unfold s_FactorBoth_b25
        rw [dnlt, bsel_false])
  · exact loop_runL (step := i_FactorBoth_s23 (n : Int) near (n : Int) (n : Int) L o o) fbMk (fbStep n near) (fun s => (s.1, s.2.1, s.2.2, (n : Int))) (fun _ s => FbInv n s) (lo := 0) (n := n) (Nat.zero_le _) h
      (fun k s _ hk hI => ⟨i_FactorBoth_step L o o h.m.len h.o h.o hk hI, fun s' e => fbStep_inv hI e⟩)
      (fun s _ => by
        show i_FactorBoth_b23 _ _ _ _ _ _ _ _ _ _ _ _ = _
        unfold i_FactorBoth_b23
        rw [dnlt, bsel_false])
  · have hz : ∀ s : FB, FbInv n s → s.1.length ≤ 1048576 ∧ s.2.1.length ≤ 1048576 ∧ s.2.2.length ≤ 1048576 := fun s hI => ⟨hI.m.le, by have := hI.o; omega, by have := hI.c; omega⟩
    refine runL_post (fun _ s => FbInv n s) _ _ (n - 0) 0 _ h (fun k s _ hk hI => ⟨fun s' e => fbStep_inv hI e, fun e he => ?_, fun r hr => ?_⟩) (fun s hI => hz s hI)
    · unfold fbStep at he
      generalize (findA n k s.1).1 = p at he
      generalize (findA n k s.1).2 = q at he
      unfold fbPick at he
      cases hz' : fle .f32 (fabs32 (gm none s.1 n p q)) near with
      | true => rw [hz', cond_true] at he; cases he; exact hz s hI
      | false =>
        rw [hz', cond_false] at he
        cases hf : (elimP n n k (swapK none n n k q (swapR none n k p s.1))).all fin32 with
        | false => rw [hf, cond_false] at he; cases he
        | true => rw [hf, cond_true] at he; cases he
    · unfold fbStep at hr
      generalize (findA n k s.1).1 = p at hr
      generalize (findA n k s.1).2 = q at hr
      unfold fbPick at hr
      cases hz' : fle .f32 (fabs32 (gm none s.1 n p q)) near with
      | true => rw [hz', cond_true] at hr; cases hr
      | false =>
        rw [hz', cond_false] at hr
        cases hf : (elimP n n k (swapK none n n k q (swapR none n k p s.1))).all fin32 with
        | false => rw [hf, cond_false] at hr; cases hr; rfl
        | true => rw [hf, cond_true] at hr; cases hr
theorem FactorBoth_eq (a0 a1 : Int) (a2 : List F) (a3 : F) (g : FOks a2) (g3 : FOk .f32 a3) (s2 : a2.length ≤ 1048576) : ∃ x y z b L o c, s_FactorBoth a0 a1 a2 a3 = some (x, y, z, b, L, o, c) ∧ i_FactorBoth a0 a1 a2 a3 = some (x, y, z, b, L, o, c) ∧ L.length ≤ 1048576 ∧ o.length ≤ 1048576 ∧ c.length ≤ 1048576 := by
  unfold s_FactorBoth i_FactorBoth
  rw [s_l02Square_eq a0 a1 g s2, i_isSquare_eq a0 a1 g s2, obind_eq, obind_eq]
  cases hv : validM a0 a1 a2 && decide (a0 = a1) with
  | false => exact ⟨_, _, _, _, _, _, _, rfl, rfl, by simp, by simp, by simp⟩
  | true =>
    rw [bsel_true, bsel_true, s_l02Least_eq g3, i_IsFinite_eq g3, obind_eq, obind_eq]
    cases hf : fin32 a3 with
    | false => exact ⟨_, _, _, _, _, _, _, rfl, rfl, by simp, by simp, by simp⟩
    | true =>
      rw [bsel_true, Bool.true_and]
      cases hl : flt .f32 a3 (some 0) with
      | true => exact ⟨_, _, _, _, _, _, _, rfl, rfl, by simp, by simp, by simp⟩
      | false =>
        rw [Bool.not_false, bsel_true, bsel_false]
        simp only [Bool.and_eq_true, decide_eq_true_eq] at hv
        obtain ⟨A, C, rfl, rfl, A0, C0, m, f⟩ := valid_mat hv.1
        have : A = C := by omega
        subst this
        obtain ⟨q, e1, e2, h⟩ := FactorBoth_loops (near := a3) (o := upTo A) ⟨m, g, f, upTo_len A, upTo_len A⟩
        rw [s_l02Own_eq _ _ s2, i_Matrix_clone_eq _ _ s2, obind3_eq, obind3_eq, s_l03Count_eq m.A1, i_ascending_eq m.A1, obind_eq, obind_eq, obind_eq, obind_eq, e1, e2, obind_eq, obind_eq]
        rcases h with ⟨e, rfl, h1, h2, h3⟩ | ⟨r, rfl, rfl⟩
        · exact ⟨_, _, _, _, _, _, _, rfl, rfl, h1, h2, h3⟩
        · exact ⟨_, _, _, _, _, _, _, rfl, rfl, by simp, by simp, by simp⟩
theorem w_FnExactFactorBoth_true (a0 : Int) (a1 : Int) (a2 : List F) (a3 : F) (s_a2 : Small a2) (g_a2 : FOks a2) (g_a3 : FOk .f32 a3) : w_FnExactFactorBoth a0 a1 a2 a3 = some true := by
  obtain ⟨l0, e0, h0⟩ := w_szFloat32S_ex a2 1048576 s_a2 (by omega) (by omega)
  rcases Int.lt_or_le l0 0 with c0 | c0
  · simp [w_FnExactFactorBoth, w_eqFactor, w_eqMatrix, w_heldFactor, w_heldMatrix, w_markFactor_02o_03o1, w_markMatrix_02o, w_szMatrix, w_toMatrix, e0, c0]
  have d0 : decide (l0 < 0) = false := by simp; omega
  have t0 := h0 c0
  have t_a2 : a2.length ≤ 1048576 := by omega
  have f1 : w_toFloat32S a2 = some a2 := w_toFloat32S_eq a2 t_a2
  obtain ⟨z0, z1, z2, z3, z4, z5, z6, p1, p2, b_z4, b_z5, b_z6⟩ := FactorBoth_eq a0 a1 a2 a3 g_a2 g_a3 t_a2
  have f2 : w_eqFloat32S z4 z4 = some true := w_eqFloat32S_refl z4 b_z4
  have f3 : w_eqInt64S z5 z5 = some true := w_eqInt64S_refl z5 b_z5
  have f4 : w_eqInt64S z6 z6 = some true := w_eqInt64S_refl z6 b_z6
  have f5 : (!(z3 == z3)) = false := by cases z3 <;> rfl
  have f6 : w_eqFloat32S a2 a2 = some true := w_eqFloat32S_refl a2 t_a2
  have f7 : w_markFloat32S_0o 1 a2 = some ((1 + (a2.length : Int)), marks 1 a2.length) := w_markFloat32S_0o_eq 1 a2 (by omega) (by omega) t_a2
  have f8 : decide ((1 + (a2.length : Int)) < 0) = false := by simp <;> omega
  have f9 : w_markFloat32S_0o 1 z4 = some ((1 + (z4.length : Int)), marks 1 z4.length) := w_markFloat32S_0o_eq 1 z4 (by omega) (by omega) b_z4
  have f10 : w_markInt64S_0o (1 + (z4.length : Int)) z5 = some (((1 + (z4.length : Int)) + (z5.length : Int)), marksI (1 + (z4.length : Int)) z5.length) := w_markInt64S_0o_eq (1 + (z4.length : Int)) z5 (by omega) (by omega) b_z5
  have f11 : w_markInt64S_0o ((1 + (z4.length : Int)) + (z5.length : Int)) z6 = some ((((1 + (z4.length : Int)) + (z5.length : Int)) + (z6.length : Int)), marksI ((1 + (z4.length : Int)) + (z5.length : Int)) z6.length) := w_markInt64S_0o_eq ((1 + (z4.length : Int)) + (z5.length : Int)) z6 (by omega) (by omega) b_z6
  have f12 : w_heldFloat32S (marks 1 z4.length) 1 = some (1 + (z4.length : Int)) := w_heldFloat32S_eq 1 z4.length (by omega) (by omega) b_z4
  have f13 : decide ((1 + (z4.length : Int)) < 0) = false := by simp <;> omega
  have f14 : w_heldInt64S (marksI (1 + (z4.length : Int)) z5.length) (1 + (z4.length : Int)) = some ((1 + (z4.length : Int)) + (z5.length : Int)) := w_heldInt64S_eq (1 + (z4.length : Int)) z5.length (by omega) (by omega) b_z5
  have f15 : decide (((1 + (z4.length : Int)) + (z5.length : Int)) < 0) = false := by simp <;> omega
  have f16 : w_heldInt64S (marksI ((1 + (z4.length : Int)) + (z5.length : Int)) z6.length) ((1 + (z4.length : Int)) + (z5.length : Int)) = some (((1 + (z4.length : Int)) + (z5.length : Int)) + (z6.length : Int)) := w_heldInt64S_eq ((1 + (z4.length : Int)) + (z5.length : Int)) z6.length (by omega) (by omega) b_z6
  have f17 : decide ((((1 + (z4.length : Int)) + (z5.length : Int)) + (z6.length : Int)) < 0) = false := by simp <;> omega
  simp only [w_FnExactFactorBoth, w_eqFactor, w_eqMatrix, w_heldFactor, w_heldMatrix, w_markFactor_02o_03o1, w_markMatrix_02o, w_szMatrix, w_toMatrix, e0, d0, f1, p1, p2, f2, f3, f4, f5, f6, f7, f8, f9, f10, f11, f12, f13, f14, f15, f16, f17, obind_eq, obind2_eq, obind3_eq, obind4_eq, obind5_eq, obind6_eq, obind7_eq, obind8_eq, bsel_true, bsel_false, need_true, olet_eq, marks_len, marksI_len, decide_true, Bool.not_true, Bool.not_false]

end Go.Proofs.Ytjbifkimffmhpaa
