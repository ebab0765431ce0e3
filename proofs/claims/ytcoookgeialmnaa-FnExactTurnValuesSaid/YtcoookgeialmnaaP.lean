/- The plain law of FnExactTurnValues. -/
import Derived.Test.YtcoookgeialmnaaG2
namespace Go.Proofs.Ytcoookgeialmnaa
set_option linter.unusedSimpArgs false
set_option linter.unusedVariables false
open Go Go.AM
def Small {α : Type} (l : List α) : Prop := l.length ≤ 9223372036854775807
theorem sz_one (n : Nat) (a : Int) (hn : n ≤ 9223372036854775807) (h0 : 0 ≤ a) (h1 : a ≤ 1048576) :
    ∃ r, olet (IntKind.i64.wrap (a - (n : Int))) (fun x1 => bsel (decide (x1 < 0)) (some (-1)) (some x1)) = some r ∧ (0 ≤ r → (n : Int) ≤ a ∧ r ≤ a) := by
  rw [wrap_i64 (by omega) (by omega)]
  simp only [olet_eq, bsel_if, decide_eq_true_eq]
  split
  · exact ⟨_, rfl, fun h => by omega⟩
  · exact ⟨_, rfl, fun h => by omega⟩
theorem w_szFloat32S_ex (l : List F) (a : Int) (hn : Small l) (h0 : 0 ≤ a) (h1 : a ≤ 1048576) : ∃ r, w_szFloat32S l a = some r ∧ (0 ≤ r → (l.length : Int) ≤ a ∧ r ≤ a) := sz_one l.length a hn h0 h1
theorem w_toFloat32S_eq (a : List F) (h : a.length ≤ 1048576) : w_toFloat32S a = some a := by
  unfold w_toFloat32S
  have hm : mkok 4 (a.length : Int) = true := by simp [mkok]; omega
  rw [hm, need_true, loop_copy (a := a) (ρ := List F) ?_ ?_ _ (by simp)]
  · rfl
  · intro L v x h0 hv hx hL
    show w_toFloat32S_b1 a L v = _
    unfold w_toFloat32S_b1
    have hs := setAt?_of (l := L) (x := x) h0 (by omega)
    simp [bsel_if, hv, at?_of h0 hx, hs, wrap_succ h0 hv (by omega : a.length ≤ 9223372036854775807)]
  · intro L hL
    show w_toFloat32S_b1 a L (a.length : Int) = _
    unfold w_toFloat32S_b1
    simp [bsel_if]
theorem w_sameFloat_refl (c : F) : w_sameFloat c c = some true := by
  unfold w_sameFloat
  cases h : feq .f64 c c <;> simp [w_sameFloat_k1, h, bsel_if]
theorem w_eqFloat32S_refl (a : List F) (h : a.length ≤ 1048576) : w_eqFloat32S a a = some true := by
  unfold w_eqFloat32S
  rw [loop_eq (l := a) (m := a) rfl ?_ ?_]
  · simp [bsel_if, w_eqFloat32S_k1]
  · intro v x y h0 hv hx hy
    rw [hx] at hy; cases hy
    show w_eqFloat32S_b1 a a v = _
    unfold w_eqFloat32S_b1
    rw [at?_of h0 hx, wrap_succ h0 hv (by omega)]
    simp [bsel_if, hv, w_sameFloat_refl]
  · show w_eqFloat32S_b1 a a (a.length : Int) = _
    unfold w_eqFloat32S_b1
    simp [bsel_if]
def FOks (l : List F) : Prop := ∀ c ∈ l, FOk .f32 c
theorem FOks.at {l : List F} (h : FOks l) {i : Nat} {c : F} (e : l[i]? = some c) : FOk .f32 c := h c (List.mem_of_getElem? e)
theorem s_l00In_eq (n lo hi : Int) : s_l00In n lo hi = some (decide (lo ≤ n) && decide (n ≤ hi)) := by
  unfold s_l00In; cases decide (lo ≤ n) <;> rfl
theorem i_inRange_eq (n lo hi : Int) : i_inRange n lo hi = some (decide (lo ≤ n) && decide (n ≤ hi)) := by
  unfold i_inRange; cases decide (lo ≤ n) <;> rfl
theorem s_l01Finite_eq {c : F} (h : FOk .f32 c) : s_l01Finite c = some (fin32 c) := by
  unfold s_l01Finite; rw [olet_eq, sub_self h]
theorem s_l02Finite_eq {a : List F} (ha : FOks a) (sa : a.length ≤ 1048576) : s_l02Finite a = some (a.all fin32) := by
  unfold s_l02Finite
  rw [loop_all (l := a) (p := fin32) false ?_ ?_]
  · cases h : a.all fin32 <;> simp [s_l02Finite_k1]
  · intro v x h0 hv hx
    show s_l02Finite_b1 a v = _
    unfold s_l02Finite_b1
    rw [at?_of h0 hx, wrap_succ h0 hv (by omega)]
    simp [bsel_if, hv, s_l01Finite_eq (ha.at hx)]
  · show s_l02Finite_b1 a (a.length : Int) = _
    unfold s_l02Finite_b1
    simp [bsel_if]
theorem i_IsFinite_eq {c : F} (h : FOk .f32 c) : i_IsFinite c = some (fin32 c) := by
  unfold i_IsFinite i_isFinite64 x_math_IsNaN x_math_IsInf x_math_Abs x_math_IsInf_k1
  cases c with
  | none => simp [fwiden, fin32]
  | some b =>
    have hw := feq_refl (k := .f64) (b := FloatKind.f64.encode (FloatKind.f32.decode b)) (fwiden_ok h)
    have hw' : feq .f64 (fwiden (some b)) (fwiden (some b)) = true := hw
    have hm := fabs_max h (by simp)
    simp only [olet_eq, obind_eq, hw', Bool.not_true, bsel_false, decide_true, bsel_true, hm, Bool.not_not]
theorem i_areFinite_1_eq {c : F} (h : FOk .f32 c) : i_areFinite_1 c = some (!fin32 c) := by
  unfold i_areFinite_1; rw [i_IsFinite_eq h]; rfl
theorem any_not {α : Type} (l : List α) (p : α → Bool) : l.any (fun x => !p x) = !l.all p := by
  induction l with
  | nil => rfl
  | cons a l ih => simp [ih]
theorem i_areFinite_eq {a : List F} (ha : FOks a) (sa : a.length ≤ 1048576) : i_areFinite a = some (a.all fin32) := by
  unfold i_areFinite x_slices_ContainsFunc_float32_float32_1Fi_areFinite_1 x_slices_IndexFunc_float32_float32_1Fi_areFinite_1
  obtain ⟨r, h1, h2⟩ := loop_find (l := a) (p := fun c => !fin32 c) (step := x_slices_IndexFunc_float32_float32_1Fi_areFinite_1_s1 a) (by
    intro v x h0 hv hx
    show x_slices_IndexFunc_float32_float32_1Fi_areFinite_1_b1 a v = _
    unfold x_slices_IndexFunc_float32_float32_1Fi_areFinite_1_b1
    rw [at?_of h0 hx, wrap_succ h0 hv (by omega)]
    simp [bsel_if, hv, i_areFinite_1_eq (ha.at hx)]) (by
    show x_slices_IndexFunc_float32_float32_1Fi_areFinite_1_b1 a (a.length : Int) = _
    unfold x_slices_IndexFunc_float32_float32_1Fi_areFinite_1_b1
    simp [bsel_if])
  rw [h1, any_not]
  cases h : a.all fin32 <;> simp [x_slices_IndexFunc_float32_float32_1Fi_areFinite_1_k1, h2]
theorem fint_ok (n : Int) : FOk .f32 (fint .f32 n) := ⟨_, encode_FR .f32 (d := .number (n < 0) n.natAbs 0) rfl⟩
theorem feq_fint (n : Int) : feq .f32 (fint .f32 n) (fint .f32 n) = true := feq_refl (fint_ok n)
def marks (k : Int) (n : Nat) : List F := (List.range n).map fun (i : Nat) => fint .f32 (k + (i : Int))
def marksI (k : Int) (n : Nat) : List Int := (List.range n).map fun (i : Nat) => k + (i : Int)
theorem marks_len (k : Int) (n : Nat) : (marks k n).length = n := by simp [marks]
theorem marksI_len (k : Int) (n : Nat) : (marksI k n).length = n := by simp [marksI]
theorem loop_mark {α ρ : Type} (mk : Int → α) (k : Int) (n : Nat) {step : List α × Int × Int → Option (LR (List α × Int × Int) (List α × Int) ρ)}
    (hstep : ∀ (L : List α) (i : Nat), i < n → L.length = n → step (L, k + (i : Int), (i : Int)) = some (.next (L.set i (mk (k + (i : Int))), k + ((i + 1 : Nat) : Int), ((i + 1 : Nat) : Int))))
    (hend : ∀ L : List α, L.length = n → step (L, k + (n : Int), (n : Int)) = some (.out (L, k + (n : Int)))) (a : List α) (ha : a.length = n) :
    loopM step (a, k, 0) = some (.inl ((List.range n).map (fun (i : Nat) => mk (k + (i : Int))), k + (n : Int))) := by
  have key : ∀ (m i : Nat) (L : List α), m + i = n → L.length = n → L.take i = (List.range i).map (fun (i : Nat) => mk (k + (i : Int))) → loopM step (L, k + (i : Int), (i : Int)) = some (.inl ((List.range n).map (fun (i : Nat) => mk (k + (i : Int))), k + (n : Int))) := by
    intro m
    induction m with
    | zero =>
      intro i L hi hL ht
      have : i = n := by omega
      subst this
      rw [loopM_out (hend L hL), ← ht, ← hL, List.take_length]
    | succ m ih =>
      intro i L hi hL ht
      rw [loopM_next (hstep L i (by omega) hL)]
      refine ih (i + 1) _ (by omega) (by simpa using hL) ?_
      rw [List.take_succ_eq_append_getElem (by simp; omega), List.take_set_of_le (Nat.le_refl _), ht, List.range_succ, List.map_append]
      simp
  have := key n 0 a (by omega) ha (by simp)
  simpa using this
theorem w_markFloat32S_0o_eq (k : Int) (a : List F) (h0 : -1000000000 ≤ k) (h1 : k ≤ 1000000000) (ha : a.length ≤ 1048576) : w_markFloat32S_0o k a = some (k + (a.length : Int), marks k a.length) := by
  unfold w_markFloat32S_0o
  rw [loop_mark (fun n => fint .f32 n) k a.length (step := w_markFloat32S_0o_s1 a) ?_ ?_ a rfl]
  · rfl
  · intro L i hi hL
    show w_markFloat32S_0o_b1 a L (k + (i : Int)) (i : Int) = _
    unfold w_markFloat32S_0o_b1
    have hs := setAt?_of (l := L) (v := (i : Int)) (x := fint .f32 (k + (i : Int))) (by omega) (by omega)
    have e1 : IntKind.i64.wrap (k + (i : Int) + 1) = k + ((i + 1 : Nat) : Int) := by rw [wrap_i64 (by omega) (by omega)]; omega
    have e2 : IntKind.i64.wrap ((i : Int) + 1) = ((i + 1 : Nat) : Int) := by rw [wrap_i64 (by omega) (by omega)]; omega
    simp only [olet_eq, hs, obind_eq, e1, e2, bsel_if, decide_eq_true_eq]
    rw [if_pos (by omega)]
    rfl
  · intro L hL
    show w_markFloat32S_0o_b1 a L (k + (a.length : Int)) (a.length : Int) = _
    unfold w_markFloat32S_0o_b1
    simp [bsel_if]
theorem loop_held {k : Int} {n : Nat} {step : Int × Int → Option (LR (Int × Int) Int Int)}
    (hstep : ∀ i : Nat, i < n → step (k + (i : Int), (i : Int)) = some (.next (k + ((i + 1 : Nat) : Int), ((i + 1 : Nat) : Int)))) (hend : step (k + (n : Int), (n : Int)) = some (.out (k + (n : Int)))) :
    loopM step (k, 0) = some (.inl (k + (n : Int))) := by
  have key : ∀ (m i : Nat), m + i = n → loopM step (k + (i : Int), (i : Int)) = some (.inl (k + (n : Int))) := by
    intro m
    induction m with
    | zero => intro i hi; have : i = n := by omega
              subst this; exact loopM_out hend
    | succ m ih => intro i hi; rw [loopM_next (hstep i (by omega))]; exact ih (i + 1) (by omega)
  have := key n 0 (by omega)
  simpa using this
theorem w_heldFloat32S_eq (k : Int) (n : Nat) (h0 : -1000000000 ≤ k) (h1 : k ≤ 1000000000) (hn : n ≤ 1048576) : w_heldFloat32S (marks k n) k = some (k + (n : Int)) := by
  unfold w_heldFloat32S
  rw [loop_held (k := k) (n := n) (step := w_heldFloat32S_s1 (marks k n)) ?_ ?_]
  · rfl
  · intro i hi
    show w_heldFloat32S_b1 (marks k n) (k + (i : Int)) (i : Int) = _
    unfold w_heldFloat32S_b1
    have hx : (marks k n)[(i : Int).toNat]? = some (fint .f32 (k + (i : Int))) := by simp [marks, hi]
    have e1 : IntKind.i64.wrap (k + (i : Int) + 1) = k + ((i + 1 : Nat) : Int) := by rw [wrap_i64 (by omega) (by omega)]; omega
    have e2 : IntKind.i64.wrap ((i : Int) + 1) = ((i + 1 : Nat) : Int) := by rw [wrap_i64 (by omega) (by omega)]; omega
    rw [at?_of (by omega) hx]
    simp only [olet_eq, obind_eq, e1, e2, bsel_if, decide_eq_true_eq, marks_len, feq_fint]
    rw [if_pos (by omega)]
    simp
  · show w_heldFloat32S_b1 (marks k n) (k + (n : Int)) (n : Int) = _
    unfold w_heldFloat32S_b1
    simp [bsel_if, marks_len]
abbrev q1 : List F := [some 1073741824, some 1065353216, some 1065353216, some 1073741824]
abbrev q2 : List F := [some 1065353216, some 0]
abbrev q3 : List F := [some 1073741824, some 1073741824]
abbrev q4 : List F := [some 1065353216]
theorem small_mul {x y : Nat} (hx : x ≤ 12) (hy : y ≤ 12) : x * y ≤ 144 := Nat.mul_le_mul hx hy
def side (n : Int) : Bool := decide (1 ≤ n) && decide (n ≤ 12)
theorem s_l02Sides_eq (x y : Int) : s_l02Sides x y = some (side x && side y) := by
  unfold s_l02Sides; rw [s_l00In_eq, s_l00In_eq]; unfold side
  cases decide (1 ≤ x) <;> cases decide (x ≤ 12) <;> rfl
theorem i_isSide_eq (x : Int) : i_isSide x = some (side x) := by
  unfold i_isSide; rw [i_inRange_eq]; rfl
def validM (a0 a1 : Int) (a2 : List F) : Bool := side a0 && side a1 && decide ((a2.length : Int) = IntKind.i64.wrap (a0 * a1)) && a2.all fin32
theorem s_l02Is_eq (a0 a1 : Int) {a2 : List F} (g2 : FOks a2) (s2 : a2.length ≤ 1048576) : s_l02Is a0 a1 a2 = some (validM a0 a1 a2) := by
  unfold s_l02Is validM
  rw [s_l02Sides_eq, s_l02Finite_eq g2 s2]
  cases side a0 <;> cases side a1 <;> simp [bsel_if] <;> split <;> simp_all
theorem i_ValidMatrix_eq (a0 a1 : Int) {a2 : List F} (g2 : FOks a2) (s2 : a2.length ≤ 1048576) : i_ValidMatrix a0 a1 a2 = some (validM a0 a1 a2) := by
  unfold i_ValidMatrix i_length_float32 validM
  rw [i_isSide_eq, i_isSide_eq, i_areFinite_eq g2 s2]
  cases side a0 <;> cases side a1 <;> simp [bsel_if] <;> split <;> simp_all
theorem side_nat {n : Int} (h : side n = true) : ∃ m : Nat, n = (m : Int) ∧ 0 < m ∧ m ≤ 12 := by
  simp [side] at h
  exact ⟨n.toNat, by omega, by omega, by omega⟩
theorem FOks.getD {l : List F} (h : FOks l) (n : Nat) : FOk .f32 (l.getD n none) := by
  simp only [List.getD]
  cases e : l[n]? with
  | none => exact fok_none _
  | some c => exact h.at e
theorem FOks.set {l : List F} (h : FOks l) {n : Nat} {x : F} (hx : FOk .f32 x) : FOks (l.set n x) := by
  intro c hc
  rcases List.mem_or_eq_of_mem_set hc with h1 | h1
  · exact h c h1
  · exact h1 ▸ hx
theorem wsucc {i : Nat} (h : i ≤ 1000000000) : IntKind.i64.wrap ((i : Int) + 1) = ((i + 1 : Nat) : Int) := by
  rw [wrap_i64 (by omega) (by omega)]; omega
theorem dlt {i n : Nat} (h : i < n) : decide ((i : Int) < (n : Int)) = true := by simp; omega
theorem dnlt {n : Nat} : decide ((n : Int) < (n : Int)) = false := by simp
theorem i_Matrix_at_eq {A C i k : Nat} {L : List F} (r : Int) (h : Mat A C L) (hi : i < A) (hk : k < C) : i_Matrix_at r (C : Int) L (i : Int) (k : Int) = some (gm none L C i k) := by
  obtain ⟨e1, e2⟩ := idx_w h.A1 h.C1 hi hk
  unfold i_Matrix_at
  rw [e1, olet_eq, e2, olet_eq, at?_n none (h.lt hi hk), obind_eq]
theorem s_l02At_eq {A C i k : Nat} {L : List F} (r : Int) (h : Mat A C L) (hi : i < A) (hk : k < C) : s_l02At r (C : Int) L (i : Int) (k : Int) = some (gm none L C i k) := by
  obtain ⟨e1, e2⟩ := idx_w h.A1 h.C1 hi hk
  unfold s_l02At
  rw [e1, olet_eq, e2, olet_eq, at?_n none (h.lt hi hk), obind_eq]
theorem i_Matrix_set_02o_eq {A C i k : Nat} {L : List F} (r : Int) (h : Mat A C L) (hi : i < A) (hk : k < C) (x : F) : i_Matrix_set_02o r (C : Int) (i : Int) (k : Int) x L = some (sm L C i k x) := by
  obtain ⟨e1, e2⟩ := idx_w h.A1 h.C1 hi hk
  unfold i_Matrix_set_02o
  rw [e1, olet_eq, e2, olet_eq, setAt?_n x (h.lt hi hk), obind_eq]
theorem i_absolute_eq {c : F} (h : FOk .f32 c) : i_absolute c = some (fabs32 c) := by
  unfold i_absolute x_math_Abs
  rw [olet_eq, olet_eq, obind_eq, abs_narrow h, obind_eq]
theorem s_l02Size_eq {c : F} (h : FOk .f32 c) : s_l02Size c = some (fabs32 c) := by
  unfold s_l02Size
  rw [← size_abs h, bsel_if, olet_eq]
  split <;> rfl
theorem i_mul_eq (a b : F) : i_mul a b = some (fop .mul .f32 a b) := rfl
theorem getD_of_lt {α : Type} {l : List α} {n : Nat} (d : α) (h : n < l.length) : l[n]? = some (l.getD n d) := by simp [List.getD, h]
theorem fin_all {L : List F} : L.all fin32 = true ↔ ∀ n, n < L.length → fin32 (L.getD n none) = true := by
  rw [List.all_eq_true]
  constructor
  · intro h n hn; exact h _ (List.mem_of_getElem? (getD_of_lt none hn))
  · intro h c hc
    obtain ⟨n, hn, e⟩ := List.mem_iff_getElem.1 hc
    have := h n hn
    simpa [List.getD, hn, e] using this
def upTo (n : Nat) : List Int := (List.range n).map fun (i : Nat) => (i : Int)
theorem upTo_len (n : Nat) : (upTo n).length = n := by simp [upTo]
theorem run_upTo : ∀ n : Nat, run (fun (i : Nat) (l : List Int) => l ++ [(i : Int)]) 0 n [] = upTo n
  | 0 => rfl
  | n + 1 => by rw [run_last, run_upTo n]; simp [upTo, List.range_succ]
theorem i_ascending_eq {n : Nat} (hn : n ≤ 12) : i_ascending (n : Int) = some (upTo n) := by
  obtain ⟨e, _⟩ := loop_run (step := i_ascending_s1 (n : Int)) (fun c L => (L, (c : Int))) (fun (i : Nat) (l : List Int) => l ++ [(i : Int)]) (fun L => L) (fun i L => L.length = i) (lo := 0) (n := n) (Nat.zero_le _) (s0 := []) rfl
    (fun c L h1 h2 h3 => by
      refine ⟨?_, by simp [h3]⟩
      show i_ascending_b1 _ _ _ = _
      unfold i_ascending_b1
      have ap : apok 8 L.length 1 = true := by simp [apok]; omega
      rw [dlt h2, bsel_true, ap, need_true, wsucc (by omega)]
      rfl)
    (fun L _ => by
      show i_ascending_b1 _ _ _ = _
      unfold i_ascending_b1
      rw [dnlt, bsel_false])
  unfold i_ascending
  replace e : loopM (i_ascending_s1 (n : Int)) ([], 0) = some (.inl (run (fun (i : Nat) (l : List Int) => l ++ [(i : Int)]) 0 (n - 0) [])) := e
  rw [e, Nat.sub_zero, run_upTo]; rfl
theorem s_l02Square_eq (a0 a1 : Int) {a2 : List F} (g2 : FOks a2) (s2 : a2.length ≤ 1048576) : s_l02Square a0 a1 a2 = some (validM a0 a1 a2 && decide (a0 = a1)) := by
  unfold s_l02Square
  rw [s_l02Is_eq a0 a1 g2 s2, obind_eq]
  cases validM a0 a1 a2 <;> rfl
theorem i_isSquare_eq (a0 a1 : Int) {a2 : List F} (g2 : FOks a2) (s2 : a2.length ≤ 1048576) : i_isSquare a0 a1 a2 = some (validM a0 a1 a2 && decide (a0 = a1)) := by
  unfold i_isSquare
  rw [i_ValidMatrix_eq a0 a1 g2 s2, obind_eq]
  cases validM a0 a1 a2 <;> rfl
theorem valid_mat {a0 a1 : Int} {a2 : List F} (h : validM a0 a1 a2 = true) : ∃ A C : Nat, a0 = (A : Int) ∧ a1 = (C : Int) ∧ 0 < A ∧ 0 < C ∧ Mat A C a2 ∧ a2.all fin32 = true := by
  simp only [validM, Bool.and_eq_true, decide_eq_true_eq] at h
  obtain ⟨⟨⟨v1, v2⟩, v3⟩, v4⟩ := h
  obtain ⟨A, rfl, A0, A1⟩ := side_nat v1
  obtain ⟨C, rfl, C0, C1⟩ := side_nat v2
  have hAC := small_mul A1 C1
  rw [← Int.natCast_mul, wn (by omega)] at v3
  exact ⟨A, C, rfl, rfl, A0, C0, ⟨A1, C1, by omega⟩, v4⟩
theorem mat_valid {A C : Nat} {L : List F} (h : Mat A C L) (hA : 0 < A) (hC : 0 < C) : validM (A : Int) (C : Int) L = L.all fin32 := by
  unfold validM side
  have hAC := small_mul h.A1 h.C1
  have h1 := h.A1
  have h2 := h.C1
  rw [← Int.natCast_mul, wn (by omega), h.len]
  have e1 : decide ((1 : Int) ≤ (A : Int)) = true := by simp; omega
  have e2 : decide ((A : Int) ≤ 12) = true := by simp; omega
  have e3 : decide ((1 : Int) ≤ (C : Int)) = true := by simp; omega
  have e4 : decide ((C : Int) ≤ 12) = true := by simp; omega
  rw [e1, e2, e3, e4]
  simp
theorem s_l02Own_eq (a0 a1 : Int) {L : List F} (h : L.length ≤ 1048576) : s_l02Own a0 a1 L = some (a0, a1, L) := by
  have ap : apok 4 0 L.length = true := by simp [apok]; omega
  unfold s_l02Own; rw [ap]; rfl
theorem i_Matrix_clone_eq (a0 a1 : Int) {L : List F} (h : L.length ≤ 1048576) : i_Matrix_clone a0 a1 L = some (a0, a1, L) := by
  have ap : apok 4 0 L.length = true := by simp [apok]; omega
  unfold i_Matrix_clone x_slices_Clone_float32_float32; rw [ap]; rfl
theorem i_RootNumber_eq {y : F} (h : FOk .f32 y) : i_RootNumber y = some (rootN y) := by
  unfold i_RootNumber x_math_Sqrt
  rw [olet_eq, olet_eq, obind_eq, root_narrow h]; rfl
theorem s_l01Sqrt_eq {y : F} (h : FOk .f32 y) : s_l01Sqrt y = some (rootN y) := by
  unfold s_l01Sqrt x_math_Sqrt s_l01Narrow
  rw [olet_eq, olet_eq, obind_eq, root_narrow h]; rfl
theorem s_l02Zero_eq {A C : Nat} (hA : A ≤ 12) (hC : C ≤ 12) : s_l02Zero (A : Int) (C : Int) = some ((A : Int), (C : Int), List.replicate (A * C) (some 0)) := by
  have hAC := small_mul hA hC
  unfold s_l02Zero
  have mk : mkok 4 ((A * C : Nat) : Int) = true := by simp [mkok]; omega
  rw [← Int.natCast_mul, wn (by omega), olet_eq, mk]; rfl
theorem i_newMatrix_eq {A C : Nat} (hA : A ≤ 12) (hC : C ≤ 12) : i_newMatrix (A : Int) (C : Int) = some ((A : Int), (C : Int), List.replicate (A * C) (some 0)) := by
  have hAC := small_mul hA hC
  unfold i_newMatrix
  have mk : mkok 4 ((A * C : Nat) : Int) = true := by simp [mkok]; omega
  rw [← Int.natCast_mul, wn (by omega), olet_eq, mk]; rfl
theorem mat_ext {A C : Nat} {L L' : List F} (h : Mat A C L) (h' : Mat A C L') (e : ∀ i k, i < A → k < C → gm none L C i k = gm none L' C i k) : L = L' := by
  apply List.ext_getElem?
  intro q
  by_cases hq : q < A * C
  · have hC : 0 < C := by
      rcases Nat.eq_zero_or_pos C with h0 | h0
      · subst h0; simp at hq
      · exact h0
    have h1 : q / C < A := (Nat.div_lt_iff_lt_mul hC).2 hq
    have h2 : q % C < C := Nat.mod_lt _ hC
    have h3 : q / C * C + q % C = q := by rw [Nat.mul_comm]; exact Nat.div_add_mod q C
    have := e _ _ h1 h2
    unfold gm at this
    rw [h3] at this
    rw [getD_of_lt none (by rw [h.len]; exact hq), getD_of_lt none (by rw [h'.len]; exact hq), this]
  · rw [List.getElem?_eq_none (by rw [h.len]; omega), List.getElem?_eq_none (by rw [h'.len]; omega)]
def fillR (f : Nat → Nat → F) (C i : Nat) (L : List F) : List F := run (fun k L => sm L C i k (f i k)) 0 C L
def fillA (f : Nat → Nat → F) (A C : Nat) (L : List F) : List F := run (fillR f C) 0 A L
theorem fillR_spec {f : Nat → Nat → F} {A C i : Nat} {L : List F} (h : Mat A C L) (hi : i < A) : Mat A C (fillR f C i L) ∧ ∀ j k, j < A → k < C → gm none (fillR f C i L) C j k = if j = i then f i k else gm none L C j k := by
  have := run_inv (f := fun k L => sm L C i k (f i k)) (fun c L' => Mat A C L' ∧ ∀ j k, j < A → k < C → gm none L' C j k = if j = i ∧ k < c then f i k else gm none L C j k) C 0 L ⟨h, fun j k _ _ => by simp⟩ (fun c L' _ hc hI => by
    refine ⟨hI.1.set _ _ _, fun j k hj hk => ?_⟩
    rw [gm_set hI.1 hi (by omega) hk, hI.2 j k hj hk]
    by_cases e1 : i = j
    · subst e1
      by_cases e2 : c = k
      · subst e2; simp
      · by_cases e3 : k < c
        · rw [if_neg (by omega), if_pos (by omega), if_pos (by omega)]
        · rw [if_neg (by omega), if_neg (by omega), if_neg (by omega)]
    · rw [if_neg (by omega), if_neg (by omega), if_neg (by omega)])
  refine ⟨this.1, fun j k hj hk => ?_⟩
  unfold fillR
  rw [this.2 j k hj hk]
  by_cases e : j = i
  · rw [if_pos ⟨e, by omega⟩, if_pos e]
  · rw [if_neg (by omega), if_neg e]
theorem fillA_spec {f : Nat → Nat → F} {A C : Nat} {L : List F} (h : Mat A C L) : Mat A C (fillA f A C L) ∧ ∀ j k, j < A → k < C → gm none (fillA f A C L) C j k = f j k := by
  have := run_inv (f := fillR f C) (fun r L' => Mat A C L' ∧ ∀ j k, j < r → j < A → k < C → gm none L' C j k = f j k) A 0 L ⟨h, fun j k hj _ _ => by omega⟩ (fun r L' _ hr hI => by
    obtain ⟨s1, s2⟩ := fillR_spec (f := f) hI.1 (show r < A by omega)
    refine ⟨s1, fun j k hj hjA hk => ?_⟩
    rw [s2 j k hjA hk]
    by_cases e : j = r
    · rw [if_pos e, e]
    · rw [if_neg e]; exact hI.2 j k (by omega) hjA hk)
  exact ⟨this.1, fun j k hj hk => this.2 j k (by omega) hj hk⟩
def tabM (A C : Nat) (f : Nat → Nat → F) : List F := fillA f A C (List.replicate (A * C) (some 0))
theorem zmat {A C : Nat} (hA : A ≤ 12) (hC : C ≤ 12) : Mat A C (List.replicate (A * C) (some 0 : F)) := ⟨hA, hC, by simp⟩
theorem tabM_mat {A C : Nat} {f : Nat → Nat → F} (hA : A ≤ 12) (hC : C ≤ 12) : Mat A C (tabM A C f) := (fillA_spec (zmat hA hC)).1
theorem tabM_gm {A C : Nat} {f : Nat → Nat → F} (hA : A ≤ 12) (hC : C ≤ 12) {i k : Nat} (hi : i < A) (hk : k < C) : gm none (tabM A C f) C i k = f i k := (fillA_spec (zmat hA hC)).2 i k hi hk
theorem oks_of_gm {A C : Nat} {L : List F} (h : Mat A C L) (e : ∀ i k, i < A → k < C → FOk .f32 (gm none L C i k)) : FOks L := by
  intro c hc
  obtain ⟨q, hq, rfl⟩ := List.mem_iff_getElem.1 hc
  have hq' : q < A * C := by rw [← h.len]; exact hq
  have hC : 0 < C := by
    rcases Nat.eq_zero_or_pos C with h0 | h0
    · subst h0; simp at hq'
    · exact h0
  have h1 : q / C < A := (Nat.div_lt_iff_lt_mul hC).2 hq'
  have h2 : q % C < C := Nat.mod_lt _ hC
  have h3 : q / C * C + q % C = q := by rw [Nat.mul_comm]; exact Nat.div_add_mod q C
  have := e _ _ h1 h2
  unfold gm at this
  rw [h3] at this
  simpa [List.getD, hq] using this
theorem tabM_oks {A C : Nat} {f : Nat → Nat → F} (hA : A ≤ 12) (hC : C ≤ 12) (hf : ∀ i k, FOk .f32 (f i k)) : FOks (tabM A C f) := oks_of_gm (tabM_mat hA hC) fun i k hi hk => by rw [tabM_gm hA hC hi hk]; exact hf i k
theorem run_map {α : Type} (f : Nat → α) : ∀ n : Nat, run (fun i (l : List α) => l ++ [f i]) 0 n [] = (List.range n).map f
  | 0 => rfl
  | n + 1 => by rw [run_last, run_map f n]; simp [List.range_succ]
def unitF (i k : Nat) : F := bif decide (i = k) then some 1065353216 else some 0
theorem unitF_ok (i k : Nat) : FOk .f32 (unitF i k) := by
  unfold unitF
  cases decide (i = k)
  · exact ⟨0, rfl, by decide, rfl⟩
  · exact ⟨1065353216, rfl, by decide, rfl⟩
theorem i_unit_1_eq (i k : Nat) : i_unit_1 (i : Int) (k : Int) = some (unitF i k) := by
  unfold i_unit_1 unitF
  by_cases h : i = k
  · subst h; simp
  · rw [show decide ((i : Int) = (k : Int)) = false by simp; omega, show decide (i = k) = false by simp [h]]; rfl
theorem i_made_2Fi_unit_1_eq {A C : Nat} (hA : A ≤ 12) (hC : C ≤ 12) : i_made_2Fi_unit_1 (A : Int) (C : Int) = some ((A : Int), (C : Int), tabM A C unitF) := by
  have inner : ∀ (i : Nat) (L L0 : List F), i < A → Mat A C L → Mat A C L0 → loopM (i_made_2Fi_unit_1_s2 (C : Int) (A : Int) (C : Int) L0 (i : Int)) (L, 0) = some (.inl (fillR unitF C i L)) := by
    intro i L L0 hi hL hL0
    exact (loop_run (step := i_made_2Fi_unit_1_s2 (C : Int) (A : Int) (C : Int) L0 (i : Int)) (fun (k : Nat) (L : List F) => (L, (k : Int))) (fun k L => sm L C i k (unitF i k)) (fun L => L) (fun _ L => Mat A C L) (lo := 0) (n := C) (Nat.zero_le _) (s0 := L) hL
      (fun k L2 _ hk h3 => by
        refine ⟨?_, h3.set _ _ _⟩
        show i_made_2Fi_unit_1_b2 _ _ _ _ _ _ _ = _
        unfold i_made_2Fi_unit_1_b2
        have l1 : decide ((sm L2 C i k (unitF i k)).length = L0.length) = true := by simp [h3.len, hL0.len]
        rw [dlt hk, bsel_true, i_unit_1_eq, obind_eq, i_Matrix_set_02o_eq _ h3 hi hk, obind_eq, l1, need_true, wsucc (by omega)]
        rfl)
      (fun L2 _ => by
        show i_made_2Fi_unit_1_b2 _ _ _ _ _ _ _ = _
        unfold i_made_2Fi_unit_1_b2
        rw [dnlt, bsel_false])).1
  have e := (loop_run (step := i_made_2Fi_unit_1_s3 (A : Int) (C : Int) (A : Int) (C : Int) (List.replicate (A * C) (some 0))) (fun (i : Nat) (L : List F) => (L, (i : Int))) (fillR unitF C) (fun L => L) (fun _ L => Mat A C L) (lo := 0) (n := A) (Nat.zero_le _) (s0 := List.replicate (A * C) (some 0)) (zmat hA hC)
    (fun i L2 _ hi h3 => by
      refine ⟨?_, (fillR_spec h3 hi).1⟩
      show i_made_2Fi_unit_1_b3 _ _ _ _ _ _ _ = _
      unfold i_made_2Fi_unit_1_b3
      rw [dlt hi, bsel_true, inner i L2 _ hi h3 (zmat hA hC), obind_eq, osum_inl]
      unfold i_made_2Fi_unit_1_k2
      rw [wsucc (by omega)]
      rfl)
    (fun L2 _ => by
      show i_made_2Fi_unit_1_b3 _ _ _ _ _ _ _ = _
      unfold i_made_2Fi_unit_1_b3
      rw [dnlt, bsel_false])).1
  unfold i_made_2Fi_unit_1
  replace e : loopM (i_made_2Fi_unit_1_s3 (A : Int) (C : Int) (A : Int) (C : Int) (List.replicate (A * C) (some 0))) (List.replicate (A * C) (some 0), 0) = some (.inl (tabM A C unitF)) := e
  rw [i_newMatrix_eq hA hC, obind3_eq, e]; rfl
theorem i_unit_eq {n : Nat} (hn : n ≤ 12) : i_unit (n : Int) = some ((n : Int), (n : Int), tabM n n unitF) := by
  unfold i_unit
  rw [i_made_2Fi_unit_1_eq hn hn]; rfl
theorem s_l02Unit_eq {n : Nat} (hn : n ≤ 12) : s_l02Unit (n : Int) = some ((n : Int), (n : Int), tabM n n unitF) := by
  obtain ⟨e, _⟩ := loop_run (step := s_l02Unit_s1 (n : Int)) (fun (i : Nat) (L : List F) => (L, (i : Int))) (fun i L => sm L n i i (some 1065353216)) (fun L => L) (fun _ L => Mat n n L) (lo := 0) (n := n) (Nat.zero_le _) (s0 := List.replicate (n * n) (some 0)) (zmat hn hn)
    (fun i L _ hi h => by
      refine ⟨?_, h.set _ _ _⟩
      show s_l02Unit_b1 _ _ _ = _
      unfold s_l02Unit_b1
      obtain ⟨e1, e2⟩ := idx_w h.A1 h.C1 hi hi
      rw [dlt hi, bsel_true, e1, olet_eq, e2, olet_eq, setAt?_n _ (h.lt hi hi), obind_eq, wsucc (by omega)]
      rfl)
    (fun L _ => by
      show s_l02Unit_b1 _ _ _ = _
      unfold s_l02Unit_b1
      rw [dnlt, bsel_false])
  have hz : ∀ j k, j < n → k < n → gm none (List.replicate (n * n) (some 0 : F)) n j k = some 0 := by
    intro j k hj hk
    have := idx_lt hj hk
    simp [gm, List.getD, List.getElem?_replicate, this]
  have hrun := run_inv (f := fun i L => sm L n i i (some 1065353216)) (fun d L => Mat n n L ∧ ∀ j k, j < n → k < n → gm none L n j k = if j = k ∧ j < d then some 1065353216 else some 0) n 0 (List.replicate (n * n) (some 0)) ⟨zmat hn hn, fun j k hj hk => by rw [hz j k hj hk]; simp⟩ (fun d L _ hd hI => by
    refine ⟨hI.1.set _ _ _, fun j k hj hk => ?_⟩
    rw [gm_set hI.1 (by omega) (by omega) hk, hI.2 j k hj hk]
    by_cases e : d = j ∧ d = k
    · rw [if_pos e, if_pos (by omega)]
    · rw [if_neg e]
      by_cases e2 : j = k ∧ j < d
      · rw [if_pos e2, if_pos (by omega)]
      · rw [if_neg e2, if_neg (by omega)])
  have heq : run (fun i L => sm L n i i (some 1065353216)) 0 (n - 0) (List.replicate (n * n) (some 0 : F)) = tabM n n unitF := by
    refine mat_ext hrun.1 (tabM_mat hn hn) fun j k hj hk => ?_
    rw [tabM_gm hn hn hj hk]
    have := hrun.2 j k hj hk
    rw [Nat.sub_zero, this]
    unfold unitF
    by_cases e : j = k
    · rw [if_pos ⟨e, by omega⟩, show decide (j = k) = true by simp [e]]; rfl
    · rw [if_neg (fun h => e h.1), show decide (j = k) = false by simp [e]]; rfl
  unfold s_l02Unit
  replace e : loopM (s_l02Unit_s1 (n : Int)) (List.replicate (n * n) (some 0), 0) = some (.inl (run (fun i L => sm L n i i (some 1065353216)) 0 (n - 0) (List.replicate (n * n) (some 0)))) := e
  rw [s_l02Zero_eq hn hn, obind3_eq, e, obind_eq, osum_inl, heq]; rfl
theorem zero_ok : FOk .f32 (some 0) := ⟨0, rfl, by decide, rfl⟩
def cosT (t : F) : F × F := (fop .quo .f32 (some 1065353216) (rootN (fop .add .f32 (fop .mul .f32 t t) (some 1065353216))), fop .mul .f32 t (fop .quo .f32 (some 1065353216) (rootN (fop .add .f32 (fop .mul .f32 t t) (some 1065353216)))))
def cosP (a : F) : F × F := cosT (bif flt .f32 a (some 0) then fneg .f32 (fop .quo .f32 (some 1065353216) (fop .add .f32 (fabs32 a) (rootN (fop .add .f32 (fop .mul .f32 a a) (some 1065353216))))) else fop .quo .f32 (some 1065353216) (fop .add .f32 (fabs32 a) (rootN (fop .add .f32 (fop .mul .f32 a a) (some 1065353216)))))
theorem i_turnFor_eq {a : F} (h : FOk .f32 a) : i_turnFor a = some (cosP a) := by
  have hk : ∀ t, i_turnFor_k1 t = some (cosT t) := by
    intro t
    unfold i_turnFor_k1
    rw [i_mul_eq, obind_eq, olet_eq, i_RootNumber_eq (fop_fok _ _ _), obind_eq, olet_eq, i_mul_eq]; rfl
  unfold i_turnFor cosP
  rw [i_absolute_eq h, obind_eq, i_mul_eq, obind_eq, olet_eq, i_RootNumber_eq (fop_fok _ _ _), obind_eq, olet_eq, olet_eq]
  cases flt .f32 a (some 0) with
  | true => rw [bsel_true, olet_eq, hk]; rfl
  | false => rw [bsel_false, hk]; rfl
theorem s_l04Cosine_eq {a : F} (h : FOk .f32 a) : s_l04Cosine a = some (cosP a) := by
  have hk : ∀ t, s_l04Cosine_k1 t = some (cosT t) := by
    intro t
    unfold s_l04Cosine_k1
    rw [olet_eq, olet_eq, s_l01Sqrt_eq (fop_fok _ _ _), obind_eq, olet_eq, olet_eq]; rfl
  unfold s_l04Cosine cosP
  rw [s_l02Size_eq h, obind_eq, olet_eq, olet_eq, s_l01Sqrt_eq (fop_fok _ _ _), obind_eq, olet_eq, olet_eq]
  cases flt .f32 a (some 0) with
  | true => rw [bsel_true, olet_eq, hk]; rfl
  | false => rw [bsel_false, hk]; rfl
def turnQ (C i k : Nat) (c s : F) (r : Nat) (L : List F) : List F := sm (sm L C r i (fop .sub .f32 (fop .mul .f32 c (gm none L C r i)) (fop .mul .f32 s (gm none L C r k)))) C r k (fop .add .f32 (fop .mul .f32 s (gm none L C r i)) (fop .mul .f32 c (gm none L C r k)))
def turnK (A C i k : Nat) (c s : F) (L : List F) : List F := run (turnQ C i k c s) 0 A L
theorem turnQ_mat {A C i k r : Nat} {c s : F} {L : List F} (h : Mat A C L) : Mat A C (turnQ C i k c s r L) := (h.set _ _ _).set _ _ _
theorem turnK_mat {A C i k : Nat} {c s : F} {L : List F} (h : Mat A C L) : Mat A C (turnK A C i k c s L) := run_inv (fun _ L => Mat A C L) A 0 L h fun _ _ _ _ h => turnQ_mat h
theorem turnK_oks {A C i k : Nat} {c s : F} {L : List F} (h : FOks L) : FOks (turnK A C i k c s L) := run_inv (fun _ L => FOks L) A 0 L h fun _ _ _ _ h => (h.set (fop_fok _ _ _)).set (fop_fok _ _ _)
theorem i_Matrix_turnColumns_02o_eq {A C i k : Nat} {c s : F} {L : List F} (h : Mat A C L) (hi : i < C) (hk : k < C) : i_Matrix_turnColumns_02o (A : Int) (C : Int) (i : Int) (k : Int) c s L = some (turnK A C i k c s L) := by
  have hA := h.A1
  obtain ⟨e, _⟩ := loop_run (step := i_Matrix_turnColumns_02o_s1 (A : Int) (C : Int) (i : Int) (k : Int) c s L) (fun (r : Nat) (L : List F) => (L, (r : Int))) (turnQ C i k c s) (fun L => L) (fun _ L' => Mat A C L') (lo := 0) (n := A) (Nat.zero_le _) (s0 := L) h
    (fun r L' _ hr h3 => by
      refine ⟨?_, turnQ_mat h3⟩
      show i_Matrix_turnColumns_02o_b1 _ _ _ _ _ _ _ _ _ = _
      unfold i_Matrix_turnColumns_02o_b1
      have l1 : ∀ x, decide ((sm L' C r i x).length = L.length) = true := fun x => by simp [h3.len, h.len]
      have l2 : ∀ x y, decide ((sm (sm L' C r i x) C r k y).length = L.length) = true := fun x y => by simp [h3.len, h.len]
      rw [dlt hr, bsel_true, i_Matrix_at_eq _ h3 hr hi, obind_eq, i_Matrix_at_eq _ h3 hr hk, obind_eq, i_mul_eq, obind_eq, i_mul_eq, obind_eq, olet_eq, i_Matrix_set_02o_eq _ h3 hr hi, obind_eq, l1, need_true, i_mul_eq, obind_eq, i_mul_eq, obind_eq, olet_eq, i_Matrix_set_02o_eq _ (h3.set _ _ _) hr hk, obind_eq, l2, need_true, wsucc (by omega)]
      rfl)
    (fun L' _ => by
      show i_Matrix_turnColumns_02o_b1 _ _ _ _ _ _ _ _ _ = _
      unfold i_Matrix_turnColumns_02o_b1
      rw [dnlt, bsel_false])
  unfold i_Matrix_turnColumns_02o
  replace e : loopM (i_Matrix_turnColumns_02o_s1 (A : Int) (C : Int) (i : Int) (k : Int) c s L) (L, 0) = some (.inl (turnK A C i k c s L)) := e
  rw [e]; rfl
theorem s_l04Columns_0p0_C02o1_eq {A C i k : Nat} {c s : F} {L : List F} (h : Mat A C L) (hi : i < C) (hk : k < C) : s_l04Columns_0p0_C02o1 (i : Int) (k : Int) c s (A : Int) (C : Int) L = some (turnK A C i k c s L) := by
  have hA := h.A1
  obtain ⟨e, _⟩ := loop_run (step := s_l04Columns_0p0_C02o1_s1 (i : Int) (k : Int) c s (A : Int) (C : Int)) (fun (r : Nat) (L : List F) => (L, (r : Int))) (turnQ C i k c s) (fun L => L) (fun _ L' => Mat A C L') (lo := 0) (n := A) (Nat.zero_le _) (s0 := L) h
    (fun r L' _ hr h3 => by
      refine ⟨?_, turnQ_mat h3⟩
      show s_l04Columns_0p0_C02o1_b1 _ _ _ _ _ _ _ _ = _
      unfold s_l04Columns_0p0_C02o1_b1
      obtain ⟨e1, e2⟩ := idx_w h.A1 h.C1 hr hi
      obtain ⟨e3, e4⟩ := idx_w h.A1 h.C1 hr hk
      rw [dlt hr, bsel_true, s_l02At_eq _ h3 hr hi, obind_eq, s_l02At_eq _ h3 hr hk, obind_eq]
      simp only [olet_eq, e1, e2, e3, e4, obind_eq, setAt?_n _ (h3.lt hr hi), setAt?_n _ ((h3.set _ _ _).lt hr hk), wsucc (show r ≤ 1000000000 by omega)]
      rfl)
    (fun L' _ => by
      show s_l04Columns_0p0_C02o1_b1 _ _ _ _ _ _ _ _ = _
      unfold s_l04Columns_0p0_C02o1_b1
      rw [dnlt, bsel_false])
  unfold s_l04Columns_0p0_C02o1
  replace e : loopM (s_l04Columns_0p0_C02o1_s1 (i : Int) (k : Int) c s (A : Int) (C : Int)) (L, 0) = some (.inl (turnK A C i k c s L)) := e
  rw [e]; rfl
abbrev SD := List F × List F
structure SInv (A C : Nat) (s : SD) : Prop where
  m : Mat A C s.1
  g : FOks s.1
  n : Mat C C s.2
  h : FOks s.2
abbrev sdMk (k : Nat) (s : SD) : List F × List F × Int := (s.1, s.2, (k : Int))
def allP (p : Nat → Bool) : Nat → Nat → Bool
  | _, 0 => true
  | i, m + 1 => p i && allP p (i + 1) m
theorem loop_test {S : Type} {step : S → Option (LR S Unit Bool)} (mk : Nat → S) (p : Nat → Bool) (Inv : Nat → Prop) {lo n : Nat} (hlo : lo ≤ n) (h0 : Inv lo)
    (hs : ∀ i, lo ≤ i → i < n → Inv i → step (mk i) = some (bif p i then .next (mk (i + 1)) else .ret false) ∧ (p i = true → Inv (i + 1))) (he : Inv n → step (mk n) = some (.out ())) :
    loopM step (mk lo) = some (bif allP p lo (n - lo) then .inl () else .inr false) := by
  have key : ∀ (m i : Nat), i + m = n → lo ≤ i → Inv i → loopM step (mk i) = some (bif allP p i m then .inl () else .inr false) := by
    intro m
    induction m with
    | zero =>
      intro i hi _ hI
      have : i = n := by omega
      subst this
      exact loopM_out (he hI)
    | succ m ih =>
      intro i hi hl hI
      obtain ⟨h1, h2⟩ := hs i hl (by omega) hI
      cases hp : p i with
      | true =>
        rw [hp, cond_true] at h1
        rw [loopM_next h1, ih (i + 1) (by omega) (by omega) (h2 hp)]
        simp only [allP, hp, Bool.true_and]
      | false =>
        rw [hp, cond_false] at h1
        rw [loopM_ret h1]
        simp only [allP, hp, Bool.false_and]; rfl
  exact key (n - lo) lo (by omega) (Nat.le_refl _) h0
abbrev gI (l : List Int) (i : Nat) : Int := l.getD i 0
structure SpIn (S : Nat) (a1 a2 : List Int) : Prop where
  S1 : 1 ≤ S
  S2 : S ≤ 32
  l1 : a1.length = S + 1
  l2 : a2.length ≤ 512
  z : gI a1 0 = 0
  e : gI a1 S = (a2.length : Int)
structure SpGood (S : Nat) (a1 a2 : List Int) : Prop where
  s : ∀ i, i < S → gI a1 i ≤ gI a1 (i + 1)
  c : ∀ k, k < a2.length → 0 ≤ gI a2 k ∧ gI a2 k ≤ (S : Int) - 1
  o : ∀ i, i < S → ∀ k : Nat, gI a1 i < (k : Int) → (k : Int) < gI a1 (i + 1) → gI a2 (k - 1) < gI a2 k
theorem SpGood.mono {S : Nat} {a1 a2 : List Int} (h : SpGood S a1 a2) : ∀ (d i : Nat), i + d ≤ S → gI a1 i ≤ gI a1 (i + d)
  | 0, i, _ => Int.le_refl _
  | d + 1, i, hd => Int.le_trans (h.mono d i (by omega)) (h.s (i + d) (by omega))
theorem SpGood.lo {S : Nat} {a1 a2 : List Int} (h : SpGood S a1 a2) (i0 : SpIn S a1 a2) {i : Nat} (hi : i ≤ S) : 0 ≤ gI a1 i ∧ gI a1 i ≤ (a2.length : Int) := by
  have h1 := h.mono i 0 (by omega)
  have h2 := h.mono (S - i) i (by omega)
  rw [Nat.zero_add, i0.z] at h1
  rw [show i + (S - i) = S by omega, i0.e] at h2
  exact ⟨h1, h2⟩
theorem run_two {α β : Type} (f : Nat → α → α) (g : Nat → β → β) : ∀ (m i : Nat) (a : α) (b : β), run (fun i (t : α × β) => (f i t.1, g i t.2)) i m (a, b) = (run f i m a, run g i m b)
  | 0, _, _, _ => rfl
  | m + 1, i, a, b => by rw [run_succ, run_succ, run_succ]; exact run_two f g m (i + 1) _ _
structure SpOk (S : Nat) (a1 a2 : List Int) (a3 : List F) : Prop where
  i : SpIn S a1 a2
  g : SpGood S a1 a2
  l : a3.length = a2.length
theorem at?_i {α : Type} {L : List α} {v : Int} (d : α) (h0 : 0 ≤ v) (h : v.toNat < L.length) : at? L v = some (L.getD v.toNat d) := at?_of h0 (by simp [List.getD, h])
theorem SpOk.row {S : Nat} {a1 a2 : List Int} {a3 : List F} (h : SpOk S a1 a2 a3) {i : Nat} (hi : i < S) : 0 ≤ gI a1 i ∧ gI a1 i ≤ gI a1 (i + 1) ∧ gI a1 (i + 1) ≤ (a2.length : Int) :=
  ⟨(h.g.lo h.i (by omega)).1, h.g.s i hi, (h.g.lo h.i (i := i + 1) (by omega)).2⟩
theorem i_areFinite_two {a b : F} (ha : FOk .f32 a) (hb : FOk .f32 b) : i_areFinite ([a, b] : List F) = some (fin32 a && fin32 b) := by
  rw [i_areFinite_eq (fun c hc => by
    rcases List.mem_cons.1 hc with e | hc
    · rw [e]; exact ha
    · rw [List.mem_singleton.1 hc]; exact hb) (by simp)]
  simp
def loK (a1 : List Int) (i : Nat) : Nat := (gI a1 i).toNat
def laK (a1 : List Int) (i : Nat) : Nat := (gI a1 (i + 1)).toNat - 1
structure Root (S : Nat) (a1 a2 : List Int) (a3 : List F) : Prop where
  ok : SpOk S a1 a2 a3
  low : ∀ i, i < S → gI a1 i ≤ gI a1 (i + 1) - 1 ∧ gI a2 (laK a1 i) = (i : Int)
theorem Root.at {S : Nat} {a1 a2 : List Int} {a3 : List F} (h : Root S a1 a2 a3) {i : Nat} (hi : i < S) : loK a1 i ≤ laK a1 i ∧ laK a1 i < a2.length ∧ ((laK a1 i : Nat) : Int) = gI a1 (i + 1) - 1 ∧ ((loK a1 i : Nat) : Int) = gI a1 i := by
  obtain ⟨r1, r2, r3⟩ := h.ok.row hi
  obtain ⟨q1, _⟩ := h.low i hi
  unfold loK laK
  omega
def flipM (n : Nat) (P : List F) : List F := tabM n n (fun i k => gm none P n k i)
theorem flipM_mat {n : Nat} {P : List F} (hn : n ≤ 12) : Mat n n (flipM n P) := tabM_mat hn hn
theorem flipM_gm {n : Nat} {P : List F} (hn : n ≤ 12) {i k : Nat} (hi : i < n) (hk : k < n) : gm none (flipM n P) n i k = gm none P n k i := tabM_gm hn hn hi hk
theorem i_made_2Fi_Matrix_flip_1_eq {n : Nat} {P : List F} (m : Mat n n P) : i_made_2Fi_Matrix_flip_1 (n : Int) (n : Int) (n : Int) (n : Int) P = some ((n : Int), (n : Int), flipM n P) := by
  have hn := m.A1
  have inner : ∀ (i : Nat) (L L0 : List F), i < n → Mat n n L → Mat n n L0 → loopM (i_made_2Fi_Matrix_flip_1_s2 (n : Int) (n : Int) (n : Int) P (n : Int) (n : Int) L0 (i : Int)) (L, 0) = some (.inl (fillR (fun i k => gm none P n k i) n i L)) := by
    intro i L L0 hi hL hL0
    exact (loop_run (step := i_made_2Fi_Matrix_flip_1_s2 (n : Int) (n : Int) (n : Int) P (n : Int) (n : Int) L0 (i : Int)) (fun (k : Nat) (L : List F) => (L, (k : Int))) (fun k L => sm L n i k (gm none P n k i)) (fun L => L) (fun _ L => Mat n n L) (lo := 0) (n := n) (Nat.zero_le _) (s0 := L) hL
      (fun k L2 _ hk h3 => by
        refine ⟨?_, h3.set _ _ _⟩
        show i_made_2Fi_Matrix_flip_1_b2 _ _ _ _ _ _ _ _ _ _ = _
        unfold i_made_2Fi_Matrix_flip_1_b2 i_Matrix_flip_1
        have l1 : decide ((sm L2 n i k (gm none P n k i)).length = L0.length) = true := by simp [h3.len, hL0.len]
        rw [dlt hk, bsel_true, i_Matrix_at_eq _ m hk hi, obind_eq, obind_eq, i_Matrix_set_02o_eq _ h3 hi hk, obind_eq, l1, need_true, wsucc (by omega)]
        rfl)
      (fun L2 _ => by
        show i_made_2Fi_Matrix_flip_1_b2 _ _ _ _ _ _ _ _ _ _ = _
        unfold i_made_2Fi_Matrix_flip_1_b2
        rw [dnlt, bsel_false])).1
  have e := (loop_run (step := i_made_2Fi_Matrix_flip_1_s3 (n : Int) (n : Int) (n : Int) (n : Int) P (n : Int) (n : Int) (List.replicate (n * n) (some 0))) (fun (i : Nat) (L : List F) => (L, (i : Int))) (fillR (fun i k => gm none P n k i) n) (fun L => L) (fun _ L => Mat n n L) (lo := 0) (n := n) (Nat.zero_le _) (s0 := List.replicate (n * n) (some 0)) (zmat hn hn)
    (fun i L2 _ hi h3 => by
      refine ⟨?_, (fillR_spec h3 hi).1⟩
      show i_made_2Fi_Matrix_flip_1_b3 _ _ _ _ _ _ _ _ _ _ = _
      unfold i_made_2Fi_Matrix_flip_1_b3
      rw [dlt hi, bsel_true, inner i L2 _ hi h3 (zmat hn hn), obind_eq, osum_inl]
      unfold i_made_2Fi_Matrix_flip_1_k2
      rw [wsucc (by omega)]
      rfl)
    (fun L2 _ => by
      show i_made_2Fi_Matrix_flip_1_b3 _ _ _ _ _ _ _ _ _ _ = _
      unfold i_made_2Fi_Matrix_flip_1_b3
      rw [dnlt, bsel_false])).1
  unfold i_made_2Fi_Matrix_flip_1
  replace e : loopM (i_made_2Fi_Matrix_flip_1_s3 (n : Int) (n : Int) (n : Int) (n : Int) P (n : Int) (n : Int) (List.replicate (n * n) (some 0))) (List.replicate (n * n) (some 0), 0) = some (.inl (flipM n P)) := e
  rw [i_newMatrix_eq hn hn, obind3_eq, e]; rfl
theorem i_Matrix_flip_eq {n : Nat} {P : List F} (m : Mat n n P) : i_Matrix_flip (n : Int) (n : Int) P = some ((n : Int), (n : Int), flipM n P) := by
  unfold i_Matrix_flip
  rw [i_made_2Fi_Matrix_flip_1_eq m, obind3_eq]
def tcA (c s x y : F) : F := fop .sub .f32 (fop .mul .f32 c x) (fop .mul .f32 s y)
def tcB (c s x y : F) : F := fop .add .f32 (fop .mul .f32 s x) (fop .mul .f32 c y)
theorem turnK_gm {A C i k : Nat} {c s : F} {L : List F} (h : Mat A C L) (hi : i < C) (hk : k < C) (hne : i ≠ k) {r j : Nat} (hr : r < A) (hj : j < C) :
    gm none (turnK A C i k c s L) C r j = if j = i then tcA c s (gm none L C r i) (gm none L C r k) else if j = k then tcB c s (gm none L C r i) (gm none L C r k) else gm none L C r j := by
  have := run_inv (f := turnQ C i k c s) (fun d L' => Mat A C L' ∧ ∀ r j, r < A → j < C → gm none L' C r j = if r < d then (if j = i then tcA c s (gm none L C r i) (gm none L C r k) else if j = k then tcB c s (gm none L C r i) (gm none L C r k) else gm none L C r j) else gm none L C r j) A 0 L ⟨h, fun r j _ _ => by simp⟩ (fun d L' _ hd hI => by
    refine ⟨turnQ_mat hI.1, fun r j hr hj => ?_⟩
    have hd' : d < A := by omega
    have e1 := hI.2 d i hd' hi
    have e2 := hI.2 d k hd' hk
    rw [if_neg (by omega)] at e1 e2
    have e3 := hI.2 r j hr hj
    unfold turnQ
    rw [gm_set (hI.1.set _ _ _) hd' hk hj, gm_set hI.1 hd' hi hj, e1, e2, e3]
    simp only [tcA, tcB]
    by_cases hrd : d = r
    · subst hrd
      by_cases h1 : k = j
      · subst h1; simp [Ne.symm hne]
      · by_cases h2 : i = j
        · subst h2; simp [h1]
        · simp [h1, h2, Ne.symm h1, Ne.symm h2]
    · by_cases h3 : r < d
      · simp [hrd, h3, show r < d + 1 by omega]
      · simp [hrd, h3, show ¬ r < d + 1 by omega])
  rw [Nat.zero_add] at this
  have e := this.2 r j hr hj
  rw [if_pos hr] at e
  exact e
def turnRq (n i k : Nat) (c s : F) (j : Nat) (L : List F) : List F := sm (sm L n i j (tcA c s (gm none L n i j) (gm none L n k j))) n k j (tcB c s (gm none L n i j) (gm none L n k j))
def turnR (n i k : Nat) (c s : F) (L : List F) : List F := run (turnRq n i k c s) 0 n L
theorem turnRq_mat {n i k j : Nat} {c s : F} {L : List F} (h : Mat n n L) : Mat n n (turnRq n i k c s j L) := (h.set _ _ _).set _ _ _
theorem turnR_mat {n i k : Nat} {c s : F} {L : List F} (h : Mat n n L) : Mat n n (turnR n i k c s L) := run_inv (fun _ L => Mat n n L) n 0 L h fun _ _ _ _ h => turnRq_mat h
theorem turnR_oks {n i k : Nat} {c s : F} {L : List F} (h : FOks L) : FOks (turnR n i k c s L) := run_inv (fun _ L => FOks L) n 0 L h fun _ _ _ _ h => (h.set (fop_fok _ _ _)).set (fop_fok _ _ _)
theorem turnR_gm {n i k : Nat} {c s : F} {L : List F} (h : Mat n n L) (hi : i < n) (hk : k < n) (hne : i ≠ k) {r j : Nat} (hr : r < n) (hj : j < n) :
    gm none (turnR n i k c s L) n r j = if r = i then tcA c s (gm none L n i j) (gm none L n k j) else if r = k then tcB c s (gm none L n i j) (gm none L n k j) else gm none L n r j := by
  have := run_inv (f := turnRq n i k c s) (fun d L' => Mat n n L' ∧ ∀ r j, r < n → j < n → gm none L' n r j = if j < d then (if r = i then tcA c s (gm none L n i j) (gm none L n k j) else if r = k then tcB c s (gm none L n i j) (gm none L n k j) else gm none L n r j) else gm none L n r j) n 0 L ⟨h, fun r j _ _ => by simp⟩ (fun d L' _ hd hI => by
    refine ⟨turnRq_mat hI.1, fun r j hr hj => ?_⟩
    have hd' : d < n := by omega
    have e1 := hI.2 i d hi hd'
    have e2 := hI.2 k d hk hd'
    rw [if_neg (by omega)] at e1 e2
    have e3 := hI.2 r j hr hj
    unfold turnRq
    rw [gm_set (hI.1.set _ _ _) hk hd' hj, gm_set hI.1 hi hd' hj, e1, e2, e3]
    simp only [tcA, tcB]
    by_cases hjd : d = j
    · subst hjd
      by_cases h1 : k = r
      · subst h1; simp [Ne.symm hne]
      · by_cases h2 : i = r
        · subst h2; simp [h1]
        · simp [h1, h2, Ne.symm h1, Ne.symm h2]
    · by_cases h3 : j < d
      · simp [hjd, h3, show j < d + 1 by omega]
      · simp [hjd, h3, show ¬ j < d + 1 by omega])
  rw [Nat.zero_add] at this
  have e := this.2 r j hr hj
  rw [if_pos hj] at e
  exact e
theorem flip_turn {n i k : Nat} {c s : F} {L : List F} (h : Mat n n L) (hi : i < n) (hk : k < n) (hne : i ≠ k) : flipM n (turnK n n i k c s (flipM n L)) = turnR n i k c s L := by
  have hn := h.A1
  refine mat_ext (flipM_mat hn) (turnR_mat h) fun r j hr hj => ?_
  rw [flipM_gm hn hr hj, turnK_gm (flipM_mat hn) hi hk hne hj hr, turnR_gm h hi hk hne hr hj, flipM_gm hn hj hi, flipM_gm hn hj hk, flipM_gm hn hj hr]
def turned (n i k : Nat) (c s : F) (L : List F) : List F := sm (sm (turnK n n i k c s (turnR n i k c s L)) n i k (some 0)) n k i (some 0)
theorem turned_mat {n i k : Nat} {c s : F} {L : List F} (h : Mat n n L) : Mat n n (turned n i k c s L) := ((turnK_mat (turnR_mat h)).set _ _ _).set _ _ _
theorem turned_oks {n i k : Nat} {c s : F} {L : List F} (h : FOks L) : FOks (turned n i k c s L) := ((turnK_oks (turnR_oks h)).set zero_ok).set zero_ok
theorem i_Matrix_turnPair_eq {n i k : Nat} {c s : F} {L : List F} (h : Mat n n L) (hi : i < n) (hk : k < n) (hne : i ≠ k) : i_Matrix_turnPair (n : Int) (n : Int) L (i : Int) (k : Int) c s = some ((n : Int), (n : Int), turned n i k c s L) := by
  have hn := h.A1
  have m1 := flipM_mat (P := L) hn
  have m2 : Mat n n (turnK n n i k c s (flipM n L)) := turnK_mat m1
  have m3 : Mat n n (turnR n i k c s L) := turnR_mat h
  have m4 : Mat n n (turnK n n i k c s (turnR n i k c s L)) := turnK_mat m3
  have q1 : decide ((turnK n n i k c s (flipM n L)).length = (flipM n L).length) = true := by rw [m2.len, m1.len]; simp
  have q2 : decide ((turnK n n i k c s (turnR n i k c s L)).length = (turnR n i k c s L).length) = true := by rw [m4.len, m3.len]; simp
  have q3 : decide ((sm (turnK n n i k c s (turnR n i k c s L)) n i k (some 0)).length = (turnR n i k c s L).length) = true := by rw [(m4.set i k (some 0)).len, m3.len]; simp
  have q4 : decide ((sm (sm (turnK n n i k c s (turnR n i k c s L)) n i k (some 0)) n k i (some 0)).length = (turnR n i k c s L).length) = true := by rw [((m4.set i k (some 0)).set k i (some 0)).len, m3.len]; simp
  unfold i_Matrix_turnPair
  rw [i_Matrix_flip_eq h, obind3_eq, i_Matrix_turnColumns_02o_eq m1 hi hk, obind_eq, q1, need_true, i_Matrix_flip_eq m2, obind3_eq, flip_turn h hi hk hne, i_Matrix_turnColumns_02o_eq m3 hi hk, obind_eq, q2, need_true, i_Matrix_set_02o_eq _ m4 hi hk, obind_eq, q3, need_true, i_Matrix_set_02o_eq _ (m4.set _ _ _) hk hi, obind_eq, q4, need_true]
  rfl
theorem s_l04Rows_0p0_C02o1_eq {n i k : Nat} {c s : F} {L : List F} (h : Mat n n L) (hi : i < n) (hk : k < n) : s_l04Rows_0p0_C02o1 (i : Int) (k : Int) c s (n : Int) (n : Int) L = some (turnR n i k c s L) := by
  have hA := h.A1
  obtain ⟨e, _⟩ := loop_run (step := s_l04Rows_0p0_C02o1_s1 (i : Int) (k : Int) c s (n : Int) (n : Int)) (fun (r : Nat) (L : List F) => (L, (r : Int))) (turnRq n i k c s) (fun L => L) (fun _ L' => Mat n n L') (lo := 0) (n := n) (Nat.zero_le _) (s0 := L) h
    (fun r L' _ hr h3 => by
      refine ⟨?_, turnRq_mat h3⟩
      show s_l04Rows_0p0_C02o1_b1 _ _ _ _ _ _ _ _ = _
      unfold s_l04Rows_0p0_C02o1_b1
      obtain ⟨e1, e2⟩ := idx_w h.A1 h.C1 hi hr
      obtain ⟨e3, e4⟩ := idx_w h.A1 h.C1 hk hr
      rw [dlt hr, bsel_true, s_l02At_eq _ h3 hi hr, obind_eq, s_l02At_eq _ h3 hk hr, obind_eq]
      simp only [olet_eq, e1, e2, e3, e4, obind_eq, setAt?_n _ (h3.lt hi hr), setAt?_n _ ((h3.set _ _ _).lt hk hr), wsucc (show r ≤ 1000000000 by omega)]
      rfl)
    (fun L' _ => by
      show s_l04Rows_0p0_C02o1_b1 _ _ _ _ _ _ _ _ = _
      unfold s_l04Rows_0p0_C02o1_b1
      rw [dnlt, bsel_false])
  unfold s_l04Rows_0p0_C02o1
  replace e : loopM (s_l04Rows_0p0_C02o1_s1 (i : Int) (k : Int) c s (n : Int) (n : Int)) (L, 0) = some (.inl (turnR n i k c s L)) := e
  rw [e]; rfl
theorem s_l04Turned_0p0_C02o1_eq {n i k : Nat} {c s : F} {L : List F} (h : Mat n n L) (hi : i < n) (hk : k < n) : s_l04Turned_0p0_C02o1 (i : Int) (k : Int) c s (n : Int) (n : Int) L = some (turned n i k c s L) := by
  have m3 : Mat n n (turnR n i k c s L) := turnR_mat h
  have m4 : Mat n n (turnK n n i k c s (turnR n i k c s L)) := turnK_mat m3
  have q1 : decide ((turnR n i k c s L).length = L.length) = true := by rw [m3.len, h.len]; simp
  have q2 : decide ((turnK n n i k c s (turnR n i k c s L)).length = L.length) = true := by rw [m4.len, h.len]; simp
  obtain ⟨e1, e2⟩ := idx_w h.A1 h.C1 hi hk
  obtain ⟨e3, e4⟩ := idx_w h.A1 h.C1 hk hi
  unfold s_l04Turned_0p0_C02o1
  rw [s_l04Rows_0p0_C02o1_eq h hi hk, obind_eq, q1, need_true, s_l04Columns_0p0_C02o1_eq m3 hi hk, obind_eq, q2, need_true, e1, olet_eq, e2, olet_eq, setAt?_n _ (m4.lt hi hk), obind_eq, e3, olet_eq, e4, olet_eq, setAt?_n _ ((m4.set _ _ _).lt hk hi), obind_eq]
  rfl
def vget (v : List F) (x : Int) : F := v.getD x.toNat none
def swapI (j : Nat) (L : List Int) : List Int := (L.set (j + 1) (L.getD j 0)).set j (L.getD (j + 1) 0)
def insIn (v : List F) : Nat → List Int → List Int
  | 0, L => L
  | j + 1, L => bif flt .f32 (vget v (L.getD (j + 1) 0)) (vget v (L.getD j 0)) then insIn v j (swapI j L) else L
theorem swapI_len {j : Nat} {L : List Int} : (swapI j L).length = L.length := by simp [swapI]
theorem insIn_len {v : List F} : ∀ (j : Nat) (L : List Int), (insIn v j L).length = L.length
  | 0, _ => rfl
  | j + 1, L => by
    unfold insIn
    cases flt .f32 (vget v (L.getD (j + 1) 0)) (vget v (L.getD j 0)) with
    | false => rfl
    | true => rw [cond_true, insIn_len j, swapI_len]
def Names (n : Nat) (L : List Int) : Prop := ∀ x ∈ L, 0 ≤ x ∧ x < (n : Int)
theorem Names.at {n : Nat} {L : List Int} (h : Names n L) {j : Nat} (hj : j < L.length) : 0 ≤ L.getD j 0 ∧ L.getD j 0 < (n : Int) := by
  rw [List.getD_eq_getElem?_getD, List.getElem?_eq_getElem hj]
  exact h _ (List.getElem_mem hj)
theorem Names.set {n : Nat} {L : List Int} (h : Names n L) {j : Nat} {x : Int} (hx : 0 ≤ x ∧ x < (n : Int)) : Names n (L.set j x) := fun y hy => (List.mem_or_eq_of_mem_set hy).elim (fun k => h y k) (fun k => by rw [k]; exact hx)
theorem swapI_names {n j : Nat} {L : List Int} (h : Names n L) (hj : j + 1 < L.length) : Names n (swapI j L) := (h.set (h.at (by omega))).set (h.at hj)
theorem insIn_names {n : Nat} {v : List F} : ∀ (j : Nat) (L : List Int), Names n L → j < L.length → Names n (insIn v j L)
  | 0, _, h, _ => h
  | j + 1, L, h, hj => by
    unfold insIn
    cases flt .f32 (vget v (L.getD (j + 1) 0)) (vget v (L.getD j 0)) with
    | false => exact h
    | true => exact insIn_names j _ (swapI_names h hj) (by rw [swapI_len]; omega)
theorem loop_ins {n : Nat} {v : List F} {ρ : Type} {step : List Int × Int → Option (LR (List Int × Int) (List Int) ρ)} (h0 : ∀ L, step (L, 0) = some (.out L))
    (hs : ∀ (j : Nat) (L : List Int), Names n L → j + 1 < L.length → L.length ≤ 12 → step (L, ((j + 1 : Nat) : Int)) = some (bif flt .f32 (vget v (L.getD (j + 1) 0)) (vget v (L.getD j 0)) then .next (swapI j L, (j : Int)) else .out L)) :
    ∀ (j : Nat) (L : List Int), Names n L → j < L.length → L.length ≤ 12 → loopM step (L, (j : Int)) = some (.inl (insIn v j L))
  | 0, L, _, _, _ => loopM_out (h0 L)
  | j + 1, L, h, hj, hl => by
    have e := hs j L h hj hl
    unfold insIn
    cases hc : flt .f32 (vget v (L.getD (j + 1) 0)) (vget v (L.getD j 0)) with
    | false => rw [hc, cond_false] at e; rw [loopM_out e]; rfl
    | true =>
      rw [hc, cond_true] at e
      rw [loopM_next e, cond_true]
      exact loop_ins h0 hs j _ (swapI_names h hj) (by rw [swapI_len]; omega) (by rw [swapI_len]; omega)
theorem getD_app {P R : List Int} {j : Nat} (h : j < P.length) : (P ++ R).getD j 0 = P.getD j 0 := by
  rw [List.getD_eq_getElem?_getD, List.getElem?_append_left h, ← List.getD_eq_getElem?_getD]
theorem insIn_app {v : List F} : ∀ (j : Nat) (P R : List Int), j < P.length → insIn v j (P ++ R) = insIn v j P ++ R
  | 0, _, _, _ => rfl
  | j + 1, P, R, h => by
    unfold insIn
    rw [getD_app h, getD_app (by omega)]
    cases flt .f32 (vget v (P.getD (j + 1) 0)) (vget v (P.getD j 0)) with
    | false => rfl
    | true =>
      have e : swapI j (P ++ R) = swapI j P ++ R := by
        unfold swapI
        rw [getD_app h, getD_app (by omega), List.set_append_left _ _ h, List.set_append_left _ _ (by simp; omega)]
      rw [cond_true, cond_true, e]
      exact insIn_app j _ _ (by rw [swapI_len]; omega)
def ordL (v : List F) (n : Nat) : List Int := run (fun i P => insIn v i (P ++ [(i : Int)])) 0 n []
theorem vget_at {v : List F} {x : Int} (h0 : 0 ≤ x) (h1 : x < (v.length : Int)) : at? v x = some (vget v x) := at?_i none h0 (by omega)
theorem wpred {j : Nat} (h : j ≤ 1000000000) : IntKind.i64.wrap (((j + 1 : Nat) : Int) - 1) = (j : Int) := by rw [wrap_i64 (by omega) (by omega)]; omega
theorem s_l04Order_inner {v : List F} {L : List Int} {j : Nat} (hv : v.length ≤ 12) (hN : Names v.length L) (hj : j < L.length) (hl : L.length ≤ 12) : loopM (s_l04Order_s2 v) (L, (j : Int)) = some (.inl (insIn v j L)) := by
  refine loop_ins (n := v.length) (fun L => ?_) (fun j L hN hj hl => ?_) j L hN hj hl
  · show s_l04Order_b2 _ _ _ = _
    unfold s_l04Order_b2
    rw [show decide ((0 : Int) < 0) = false from rfl, bsel_false]
  · show s_l04Order_b2 _ _ _ = _
    unfold s_l04Order_b2
    dsimp only
    obtain ⟨a1, a2⟩ := hN.at hj
    obtain ⟨b1, b2⟩ := hN.at (show j < L.length by omega)
    have hd : decide ((0 : Int) < ((j + 1 : Nat) : Int)) = true := decide_eq_true (by omega)
    have l1 : ∀ x : Int, j < (L.set (j + 1) x).length := fun x => by simp; omega
    rw [hd, bsel_true, at?_n 0 hj, obind_eq, vget_at a1 a2, obind_eq, wpred (by omega), olet_eq, at?_n 0 (by omega), obind_eq, vget_at b1 b2, obind_eq]
    cases flt .f32 (vget v (L.getD (j + 1) 0)) (vget v (L.getD j 0)) with
    | false => rfl
    | true =>
      rw [bsel_true, obind_eq, olet_eq, at?_n 0 (by omega), obind_eq, setAt?_n _ hj, obind_eq, olet_eq, setAt?_n _ (l1 _), obind_eq, olet_eq]
      rfl
theorem s_l04Order_eq {v : List F} (hv : v.length ≤ 12) : s_l04Order v = some (ordL v v.length) := by
  have inv : ∀ i, i ≤ v.length → (run (fun i P => insIn v i (P ++ [(i : Int)])) 0 i []).length = i := fun i hi => by
    have := run_inv (f := fun i P => insIn v i (P ++ [(i : Int)])) (fun i P => P.length = i) i 0 [] rfl fun j s _ _ h => by rw [insIn_len]; simp [h]
    omega
  obtain ⟨e, _⟩ := loop_run (step := s_l04Order_s3 v) (fun (i : Nat) (P : List Int) => (P, (i : Int))) (fun i P => insIn v i (P ++ [(i : Int)])) (fun P => P) (fun i P => P.length = i ∧ Names v.length P) (lo := 0) (n := v.length) (Nat.zero_le _) (s0 := []) ⟨rfl, fun x hx => by cases hx⟩
    (fun i P _ hi hI => by
      have hN : Names v.length (P ++ [(i : Int)]) := by
        intro x hx
        rcases List.mem_append.1 hx with hx | hx
        · exact hI.2 x hx
        · rw [List.mem_singleton.1 hx]; omega
      have hl : (P ++ [(i : Int)]).length = i + 1 := by simp [hI.1]
      refine ⟨?_, by rw [insIn_len, hl], insIn_names i _ hN (by omega)⟩
      show s_l04Order_b3 _ _ _ = _
      unfold s_l04Order_b3
      have ap : apok 8 P.length 1 = true := by simp [apok, hI.1]; omega
      rw [dlt hi, bsel_true, ap, need_true, s_l04Order_inner hv hN (by omega) (by omega), obind_eq, osum_inl]
      unfold s_l04Order_k2
      rw [wsucc (by omega)]; rfl)
    (fun P _ => by
      show s_l04Order_b3 _ _ _ = _
      unfold s_l04Order_b3
      rw [dnlt, bsel_false])
  unfold s_l04Order
  replace e : loopM (s_l04Order_s3 v) ([], 0) = some (.inl (run (fun i P => insIn v i (P ++ [(i : Int)])) 0 (v.length - 0) [])) := e
  rw [e]; rfl
theorem feq_fin {x : F} (h : FOk .f32 x) (hf : fin32 x = true) : feq .f32 x x = true := by
  cases x with
  | none => cases hf
  | some b => exact feq_refl h
theorem i_TurnValues_1_lt {v : List F} {x y : Int} (g : FOks v) (f : v.all fin32 = true) (hx : 0 ≤ x ∧ x < (v.length : Int)) (hy : 0 ≤ y ∧ y < (v.length : Int)) : ∃ r, i_TurnValues_1 x y v = some r ∧ decide (r < 0) = flt .f32 (vget v x) (vget v y) := by
  have fx : feq .f32 (vget v x) (vget v x) = true := feq_fin (g.getD _) (fin_all.1 f _ (by omega))
  have fy : feq .f32 (vget v y) (vget v y) = true := feq_fin (g.getD _) (fin_all.1 f _ (by omega))
  unfold i_TurnValues_1 x_cmp_Compare_float32 x_cmp_isNaN_float32
  rw [vget_at hx.1 hx.2, obind_eq, vget_at hy.1 hy.2, obind_eq, fx, fy]
  cases flt .f32 (vget v x) (vget v y) with
  | true => exact ⟨-1, rfl, rfl⟩
  | false => cases flt .f32 (vget v y) (vget v x) <;> exact ⟨_, rfl, rfl⟩
theorem x_slices_insertionSortCmpFunc_int64_0o_3Fi_TurnValues_1_3c0p1_C10o2_inner {v : List F} {L : List Int} {j : Nat} (g : FOks v) (f : v.all fin32 = true) (hv : v.length ≤ 12) (hN : Names v.length L) (hj : j < L.length) (hl : L.length ≤ 12) : loopM (x_slices_insertionSortCmpFunc_int64_0o_3Fi_TurnValues_1_3c0p1_C10o2_s2 0 v) (L, (j : Int)) = some (.inl (insIn v j L)) := by
  refine loop_ins (n := v.length) (fun L => ?_) (fun j L hN hj hl => ?_) j L hN hj hl
  · show x_slices_insertionSortCmpFunc_int64_0o_3Fi_TurnValues_1_3c0p1_C10o2_b2 _ _ _ _ = _
    unfold x_slices_insertionSortCmpFunc_int64_0o_3Fi_TurnValues_1_3c0p1_C10o2_b2
    rw [show decide ((0 : Int) < 0) = false from rfl, bsel_false]
  · show x_slices_insertionSortCmpFunc_int64_0o_3Fi_TurnValues_1_3c0p1_C10o2_b2 _ _ _ _ = _
    unfold x_slices_insertionSortCmpFunc_int64_0o_3Fi_TurnValues_1_3c0p1_C10o2_b2
    dsimp only
    obtain ⟨r, hr1, hr2⟩ := i_TurnValues_1_lt g f (hN.at hj) (hN.at (show j < L.length by omega))
    have hd : decide ((0 : Int) < ((j + 1 : Nat) : Int)) = true := decide_eq_true (by omega)
    have l1 : ∀ x : Int, j < (L.set (j + 1) x).length := fun x => by simp; omega
    rw [hd, bsel_true, at?_n 0 hj, obind_eq, wpred (by omega), olet_eq, at?_n 0 (by omega), obind_eq, hr1, obind_eq, hr2]
    cases flt .f32 (vget v (L.getD (j + 1) 0)) (vget v (L.getD j 0)) with
    | false => rfl
    | true =>
      rw [bsel_true, olet_eq, olet_eq, at?_n 0 (by omega), obind_eq, obind_eq, setAt?_n _ hj, obind_eq, setAt?_n _ (l1 _), obind_eq, olet_eq]
      rfl
theorem ordL_succ (v : List F) (n : Nat) : ordL v (n + 1) = insIn v n (ordL v n ++ [(n : Int)]) := by
  unfold ordL
  rw [run_last, Nat.zero_add]
theorem ordL_len (v : List F) : ∀ n, (ordL v n).length = n
  | 0 => rfl
  | n + 1 => by rw [ordL_succ, insIn_len]; simp [ordL_len v n]
theorem ordL_names {v : List F} {m : Nat} : ∀ n, n ≤ m → Names m (ordL v n)
  | 0, _ => fun x hx => by cases hx
  | n + 1, h => by
    rw [ordL_succ]
    refine insIn_names n _ (fun x hx => ?_) (by simp [ordL_len])
    rcases List.mem_append.1 hx with hx | hx
    · exact ordL_names n (by omega) x hx
    · rw [List.mem_singleton.1 hx]; omega
def fromTo (i n : Nat) : List Int := (List.range (n - i)).map fun (q : Nat) => ((i + q : Nat) : Int)
theorem fromTo_cons {i n : Nat} (h : i < n) : fromTo i n = (i : Int) :: fromTo (i + 1) n := by
  unfold fromTo
  rw [show n - i = (n - (i + 1)) + 1 by omega, List.range_succ_eq_map]
  simp [Function.comp_def]
  intros; omega
theorem fromTo_len {i n : Nat} : (fromTo i n).length = n - i := by simp [fromTo]
theorem fromTo_end {n : Nat} : fromTo n n = [] := by simp [fromTo]
theorem fromTo_upTo {n : Nat} : fromTo 0 n = upTo n := by simp [fromTo, upTo]
theorem fromTo_names {i n : Nat} : Names n (fromTo i n) := by
  intro x hx
  unfold fromTo at hx
  obtain ⟨q, hq, rfl⟩ := List.mem_map.1 hx
  have := List.mem_range.1 hq
  omega
theorem x_slices_insertionSortCmpFunc_int64_0o_3Fi_TurnValues_1_3c0p1_C10o2_all {v : List F} {n : Nat} (g : FOks v) (f : v.all fin32 = true) (hv : v.length = n) (h0 : 0 < n) (hn : n ≤ 12) : x_slices_insertionSortCmpFunc_int64_0o_3Fi_TurnValues_1_3c0p1_C10o2 0 (n : Int) (upTo n) v = some (ordL v n, v) := by
  have e := (loop_run (step := x_slices_insertionSortCmpFunc_int64_0o_3Fi_TurnValues_1_3c0p1_C10o2_s3 0 (n : Int) v) (fun (i : Nat) (_ : Unit) => (ordL v i ++ fromTo i n, (i : Int))) (fun _ _ => ()) (fun _ => ordL v n) (fun _ _ => True) (lo := 1) (n := n) h0 (s0 := ()) trivial
    (fun i _ h1 hi _ => by
      refine ⟨?_, trivial⟩
      show x_slices_insertionSortCmpFunc_int64_0o_3Fi_TurnValues_1_3c0p1_C10o2_b3 _ _ _ _ _ = _
      unfold x_slices_insertionSortCmpFunc_int64_0o_3Fi_TurnValues_1_3c0p1_C10o2_b3
      dsimp only
      have hl : (ordL v i ++ fromTo i n).length = n := by rw [List.length_append, ordL_len, fromTo_len]; omega
      have hN : Names v.length (ordL v i ++ fromTo i n) := by
        rw [hv]
        intro x hx
        rcases List.mem_append.1 hx with hx | hx
        · exact ordL_names i (by omega) x hx
        · exact fromTo_names x hx
      rw [dlt hi, bsel_true, x_slices_insertionSortCmpFunc_int64_0o_3Fi_TurnValues_1_3c0p1_C10o2_inner g f (by omega) hN (by omega) (by omega), obind_eq, osum_inl]
      unfold x_slices_insertionSortCmpFunc_int64_0o_3Fi_TurnValues_1_3c0p1_C10o2_k2
      rw [wsucc (by omega), fromTo_cons hi, ordL_succ]
      have : ordL v i ++ (i : Int) :: fromTo (i + 1) n = (ordL v i ++ [(i : Int)]) ++ fromTo (i + 1) n := by simp
      rw [this, insIn_app i _ _ (by simp [ordL_len])]
      rfl)
    (fun _ _ => by
      show x_slices_insertionSortCmpFunc_int64_0o_3Fi_TurnValues_1_3c0p1_C10o2_b3 _ _ _ _ _ = _
      unfold x_slices_insertionSortCmpFunc_int64_0o_3Fi_TurnValues_1_3c0p1_C10o2_b3
      dsimp only
      rw [dnlt, bsel_false, fromTo_end, List.append_nil])).1
  have h1 : ordL v 1 ++ fromTo 1 n = upTo n := by
    rw [ordL_succ, ← fromTo_upTo, fromTo_cons h0]; rfl
  unfold x_slices_insertionSortCmpFunc_int64_0o_3Fi_TurnValues_1_3c0p1_C10o2
  rw [show IntKind.i64.wrap (0 + 1) = 1 from rfl, olet_eq]
  replace e : loopM (x_slices_insertionSortCmpFunc_int64_0o_3Fi_TurnValues_1_3c0p1_C10o2_s3 0 (n : Int) v) (ordL v 1 ++ fromTo 1 n, 1) = some (.inl (ordL v n)) := e
  rw [h1] at e
  rw [e]; rfl
theorem sortStable_eq {v : List F} {n : Nat} (g : FOks v) (f : v.all fin32 = true) (hv : v.length = n) (h0 : 0 < n) (hn : n ≤ 12) : x_slices_SortStableFunc_int64_int64_0o_1Fi_TurnValues_1_1c0p1_C10o2 (upTo n) v = some (ordL v n, v) := by
  unfold x_slices_SortStableFunc_int64_int64_0o_1Fi_TurnValues_1_1c0p1_C10o2 x_slices_stableCmpFunc_int64_0o_2Fi_TurnValues_1_2c0p1_C10o2
  have hl : (upTo n).length = n := upTo_len n
  have e1 : loopM (x_slices_stableCmpFunc_int64_0o_2Fi_TurnValues_1_2c0p1_C10o2_s1 (((upTo n).length : Nat) : Int) (upTo n) v) (upTo n, v, 0, 20) = some (.inl (upTo n, v, 0)) := by
    refine loopM_out ?_
    show x_slices_stableCmpFunc_int64_0o_2Fi_TurnValues_1_2c0p1_C10o2_b1 _ _ _ _ _ _ _ = _
    unfold x_slices_stableCmpFunc_int64_0o_2Fi_TurnValues_1_2c0p1_C10o2_b1
    rw [hl, show decide ((20 : Int) ≤ (n : Int)) = false from decide_eq_false (by omega), bsel_false]
  have e2 : loopM (x_slices_stableCmpFunc_int64_0o_2Fi_TurnValues_1_2c0p1_C10o2_s6 (((upTo n).length : Nat) : Int) (upTo n) v) (ordL v n, v, 20) = some (.inl (ordL v n, v)) := by
    refine loopM_out ?_
    show x_slices_stableCmpFunc_int64_0o_2Fi_TurnValues_1_2c0p1_C10o2_b6 _ _ _ _ _ _ = _
    unfold x_slices_stableCmpFunc_int64_0o_2Fi_TurnValues_1_2c0p1_C10o2_b6
    rw [hl, show decide ((20 : Int) < (n : Int)) = false from decide_eq_false (by omega), bsel_false]
  rw [e1, obind_eq, osum_inl]
  unfold x_slices_stableCmpFunc_int64_0o_2Fi_TurnValues_1_2c0p1_C10o2_k1
  dsimp only
  rw [hl] at e2 ⊢
  rw [x_slices_insertionSortCmpFunc_int64_0o_3Fi_TurnValues_1_3c0p1_C10o2_all g f hv h0 hn, obind2_eq, ordL_len, decide_eq_true rfl, need_true, decide_eq_true rfl, need_true, e2, obind_eq, osum_inl]
  unfold x_slices_stableCmpFunc_int64_0o_2Fi_TurnValues_1_2c0p1_C10o2_k6
  rw [obind2_eq, ordL_len, decide_eq_true rfl, need_true, decide_eq_true rfl, need_true]
abbrev TVr := Int × Int × Bool × List F × List F
def tvFail : TVr := (0, 0, false, [], [])
def tvTurn (n : Nat) (L : List F) (i k : Nat) : F × F := bif feq .f32 (gm none L n i k) (some 0) then (some 1065353216, some 0) else cosP (fop .quo .f32 (fop .sub .f32 (gm none L n k k) (gm none L n i i)) (fop .mul .f32 (some 1073741824) (gm none L n i k)))
theorem one_ok : FOk .f32 (some 1065353216) := ⟨1065353216, rfl, by decide, rfl⟩
theorem cosP_ok (a : F) : FOk .f32 (cosP a).1 ∧ FOk .f32 (cosP a).2 := by
  unfold cosP cosT
  dsimp only
  exact ⟨fop_fok _ _ _, fop_fok _ _ _⟩
theorem tvTurn_ok (n : Nat) (L : List F) (i k : Nat) : FOk .f32 (tvTurn n L i k).1 ∧ FOk .f32 (tvTurn n L i k).2 := by
  unfold tvTurn
  cases feq .f32 (gm none L n i k) (some 0)
  · exact cosP_ok _
  · exact ⟨one_ok, zero_ok⟩
theorem s_l04Turn_eq {n i k : Nat} {L : List F} (m : Mat n n L) (hi : i < n) (hk : k < n) : s_l04Turn (n : Int) (n : Int) L (i : Int) (k : Int) = some ((tvTurn n L i k).1, (tvTurn n L i k).2, fin32 (tvTurn n L i k).1 && fin32 (tvTurn n L i k).2) := by
  unfold s_l04Turn tvTurn
  rw [s_l02At_eq _ m hi hk, obind_eq]
  cases feq .f32 (gm none L n i k) (some 0) with
  | true => rfl
  | false =>
    rw [bsel_false, cond_false, s_l02At_eq _ m hk hk, obind_eq, s_l02At_eq _ m hi hi, obind_eq, olet_eq, olet_eq, olet_eq, s_l04Cosine_eq (fop_fok _ _ _)]
    have h := cosP_ok (fop .quo .f32 (fop .sub .f32 (gm none L n k k) (gm none L n i i)) (fop .mul .f32 (some 1073741824) (gm none L n i k)))
    generalize cosP (fop .quo .f32 (fop .sub .f32 (gm none L n k k) (gm none L n i i)) (fop .mul .f32 (some 1073741824) (gm none L n i k))) = q at h
    obtain ⟨c, t⟩ := q
    rw [obind2_eq, s_l01Finite_eq h.1, obind_eq, s_l01Finite_eq h.2, obind_eq]
    cases fin32 c <;> rfl
theorem i_Matrix_turn_eq {n i k : Nat} {L : List F} (m : Mat n n L) (hi : i < n) (hk : k < n) : i_Matrix_turn (n : Int) (n : Int) L (i : Int) (k : Int) = some ((tvTurn n L i k).1, (tvTurn n L i k).2) := by
  unfold i_Matrix_turn tvTurn
  rw [i_Matrix_at_eq _ m hi hk, obind_eq]
  cases feq .f32 (gm none L n i k) (some 0) with
  | true => rfl
  | false =>
    rw [bsel_false, cond_false, i_Matrix_at_eq _ m hk hk, obind_eq, i_Matrix_at_eq _ m hi hi, obind_eq, olet_eq, i_mul_eq, obind_eq, olet_eq, i_turnFor_eq (fop_fok _ _ _)]
    rfl
def tvGo (n i k : Nat) (q : F × F) (s : SD) : SD ⊕ TVr :=
  bif fin32 q.1 && fin32 q.2 then bif (turned n i k q.1 q.2 s.1).all fin32 && (turnK n n i k q.1 q.2 s.2).all fin32 then .inl (turned n i k q.1 q.2 s.1, turnK n n i k q.1 q.2 s.2) else .inr tvFail else .inr tvFail
def tvCol (n i k : Nat) (s : SD) : SD ⊕ TVr := tvGo n i k (tvTurn n s.1 i k) s
def tvRow (n i : Nat) (s : SD) : SD ⊕ TVr := runE (tvCol n i) (i + 1) (n - (i + 1)) s
def tvRound (n : Nat) (s : SD) : SD ⊕ TVr := runE (tvRow n) 0 n s
structure TInv (n : Nat) (s : SD) : Prop where
  i : SInv n n s
  f : s.1.all fin32 = true
theorem tvCol_inv {n i k : Nat} {s s' : SD} (h : TInv n s) (e : tvCol n i k s = .inl s') : TInv n s' := by
  unfold tvCol tvGo at e
  generalize tvTurn n s.1 i k = q at e
  cases h1 : fin32 q.1 && fin32 q.2 with
  | false => rw [h1, cond_false] at e; cases e
  | true =>
    rw [h1, cond_true] at e
    cases h2 : (turned n i k q.1 q.2 s.1).all fin32 && (turnK n n i k q.1 q.2 s.2).all fin32 with
    | false => rw [h2, cond_false] at e; cases e
    | true =>
      rw [h2, cond_true] at e; cases e
      simp only [Bool.and_eq_true] at h2
      exact ⟨⟨turned_mat h.i.m, turned_oks h.i.g, turnK_mat h.i.n, turnK_oks h.i.h⟩, h2.1⟩
theorem tvCol_ret {n i k : Nat} {s : SD} {r : TVr} (e : tvCol n i k s = .inr r) : r = tvFail := by
  unfold tvCol tvGo at e
  generalize tvTurn n s.1 i k = q at e
  cases h1 : fin32 q.1 && fin32 q.2 with
  | false => rw [h1, cond_false] at e; cases e; rfl
  | true =>
    rw [h1, cond_true] at e
    cases h2 : (turned n i k q.1 q.2 s.1).all fin32 && (turnK n n i k q.1 q.2 s.2).all fin32 with
    | false => rw [h2, cond_false] at e; cases e; rfl
    | true => rw [h2, cond_true] at e; cases e
theorem tvRow_inv {n i : Nat} {s s' : SD} (h : TInv n s) (e : tvRow n i s = .inl s') : TInv n s' := runE_inv (fun _ s => TInv n s) _ _ _ h (fun _ _ _ _ _ hI he => tvCol_inv hI he) _ e
theorem tvRow_ret {n i : Nat} {s : SD} {r : TVr} (e : tvRow n i s = .inr r) : r = tvFail := runE_ret (P := fun r => r = tvFail) (fun _ _ _ h => tvCol_ret h) e
theorem tvRound_inv {n : Nat} {s s' : SD} (h : TInv n s) (e : tvRound n s = .inl s') : TInv n s' := runE_inv (fun _ s => TInv n s) _ _ _ h (fun _ _ _ _ _ hI he => tvRow_inv hI he) _ e
theorem tvRound_ret {n : Nat} {s : SD} {r : TVr} (e : tvRound n s = .inr r) : r = tvFail := runE_ret (P := fun r => r = tvFail) (fun _ _ _ h => tvRow_ret h) e
abbrev ivS := List F × Int × Int × List F × Int
abbrev ivE := List F × Int × Int × List F
abbrev ivMk (n k : Nat) (s : SD) : ivS := (s.2, (n : Int), (n : Int), s.1, (k : Int))
abbrev ivOut (n : Nat) (s : SD) : ivE := (s.2, (n : Int), (n : Int), s.1)
def tvLs (k : Nat) : SD ⊕ TVr → Option (LR (List F × List F × Int) (List F × List F) TVr)
  | .inl s => some (.next (sdMk k s))
  | .inr r => some (.ret r)
def tvLi (n k : Nat) : SD ⊕ TVr → Option (LR ivS ivE TVr)
  | .inl s => some (.next (ivMk n k s))
  | .inr r => some (.ret r)
theorem s_TurnValues_col {n i k : Nat} {s : SD} {a b : List F} (h : TInv n s) (ha : a.length = n * n) (hb : b.length = n * n) (hi : i < n) (hk : k < n) :
    s_TurnValues_b5 (n : Int) (n : Int) (n : Int) a (n : Int) (n : Int) b (i : Int) s.1 s.2 (k : Int) = tvLs (k + 1) (tvCol n i k s) := by
  have hn := h.i.m.A1
  unfold s_TurnValues_b5 tvCol tvGo
  rw [dlt hk, bsel_true, s_l04Turn_eq h.i.m hi hk, obind3_eq]
  generalize tvTurn n s.1 i k = q
  obtain ⟨c, t⟩ := q
  dsimp only
  cases fin32 c && fin32 t with
  | false => rfl
  | true =>
    have m1 : Mat n n (turnK n n i k c t s.2) := turnK_mat h.i.n
    have m2 : Mat n n (turned n i k c t s.1) := turned_mat h.i.m
    have q1 : decide ((turnK n n i k c t s.2).length = b.length) = true := by rw [m1.len, hb]; simp
    have q2 : decide ((turned n i k c t s.1).length = a.length) = true := by rw [m2.len, ha]; simp
    rw [bsel_true, cond_true, s_l04Columns_0p0_C02o1_eq h.i.n hi hk, obind_eq, q1, need_true, s_l04Turned_0p0_C02o1_eq h.i.m hi hk, obind_eq, q2, need_true, s_l02Is_eq _ _ (turned_oks h.i.g) m2.le, mat_valid m2 (by omega) (by omega), obind_eq, s_l02Is_eq _ _ (turnK_oks h.i.h) m1.le, mat_valid m1 (by omega) (by omega), obind_eq, wsucc (by omega)]
    cases (turned n i k c t s.1).all fin32 <;> cases (turnK n n i k c t s.2).all fin32 <;> rfl
theorem i_turnValues_col {n i k : Nat} {s : SD} {b : List F} (h : TInv n s) (hb : b.length = n * n) (hi : i < n) (hk : k < n) (hne : i ≠ k) :
    i_turnValues_b5 (n : Int) (n : Int) (n : Int) b (i : Int) s.2 (n : Int) (n : Int) s.1 (k : Int) = tvLi n (k + 1) (tvCol n i k s) := by
  have hn := h.i.m.A1
  have hq := tvTurn_ok n s.1 i k
  unfold i_turnValues_b5 tvCol tvGo
  rw [dlt hk, bsel_true, i_Matrix_turn_eq h.i.m hi hk, obind2_eq]
  generalize tvTurn n s.1 i k = q at hq
  obtain ⟨c, t⟩ := q
  dsimp only at hq ⊢
  rw [i_areFinite_two hq.1 hq.2, obind_eq]
  cases fin32 c && fin32 t with
  | false => rfl
  | true =>
    have m1 : Mat n n (turnK n n i k c t s.2) := turnK_mat h.i.n
    have m2 : Mat n n (turned n i k c t s.1) := turned_mat h.i.m
    have q1 : decide ((turnK n n i k c t s.2).length = b.length) = true := by rw [m1.len, hb]; simp
    rw [bsel_true, cond_true, i_Matrix_turnColumns_02o_eq h.i.n hi hk, obind_eq, q1, need_true, i_Matrix_turnPair_eq h.i.m hi hk hne, obind3_eq, i_ValidMatrix_eq _ _ (turned_oks h.i.g) m2.le, mat_valid m2 (by omega) (by omega), obind_eq, i_ValidMatrix_eq _ _ (turnK_oks h.i.h) m1.le, mat_valid m1 (by omega) (by omega), obind_eq, wsucc (by omega)]
    cases (turned n i k c t s.1).all fin32 <;> cases (turnK n n i k c t s.2).all fin32 <;> rfl
theorem s_TurnValues_row {n i : Nat} {s : SD} {a b : List F} (h : TInv n s) (ha : a.length = n * n) (hb : b.length = n * n) (hi : i < n) :
    s_TurnValues_b6 (n : Int) (n : Int) (n : Int) a (n : Int) (n : Int) b s.1 s.2 (i : Int) = tvLs (i + 1) (tvRow n i s) := by
  have hn := h.i.m.A1
  unfold s_TurnValues_b6
  obtain ⟨e, _⟩ := loop_endE (step := s_TurnValues_s5 (n : Int) (n : Int) (n : Int) a (n : Int) (n : Int) b (i : Int)) sdMk (tvCol n i) (fun s => s) (fun _ s => TInv n s) (lo := i + 1) (n := n) hi (s0 := s) h
    (fun k s h1 hk hI => by
      have := s_TurnValues_col hI ha hb hi hk
      cases hc : tvCol n i k s with
      | inl s' => rw [hc] at this; exact .inl ⟨s', rfl, this, tvCol_inv hI hc⟩
      | inr r => rw [hc] at this; exact .inr ⟨r, rfl, this⟩)
    (fun s _ => by
      show s_TurnValues_b5 _ _ _ _ _ _ _ _ _ _ _ = _
      unfold s_TurnValues_b5
      rw [dnlt, bsel_false])
  replace e : loopM (s_TurnValues_s5 (n : Int) (n : Int) (n : Int) a (n : Int) (n : Int) b (i : Int)) (s.1, s.2, ((i + 1 : Nat) : Int)) = some (endE (fun s => s) (tvRow n i s)) := e
  rw [dlt hi, bsel_true, wsucc (by omega), olet_eq, e, obind_eq]
  cases tvRow n i s with
  | inl s' =>
    show s_TurnValues_k5 _ _ _ = _
    unfold s_TurnValues_k5
    rw [wsucc (by omega)]; rfl
  | inr r => rfl
theorem i_turnValues_row {n i : Nat} {s : SD} {b : List F} (h : TInv n s) (hb : b.length = n * n) (hi : i < n) :
    i_turnValues_b6 (n : Int) (n : Int) (n : Int) b s.2 (n : Int) (n : Int) s.1 (i : Int) = tvLi n (i + 1) (tvRow n i s) := by
  have hn := h.i.m.A1
  unfold i_turnValues_b6
  obtain ⟨e, _⟩ := loop_endE (step := i_turnValues_s5 (n : Int) (n : Int) (n : Int) b (i : Int)) (ivMk n) (tvCol n i) (ivOut n) (fun _ s => TInv n s) (lo := i + 1) (n := n) hi (s0 := s) h
    (fun k s h1 hk hI => by
      have := i_turnValues_col hI hb hi hk (by omega)
      cases hc : tvCol n i k s with
      | inl s' => rw [hc] at this; exact .inl ⟨s', rfl, this, tvCol_inv hI hc⟩
      | inr r => rw [hc] at this; exact .inr ⟨r, rfl, this⟩)
    (fun s _ => by
      show i_turnValues_b5 _ _ _ _ _ _ _ _ _ _ = _
      unfold i_turnValues_b5
      rw [dnlt, bsel_false])
  replace e : loopM (i_turnValues_s5 (n : Int) (n : Int) (n : Int) b (i : Int)) (s.2, (n : Int), (n : Int), s.1, ((i + 1 : Nat) : Int)) = some (endE (ivOut n) (tvRow n i s)) := e
  rw [dlt hi, bsel_true, wsucc (by omega), olet_eq, e, obind_eq]
  cases tvRow n i s with
  | inl s' =>
    show i_turnValues_k5 _ _ _ _ _ = _
    unfold i_turnValues_k5
    rw [wsucc (by omega)]; rfl
  | inr r => rfl
theorem s_TurnValues_round {n q : Nat} {s : SD} {a b : List F} (m : Nat) (h : TInv n s) (ha : a.length = n * n) (hb : b.length = n * n) (hq : q < m) (hm : m ≤ 64) :
    s_TurnValues_b7 (n : Int) (m : Int) (n : Int) (n : Int) a (n : Int) (n : Int) b s.1 s.2 (q : Int) = tvLs (q + 1) (tvRound n s) := by
  unfold s_TurnValues_b7
  obtain ⟨e, _⟩ := loop_endE (step := s_TurnValues_s6 (n : Int) (n : Int) (n : Int) a (n : Int) (n : Int) b) sdMk (tvRow n) (fun s => s) (fun _ s => TInv n s) (lo := 0) (n := n) (Nat.zero_le _) (s0 := s) h
    (fun k s _ hk hI => by
      have := s_TurnValues_row hI ha hb hk
      cases hc : tvRow n k s with
      | inl s' => rw [hc] at this; exact .inl ⟨s', rfl, this, tvRow_inv hI hc⟩
      | inr r => rw [hc] at this; exact .inr ⟨r, rfl, this⟩)
    (fun s _ => by
      show s_TurnValues_b6 _ _ _ _ _ _ _ _ _ _ = _
      unfold s_TurnValues_b6
      rw [dnlt, bsel_false])
  replace e : loopM (s_TurnValues_s6 (n : Int) (n : Int) (n : Int) a (n : Int) (n : Int) b) (s.1, s.2, 0) = some (endE (fun s => s) (tvRound n s)) := e
  rw [dlt hq, bsel_true, e, obind_eq]
  cases tvRound n s with
  | inl s' =>
    show s_TurnValues_k6 _ _ _ = _
    unfold s_TurnValues_k6
    rw [wsucc (by omega)]; rfl
  | inr r => rfl
theorem i_turnValues_round {n q : Nat} {s : SD} {b : List F} (m : Nat) (h : TInv n s) (hb : b.length = n * n) (hq : q < m) (hm : m ≤ 64) :
    i_turnValues_b7 (n : Int) (m : Int) (n : Int) (n : Int) b s.2 (n : Int) (n : Int) s.1 (q : Int) = tvLi n (q + 1) (tvRound n s) := by
  unfold i_turnValues_b7
  obtain ⟨e, _⟩ := loop_endE (step := i_turnValues_s6 (n : Int) (n : Int) (n : Int) b) (ivMk n) (tvRow n) (ivOut n) (fun _ s => TInv n s) (lo := 0) (n := n) (Nat.zero_le _) (s0 := s) h
    (fun k s _ hk hI => by
      have := i_turnValues_row hI hb hk
      cases hc : tvRow n k s with
      | inl s' => rw [hc] at this; exact .inl ⟨s', rfl, this, tvRow_inv hI hc⟩
      | inr r => rw [hc] at this; exact .inr ⟨r, rfl, this⟩)
    (fun s _ => by
      show i_turnValues_b6 _ _ _ _ _ _ _ _ _ = _
      unfold i_turnValues_b6
      rw [dnlt, bsel_false])
  replace e : loopM (i_turnValues_s6 (n : Int) (n : Int) (n : Int) b) (s.2, (n : Int), (n : Int), s.1, 0) = some (endE (ivOut n) (tvRound n s)) := e
  rw [dlt hq, bsel_true, e, obind_eq]
  cases tvRound n s with
  | inl s' =>
    show i_turnValues_k6 _ _ _ _ _ = _
    unfold i_turnValues_k6
    rw [wsucc (by omega)]; rfl
  | inr r => rfl
theorem s_TurnValues_all {n : Nat} {s : SD} {a b : List F} (m : Nat) (h : TInv n s) (ha : a.length = n * n) (hb : b.length = n * n) (hm : m ≤ 64) :
    loopM (s_TurnValues_s7 (n : Int) (m : Int) (n : Int) (n : Int) a (n : Int) (n : Int) b) (s.1, s.2, 0) = some (endE (fun s => s) (runE (fun _ s => tvRound n s) 0 m s)) ∧ ∀ s', runE (fun _ s => tvRound n s) 0 m s = .inl s' → TInv n s' :=
  loop_endE (step := s_TurnValues_s7 (n : Int) (m : Int) (n : Int) (n : Int) a (n : Int) (n : Int) b) sdMk (fun _ s => tvRound n s) (fun s => s) (fun _ s => TInv n s) (lo := 0) (n := m) (Nat.zero_le _) (s0 := s) h
    (fun k s _ hk hI => by
      have := s_TurnValues_round m hI ha hb hk hm
      cases hc : tvRound n s with
      | inl s' => rw [hc] at this; exact .inl ⟨s', rfl, this, tvRound_inv hI hc⟩
      | inr r => rw [hc] at this; exact .inr ⟨r, rfl, this⟩)
    (fun s _ => by
      show s_TurnValues_b7 _ _ _ _ _ _ _ _ _ _ _ = _
      unfold s_TurnValues_b7
      rw [dnlt, bsel_false])
theorem i_turnValues_all {n : Nat} {s : SD} {b : List F} (m : Nat) (h : TInv n s) (hb : b.length = n * n) (hm : m ≤ 64) :
    loopM (i_turnValues_s7 (n : Int) (m : Int) (n : Int) (n : Int) b) (s.2, (n : Int), (n : Int), s.1, 0) = some (endE (ivOut n) (runE (fun _ s => tvRound n s) 0 m s)) :=
  (loop_endE (step := i_turnValues_s7 (n : Int) (m : Int) (n : Int) (n : Int) b) (ivMk n) (fun _ s => tvRound n s) (ivOut n) (fun _ s => TInv n s) (lo := 0) (n := m) (Nat.zero_le _) (s0 := s) h
    (fun k s _ hk hI => by
      have := i_turnValues_round m hI hb hk hm
      cases hc : tvRound n s with
      | inl s' => rw [hc] at this; exact .inl ⟨s', rfl, this, tvRound_inv hI hc⟩
      | inr r => rw [hc] at this; exact .inr ⟨r, rfl, this⟩)
    (fun s _ => by
      show i_turnValues_b7 _ _ _ _ _ _ _ _ _ _ = _
      unfold i_turnValues_b7
      rw [dnlt, bsel_false])).1
def diagL (n : Nat) (L : List F) : List F := (List.range n).map fun i => gm none L n i i
theorem diagL_len {n : Nat} {L : List F} : (diagL n L).length = n := by simp [diagL]
theorem diagL_oks {n : Nat} {L : List F} (g : FOks L) : FOks (diagL n L) := by
  intro c hc
  obtain ⟨i, _, rfl⟩ := List.mem_map.1 hc
  exact g.getD _
theorem diagL_fin {n : Nat} {L : List F} (m : Mat n n L) (f : L.all fin32 = true) : (diagL n L).all fin32 = true := by
  rw [List.all_eq_true]
  intro c hc
  obtain ⟨i, hi, rfl⟩ := List.mem_map.1 hc
  exact fin_all.1 f _ (m.lt (List.mem_range.1 hi) (List.mem_range.1 hi))
def symK (n : Nat) (L : List F) (i k : Nat) : Bool := feq .f32 (gm none L n i k) (gm none L n k i)
def symRow (n : Nat) (L : List F) (i : Nat) : Bool := allP (symK n L i) 0 i
theorem s_l04Symmetric_loop {n : Nat} {L : List F} (m : Mat n n L) : loopM (s_l04Symmetric_s3 (n : Int) (n : Int) L) 0 = some (bif allP (symRow n L) 0 n then .inl () else .inr false) := by
  have hn := m.A1
  have inner : ∀ i, i < n → loopM (s_l04Symmetric_s2 (n : Int) (n : Int) L (i : Int)) 0 = some (bif symRow n L i then .inl () else .inr false) := by
    intro i hi
    exact loop_test (step := s_l04Symmetric_s2 (n : Int) (n : Int) L (i : Int)) (fun (k : Nat) => (k : Int)) (symK n L i) (fun _ => True) (lo := 0) (n := i) (Nat.zero_le _) trivial
      (fun k _ hk _ => by
        refine ⟨?_, fun _ => trivial⟩
        show s_l04Symmetric_b2 _ _ _ _ _ = _
        unfold s_l04Symmetric_b2 symK
        rw [dlt hk, bsel_true, s_l02At_eq _ m hi (by omega), obind_eq, s_l02At_eq _ m (by omega) hi, obind_eq, wsucc (by omega)]
        cases feq .f32 (gm none L n i k) (gm none L n k i) <;> rfl)
      (fun _ => by
        show s_l04Symmetric_b2 _ _ _ _ _ = _
        unfold s_l04Symmetric_b2
        rw [dnlt, bsel_false])
  exact loop_test (step := s_l04Symmetric_s3 (n : Int) (n : Int) L) (fun (i : Nat) => (i : Int)) (symRow n L) (fun _ => True) (lo := 0) (n := n) (Nat.zero_le _) trivial
    (fun i _ hi _ => by
      refine ⟨?_, fun _ => trivial⟩
      show s_l04Symmetric_b3 _ _ _ _ = _
      unfold s_l04Symmetric_b3
      rw [dlt hi, bsel_true, inner i hi, obind_eq]
      cases symRow n L i with
      | false => rfl
      | true =>
        rw [cond_true, osum_inl]
        unfold s_l04Symmetric_k2
        rw [wsucc (by omega)]; rfl)
    (fun _ => by
      show s_l04Symmetric_b3 _ _ _ _ = _
      unfold s_l04Symmetric_b3
      rw [dnlt, bsel_false])
theorem i_IsSymmetric_loop {n : Nat} {L : List F} (m : Mat n n L) : loopM (i_IsSymmetric_s3 (n : Int) (n : Int) L) 0 = some (bif allP (symRow n L) 0 n then .inl () else .inr false) := by
  have hn := m.A1
  have inner : ∀ i, i < n → loopM (i_IsSymmetric_s2 (n : Int) (n : Int) L (i : Int)) 0 = some (bif symRow n L i then .inl () else .inr false) := by
    intro i hi
    exact loop_test (step := i_IsSymmetric_s2 (n : Int) (n : Int) L (i : Int)) (fun (k : Nat) => (k : Int)) (symK n L i) (fun _ => True) (lo := 0) (n := i) (Nat.zero_le _) trivial
      (fun k _ hk _ => by
        refine ⟨?_, fun _ => trivial⟩
        show i_IsSymmetric_b2 _ _ _ _ _ = _
        unfold i_IsSymmetric_b2 symK
        rw [dlt hk, bsel_true, i_Matrix_at_eq _ m hi (by omega), obind_eq, i_Matrix_at_eq _ m (by omega) hi, obind_eq, wsucc (by omega)]
        cases feq .f32 (gm none L n i k) (gm none L n k i) <;> rfl)
      (fun _ => by
        show i_IsSymmetric_b2 _ _ _ _ _ = _
        unfold i_IsSymmetric_b2
        rw [dnlt, bsel_false])
  exact loop_test (step := i_IsSymmetric_s3 (n : Int) (n : Int) L) (fun (i : Nat) => (i : Int)) (symRow n L) (fun _ => True) (lo := 0) (n := n) (Nat.zero_le _) trivial
    (fun i _ hi _ => by
      refine ⟨?_, fun _ => trivial⟩
      show i_IsSymmetric_b3 _ _ _ _ = _
      unfold i_IsSymmetric_b3
      rw [dlt hi, bsel_true, inner i hi, obind_eq]
      cases symRow n L i with
      | false => rfl
      | true =>
        rw [cond_true, osum_inl]
        unfold i_IsSymmetric_k2
        rw [wsucc (by omega)]; rfl)
    (fun _ => by
      show i_IsSymmetric_b3 _ _ _ _ = _
      unfold i_IsSymmetric_b3
      rw [dnlt, bsel_false])
theorem s_TurnValues_mid {n : Nat} {L : List F} (m : Mat n n L) : loopM (s_TurnValues_s8 (n : Int) (n : Int) (n : Int) L) ([], 0) = some (.inl (diagL n L)) := by
  have hn := m.A1
  have e := (loop_run (step := s_TurnValues_s8 (n : Int) (n : Int) (n : Int) L) (fun (i : Nat) (l : List F) => (l, (i : Int))) (fun i l => l ++ [gm none L n i i]) (fun l => l) (fun i l => l.length = i) (lo := 0) (n := n) (Nat.zero_le _) (s0 := []) rfl
    (fun i l _ hi hl => by
      refine ⟨?_, by simp [hl]⟩
      show s_TurnValues_b8 _ _ _ _ _ _ = _
      unfold s_TurnValues_b8
      dsimp only
      have ap : apok 4 l.length 1 = true := by simp [apok, hl]; omega
      rw [dlt hi, bsel_true, s_l02At_eq _ m hi hi, obind_eq, ap, need_true, wsucc (by omega)]
      rfl)
    (fun l _ => by
      show s_TurnValues_b8 _ _ _ _ _ _ = _
      unfold s_TurnValues_b8
      rw [dnlt, bsel_false])).1
  rw [Nat.sub_zero, run_map] at e
  exact e
theorem i_Matrix_middle_eq {n : Nat} {L : List F} (m : Mat n n L) : i_Matrix_middle (n : Int) (n : Int) L = some (diagL n L) := by
  have hn := m.A1
  have hm : imin (n : Int) (n : Int) = (n : Int) := by simp [imin]
  have e := (loop_run (step := i_Matrix_middle_s1 (n : Int) (n : Int) L) (fun (i : Nat) (l : List F) => (l, (i : Int))) (fun i l => l ++ [gm none L n i i]) (fun l => l) (fun i l => l.length = i) (lo := 0) (n := n) (Nat.zero_le _) (s0 := []) rfl
    (fun i l _ hi hl => by
      refine ⟨?_, by simp [hl]⟩
      show i_Matrix_middle_b1 _ _ _ _ _ = _
      unfold i_Matrix_middle_b1
      dsimp only
      have ap : apok 4 l.length 1 = true := by simp [apok, hl]; omega
      rw [hm, dlt hi, bsel_true, i_Matrix_at_eq _ m hi hi, obind_eq, ap, need_true, wsucc (by omega)]
      rfl)
    (fun l _ => by
      show i_Matrix_middle_b1 _ _ _ _ _ = _
      unfold i_Matrix_middle_b1
      rw [hm, dnlt, bsel_false])).1
  rw [Nat.sub_zero, run_map] at e
  unfold i_Matrix_middle
  replace e : loopM (i_Matrix_middle_s1 (n : Int) (n : Int) L) ([], 0) = some (.inl (diagL n L)) := e
  rw [e]; rfl
def ordK (v : List F) (n k : Nat) : Nat := ((ordL v n).getD k 0).toNat
def valL (v : List F) (n : Nat) : List F := (List.range n).map fun k => v.getD (ordK v n k) none
def vecF (v V : List F) (n i k : Nat) : F := gm none V n i (ordK v n k)
theorem ordK_at {v : List F} {n k : Nat} (hv : v.length = n) (hk : k < n) : at? (ordL v n) (k : Int) = some ((ordK v n k : Nat) : Int) ∧ ordK v n k < n := by
  have h := (ordL_names (v := v) (m := n) n (Nat.le_refl _)).at (show k < (ordL v n).length by rw [ordL_len]; exact hk)
  have e : (((ordL v n).getD k 0).toNat : Int) = (ordL v n).getD k 0 := by omega
  refine ⟨?_, ?_⟩
  · rw [at?_n 0 (by rw [ordL_len]; exact hk)]
    unfold ordK
    rw [e]
  · unfold ordK; omega
def colFill (f : Nat → Nat → F) (n k : Nat) (L : List F) : List F := run (fun i L => sm L n i k (f i k)) 0 n L
theorem colFill_spec {f : Nat → Nat → F} {n k : Nat} {L : List F} (h : Mat n n L) (hk : k < n) : Mat n n (colFill f n k L) ∧ ∀ j l, j < n → l < n → gm none (colFill f n k L) n j l = if l = k then f j k else gm none L n j l := by
  have := run_inv (f := fun i L => sm L n i k (f i k)) (fun c L' => Mat n n L' ∧ ∀ j l, j < n → l < n → gm none L' n j l = if l = k ∧ j < c then f j k else gm none L n j l) n 0 L ⟨h, fun j l _ _ => by simp⟩ (fun c L' _ hc hI => by
    refine ⟨hI.1.set _ _ _, fun j l hj hl => ?_⟩
    rw [gm_set hI.1 (by omega) hk hl, hI.2 j l hj hl]
    by_cases e1 : k = l
    · subst e1
      by_cases e2 : c = j
      · subst e2; simp
      · by_cases e3 : j < c
        · rw [if_neg (fun x => e2 x.1), if_pos ⟨rfl, e3⟩, if_pos ⟨rfl, by omega⟩]
        · rw [if_neg (fun x => e2 x.1), if_neg (fun x => e3 x.2), if_neg (fun x => by omega)]
    · rw [if_neg (fun x => e1 x.2), if_neg (fun x => e1 x.1.symm), if_neg (fun x => e1 x.1.symm)])
  rw [Nat.zero_add] at this
  refine ⟨this.1, fun j l hj hl => ?_⟩
  unfold colFill
  rw [this.2 j l hj hl]
  by_cases e : l = k
  · rw [if_pos ⟨e, hj⟩, if_pos e]
  · rw [if_neg (fun x => e x.1), if_neg e]
theorem colFill_tab {f : Nat → Nat → F} {n : Nat} (hn : n ≤ 12) : run (colFill f n) 0 n (List.replicate (n * n) (some 0)) = tabM n n f := by
  have := run_inv (f := colFill f n) (fun c L' => Mat n n L' ∧ ∀ j l, j < n → l < c → l < n → gm none L' n j l = f j l) n 0 (List.replicate (n * n) (some 0)) ⟨zmat hn hn, fun j l _ h _ => by omega⟩ (fun c L' _ hc hI => by
    obtain ⟨s1, s2⟩ := colFill_spec (f := f) hI.1 (show c < n by omega)
    refine ⟨s1, fun j l hj hl hln => ?_⟩
    rw [s2 j l hj hln]
    by_cases e : l = c
    · rw [if_pos e, e]
    · rw [if_neg e]; exact hI.2 j l hj (by omega) hln)
  rw [Nat.zero_add] at this
  refine mat_ext this.1 (tabM_mat hn hn) fun j l hj hl => ?_
  rw [tabM_gm hn hn hj hl]
  exact this.2 j l hj hl hl
theorem s_TurnValues_vec {n : Nat} {v V : List F} (m : Mat n n V) (hv : v.length = n) : loopM (s_TurnValues_s11 (n : Int) (n : Int) (n : Int) V v (ordL v n)) ([], List.replicate (n * n) (some 0), 0) = some (.inl (valL v n, tabM n n (vecF v V n))) := by
  have hn := m.A1
  have inner : ∀ (k : Nat) (L : List F), k < n → Mat n n L → loopM (s_TurnValues_s10 (n : Int) (n : Int) (n : Int) V (ordL v n) (k : Int)) (L, 0) = some (.inl (colFill (vecF v V n) n k L)) := by
    intro k L hk hL
    obtain ⟨o1, o2⟩ := ordK_at hv hk
    exact (loop_run (step := s_TurnValues_s10 (n : Int) (n : Int) (n : Int) V (ordL v n) (k : Int)) (fun (i : Nat) (L : List F) => (L, (i : Int))) (fun i L => sm L n i k (vecF v V n i k)) (fun L => L) (fun _ L => Mat n n L) (lo := 0) (n := n) (Nat.zero_le _) (s0 := L) hL
      (fun i L _ hi hL => by
        refine ⟨?_, hL.set _ _ _⟩
        show s_TurnValues_b10 _ _ _ _ _ _ _ _ = _
        unfold s_TurnValues_b10
        dsimp only
        obtain ⟨e1, e2⟩ := idx_w hL.A1 hL.C1 hi hk
        rw [dlt hi, bsel_true, e1, olet_eq, e2, olet_eq, o1, obind_eq, s_l02At_eq _ m hi o2, obind_eq, setAt?_n _ (hL.lt hi hk), obind_eq, wsucc (by omega)]
        rfl)
      (fun L _ => by
        show s_TurnValues_b10 _ _ _ _ _ _ _ _ = _
        unfold s_TurnValues_b10
        rw [dnlt, bsel_false])).1
  have e := (loop_run (step := s_TurnValues_s11 (n : Int) (n : Int) (n : Int) V v (ordL v n)) (fun (k : Nat) (s : List F × List F) => (s.1, s.2, (k : Int))) (fun k s => (s.1 ++ [v.getD (ordK v n k) none], colFill (vecF v V n) n k s.2)) (fun s => s) (fun k s => s.1.length = k ∧ Mat n n s.2) (lo := 0) (n := n) (Nat.zero_le _) (s0 := ([], List.replicate (n * n) (some 0))) ⟨rfl, zmat hn hn⟩
    (fun k s _ hk hI => by
      refine ⟨?_, by simp [hI.1], (colFill_spec hI.2 hk).1⟩
      obtain ⟨o1, o2⟩ := ordK_at hv hk
      show s_TurnValues_b11 _ _ _ _ _ _ _ _ _ = _
      unfold s_TurnValues_b11
      dsimp only
      have ap : apok 4 s.1.length 1 = true := by simp [apok, hI.1]; omega
      rw [dlt hk, bsel_true, o1, obind_eq, at?_n none (by rw [hv]; exact o2), obind_eq, ap, need_true, inner k s.2 hk hI.2, obind_eq, osum_inl]
      unfold s_TurnValues_k10
      rw [wsucc (by omega)]; rfl)
    (fun s _ => by
      show s_TurnValues_b11 _ _ _ _ _ _ _ _ _ = _
      unfold s_TurnValues_b11
      rw [dnlt, bsel_false])).1
  rw [Nat.sub_zero, run_two (fun k (l : List F) => l ++ [v.getD (ordK v n k) none]) (fun k L => colFill (vecF v V n) n k L), run_map] at e
  have h2 := colFill_tab (f := vecF v V n) hn
  replace h2 : run (fun k L => colFill (vecF v V n) n k L) 0 n (List.replicate (n * n) (some 0)) = tabM n n (vecF v V n) := h2
  rw [h2] at e
  exact e
theorem i_TurnValues_val {n : Nat} {v : List F} (hn : n ≤ 12) (hv : v.length = n) : loopM (i_TurnValues_s1 (upTo n) (ordL v n) v) ([], 0) = some (.inl (valL v n)) := by
  have hu : (upTo n).length = n := upTo_len n
  have e := (loop_run (step := i_TurnValues_s1 (upTo n) (ordL v n) v) (fun (k : Nat) (l : List F) => (l, (k : Int))) (fun k l => l ++ [v.getD (ordK v n k) none]) (fun l => l) (fun k l => l.length = k) (lo := 0) (n := n) (Nat.zero_le _) (s0 := []) rfl
    (fun k l _ hk hl => by
      refine ⟨?_, by simp [hl]⟩
      obtain ⟨o1, o2⟩ := ordK_at hv hk
      show i_TurnValues_b1 _ _ _ _ _ = _
      unfold i_TurnValues_b1
      dsimp only
      have ap : apok 4 l.length 1 = true := by simp [apok, hl]; omega
      rw [hu, dlt hk, bsel_true, o1, obind_eq, at?_n none (by rw [hv]; exact o2), obind_eq, ap, need_true, wsucc (by omega)]
      rfl)
    (fun l _ => by
      show i_TurnValues_b1 _ _ _ _ _ = _
      unfold i_TurnValues_b1
      rw [hu, dnlt, bsel_false])).1
  rw [Nat.sub_zero, run_map] at e
  exact e
theorem i_made_2Fi_TurnValues_2_eq {n : Nat} {v P : List F} (m : Mat n n P) (hv : v.length = n) : i_made_2Fi_TurnValues_2 (n : Int) (n : Int) (n : Int) (n : Int) P (ordL v n) = some ((n : Int), (n : Int), tabM n n (vecF v P n)) := by
  have hn := m.A1
  have inner : ∀ (i : Nat) (L L0 : List F), i < n → Mat n n L → Mat n n L0 → loopM (i_made_2Fi_TurnValues_2_s2 (n : Int) (n : Int) (n : Int) P (ordL v n) (n : Int) (n : Int) L0 (i : Int)) (L, 0) = some (.inl (fillR (vecF v P n) n i L)) := by
    intro i L L0 hi hL hL0
    exact (loop_run (step := i_made_2Fi_TurnValues_2_s2 (n : Int) (n : Int) (n : Int) P (ordL v n) (n : Int) (n : Int) L0 (i : Int)) (fun (k : Nat) (L : List F) => (L, (k : Int))) (fun k L => sm L n i k (vecF v P n i k)) (fun L => L) (fun _ L => Mat n n L) (lo := 0) (n := n) (Nat.zero_le _) (s0 := L) hL
      (fun k L2 _ hk h3 => by
        refine ⟨?_, h3.set _ _ _⟩
        obtain ⟨o1, o2⟩ := ordK_at hv hk
        show i_made_2Fi_TurnValues_2_b2 _ _ _ _ _ _ _ _ _ _ _ = _
        unfold i_made_2Fi_TurnValues_2_b2 i_TurnValues_2
        have l1 : decide ((sm L2 n i k (vecF v P n i k)).length = L0.length) = true := by simp [h3.len, hL0.len]
        rw [dlt hk, bsel_true, o1, obind_eq, i_Matrix_at_eq _ m hi o2, obind_eq, obind_eq]
        show obind (i_Matrix_set_02o (n : Int) (n : Int) (i : Int) (k : Int) (vecF v P n i k) L2) _ = _
        rw [i_Matrix_set_02o_eq _ h3 hi hk, obind_eq, l1, need_true, wsucc (by omega)]
        rfl)
      (fun L2 _ => by
        show i_made_2Fi_TurnValues_2_b2 _ _ _ _ _ _ _ _ _ _ _ = _
        unfold i_made_2Fi_TurnValues_2_b2
        rw [dnlt, bsel_false])).1
  have e := (loop_run (step := i_made_2Fi_TurnValues_2_s3 (n : Int) (n : Int) (n : Int) (n : Int) P (ordL v n) (n : Int) (n : Int) (List.replicate (n * n) (some 0))) (fun (i : Nat) (L : List F) => (L, (i : Int))) (fillR (vecF v P n) n) (fun L => L) (fun _ L => Mat n n L) (lo := 0) (n := n) (Nat.zero_le _) (s0 := List.replicate (n * n) (some 0)) (zmat hn hn)
    (fun i L2 _ hi h3 => by
      refine ⟨?_, (fillR_spec h3 hi).1⟩
      show i_made_2Fi_TurnValues_2_b3 _ _ _ _ _ _ _ _ _ _ _ = _
      unfold i_made_2Fi_TurnValues_2_b3
      rw [dlt hi, bsel_true, inner i L2 _ hi h3 (zmat hn hn), obind_eq, osum_inl]
      unfold i_made_2Fi_TurnValues_2_k2
      rw [wsucc (by omega)]
      rfl)
    (fun L2 _ => by
      show i_made_2Fi_TurnValues_2_b3 _ _ _ _ _ _ _ _ _ _ _ = _
      unfold i_made_2Fi_TurnValues_2_b3
      rw [dnlt, bsel_false])).1
  unfold i_made_2Fi_TurnValues_2
  replace e : loopM (i_made_2Fi_TurnValues_2_s3 (n : Int) (n : Int) (n : Int) (n : Int) P (ordL v n) (n : Int) (n : Int) (List.replicate (n * n) (some 0))) (List.replicate (n * n) (some 0), 0) = some (.inl (tabM n n (vecF v P n))) := e
  rw [i_newMatrix_eq hn hn, obind3_eq, e]; rfl
theorem TurnValues_eq (a0 a1 : Int) (a2 : List F) (a3 : Int) (g : FOks a2) (s2 : a2.length ≤ 1048576) : ∃ x y b l M, s_TurnValues a0 a1 a2 a3 = some (x, y, b, l, M) ∧ i_TurnValues a0 a1 a2 a3 = some (x, y, b, l, M) ∧ l.length ≤ 1048576 ∧ M.length ≤ 1048576 := by
  unfold s_TurnValues i_TurnValues s_l04Symmetric i_IsSymmetric s_l04Rounds i_isRounds
  rw [s_l02Square_eq a0 a1 g s2, i_isSquare_eq a0 a1 g s2, obind_eq, obind_eq]
  cases hv : validM a0 a1 a2 && decide (a0 = a1) with
  | false => exact ⟨_, _, _, _, _, rfl, rfl, by simp, by simp⟩
  | true =>
    simp only [Bool.and_eq_true, decide_eq_true_eq] at hv
    obtain ⟨hv, he⟩ := hv
    obtain ⟨n, C, rfl, rfl, n0, C0, m, f⟩ := valid_mat hv
    have : n = C := by omega
    subst this
    have hn := m.A1
    rw [bsel_true, bsel_true, s_l04Symmetric_loop m, i_IsSymmetric_loop m, obind_eq, obind_eq]
    cases allP (symRow n a2) 0 n with
    | false => exact ⟨_, _, _, _, _, rfl, rfl, by simp, by simp⟩
    | true =>
      rw [cond_true, osum_inl, osum_inl]
      unfold s_l04Symmetric_k3 i_IsSymmetric_k3
      rw [obind_eq, obind_eq, bsel_true, bsel_true, s_l00In_eq, i_inRange_eq, obind_eq, obind_eq, obind_eq]
      cases hr : decide (0 ≤ a3) && decide (a3 ≤ 64) with
      | false => exact ⟨_, _, _, _, _, rfl, rfl, by simp, by simp⟩
      | true =>
        simp only [Bool.and_eq_true, decide_eq_true_eq] at hr
        obtain ⟨q, rfl⟩ : ∃ q : Nat, a3 = (q : Int) := ⟨a3.toNat, by omega⟩
        have hI : TInv n (a2, tabM n n unitF) := ⟨⟨m, g, tabM_mat hn hn, tabM_oks hn hn unitF_ok⟩, f⟩
        obtain ⟨e1, e2⟩ := s_TurnValues_all (a := a2) (b := tabM n n unitF) q hI m.len (tabM_mat hn hn).len (by omega)
        have e3 := i_turnValues_all (b := tabM n n unitF) q hI (tabM_mat hn hn).len (by omega)
        unfold i_turnValues
        rw [bsel_true, bsel_true, s_l02Own_eq _ _ s2, i_Matrix_clone_eq _ _ s2, obind3_eq, obind3_eq, s_l02Unit_eq hn, i_unit_eq hn, obind3_eq, obind3_eq, e1, e3, obind_eq, obind_eq]
        cases hx : runE (fun _ s => tvRound n s) 0 q (a2, tabM n n unitF) with
        | inr r =>
          have : r = tvFail := runE_ret (P := fun r => r = tvFail) (fun _ _ _ h => tvRound_ret h) hx
          subst this
          exact ⟨_, _, _, _, _, rfl, rfl, by simp, by simp⟩
        | inl s' =>
          have hJ := e2 s' hx
          have ld : (diagL n s'.1).length = n := diagL_len
          have gd := diagL_oks (n := n) hJ.i.g
          have fd := diagL_fin hJ.i.m hJ.f
          have hV : Mat n n (tabM n n (vecF (diagL n s'.1) s'.2 n)) := tabM_mat hn hn
          refine ⟨(n : Int), (n : Int), true, valL (diagL n s'.1) n, tabM n n (vecF (diagL n s'.1) s'.2 n), ?_, ?_, by simp [valL]; omega, hV.le⟩
          · show s_TurnValues_k7 _ _ _ _ _ _ _ = _
            unfold s_TurnValues_k7
            rw [s_TurnValues_mid hJ.i.m, obind_eq, osum_inl]
            unfold s_TurnValues_k8
            rw [s_l04Order_eq (by omega), ld, obind_eq, s_l02Zero_eq hn hn, obind3_eq, s_TurnValues_vec hJ.i.n ld, obind_eq, osum_inl]
            rfl
          · show obind5 (i_turnValues_k7 _ _ _ _ _ _) _ = _
            unfold i_turnValues_k7
            rw [i_Matrix_middle_eq hJ.i.m, obind_eq, obind5_eq, bsel_true, i_ascending_eq hn, obind_eq, sortStable_eq gd fd ld n0 hn, obind2_eq, ordL_len, upTo_len, decide_eq_true rfl, need_true, decide_eq_true rfl, need_true, i_TurnValues_val hn ld, obind_eq, osum_inl]
            unfold i_TurnValues_k1
            rw [i_made_2Fi_TurnValues_2_eq hJ.i.n ld, obind3_eq]
theorem w_FnExactTurnValues_true (a0 : Int) (a1 : Int) (a2 : List F) (a3 : Int) (s_a2 : Small a2) (g_a2 : FOks a2) : w_FnExactTurnValues a0 a1 a2 a3 = some true := by
  obtain ⟨l0, e0, h0⟩ := w_szFloat32S_ex a2 1048576 s_a2 (by omega) (by omega)
  rcases Int.lt_or_le l0 0 with c0 | c0
  · simp [w_FnExactTurnValues, w_eqMatrix, w_heldMatrix, w_markMatrix_02o, w_szMatrix, w_toMatrix, e0, c0]
  have d0 : decide (l0 < 0) = false := by simp; omega
  have t0 := h0 c0
  have t_a2 : a2.length ≤ 1048576 := by omega
  have f1 : w_toFloat32S a2 = some a2 := w_toFloat32S_eq a2 t_a2
  obtain ⟨z0, z1, z2, z3, z4, p1, p2, b_z3, b_z4⟩ := TurnValues_eq a0 a1 a2 a3 g_a2 t_a2
  have f2 : w_eqFloat32S z3 z3 = some true := w_eqFloat32S_refl z3 b_z3
  have f3 : w_eqFloat32S z4 z4 = some true := w_eqFloat32S_refl z4 b_z4
  have f4 : (!(z2 == z2)) = false := by cases z2 <;> rfl
  have f5 : w_eqFloat32S a2 a2 = some true := w_eqFloat32S_refl a2 t_a2
  have f6 : w_markFloat32S_0o 1 a2 = some ((1 + (a2.length : Int)), marks 1 a2.length) := w_markFloat32S_0o_eq 1 a2 (by omega) (by omega) t_a2
  have f7 : decide ((1 + (a2.length : Int)) < 0) = false := by simp <;> omega
  have f8 : w_markFloat32S_0o 1 z3 = some ((1 + (z3.length : Int)), marks 1 z3.length) := w_markFloat32S_0o_eq 1 z3 (by omega) (by omega) b_z3
  have f9 : w_markFloat32S_0o (1 + (z3.length : Int)) z4 = some (((1 + (z3.length : Int)) + (z4.length : Int)), marks (1 + (z3.length : Int)) z4.length) := w_markFloat32S_0o_eq (1 + (z3.length : Int)) z4 (by omega) (by omega) b_z4
  have f10 : w_heldFloat32S (marks 1 z3.length) 1 = some (1 + (z3.length : Int)) := w_heldFloat32S_eq 1 z3.length (by omega) (by omega) b_z3
  have f11 : decide ((1 + (z3.length : Int)) < 0) = false := by simp <;> omega
  have f12 : w_heldFloat32S (marks (1 + (z3.length : Int)) z4.length) (1 + (z3.length : Int)) = some ((1 + (z3.length : Int)) + (z4.length : Int)) := w_heldFloat32S_eq (1 + (z3.length : Int)) z4.length (by omega) (by omega) b_z4
  have f13 : decide (((1 + (z3.length : Int)) + (z4.length : Int)) < 0) = false := by simp <;> omega
  simp only [w_FnExactTurnValues, w_eqMatrix, w_heldMatrix, w_markMatrix_02o, w_szMatrix, w_toMatrix, e0, d0, f1, p1, p2, f2, f3, f4, f5, f6, f7, f8, f9, f10, f11, f12, f13, obind_eq, obind2_eq, obind3_eq, obind4_eq, obind5_eq, obind6_eq, obind7_eq, obind8_eq, bsel_true, bsel_false, need_true, olet_eq, marks_len, marksI_len, decide_true, Bool.not_true, Bool.not_false]

end Go.Proofs.Ytcoookgeialmnaa
