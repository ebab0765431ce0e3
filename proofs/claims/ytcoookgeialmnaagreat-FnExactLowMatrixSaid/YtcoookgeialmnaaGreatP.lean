/- The plain law of FnExactLowMatrix. -/
import Derived.Test.YtcoookgeialmnaaGreatG3
namespace Go.Proofs.YtcoookgeialmnaaGreat
set_option linter.unusedSimpArgs false
set_option linter.unusedVariables false
open Go Go.AM
def Small {α : Type} (l : List α) : Prop := l.length ≤ 9223372036854775807
theorem sz_one (n : Nat) (a : Int) (hn : n ≤ 9223372036854775807) (h0 : 0 ≤ a) (h1 : a ≤ 1048576) :
    ∃ r, olet (IntKind.i64.wrap (a - (n : Int))) (fun x1 => bsel (decide (x1 < 0)) (some (-1)) (some x1)) = some r ∧ (0 ≤ r → (n : Int) ≤ a ∧ r ≤ a) := by
  rw [wrap_i64 (by omega) (by omega)]
  simp only [olet_eq, bsel_if, decide_eq_true_eq]
  split
  · exact ⟨_, rfl, fun h => by omega⟩
  · exact ⟨_, rfl, fun h => by omega⟩
theorem w_szFloat32S_ex (l : List F) (a : Int) (hn : Small l) (h0 : 0 ≤ a) (h1 : a ≤ 1048576) : ∃ r, w_szFloat32S l a = some r ∧ (0 ≤ r → (l.length : Int) ≤ a ∧ r ≤ a) := sz_one l.length a hn h0 h1
theorem w_toFloat32S_eq (a : List F) (h : a.length ≤ 1048576) : w_toFloat32S a = some a := by
  unfold w_toFloat32S
  have hm : mkok 4 (a.length : Int) = true := by simp [mkok]; omega
  rw [hm, need_true, loop_copy (a := a) (ρ := List F) ?_ ?_ _ (by simp)]
  · rfl
  · intro L v x h0 hv hx hL
    show w_toFloat32S_b1 a L v = _
    unfold w_toFloat32S_b1
    have hs := setAt?_of (l := L) (x := x) h0 (by omega)
    simp [bsel_if, hv, at?_of h0 hx, hs, wrap_succ h0 hv (by omega : a.length ≤ 9223372036854775807)]
  · intro L hL
    show w_toFloat32S_b1 a L (a.length : Int) = _
    unfold w_toFloat32S_b1
    simp [bsel_if]
theorem w_sameFloat_refl (c : F) : w_sameFloat c c = some true := by
  unfold w_sameFloat
  cases h : feq .f64 c c <;> simp [w_sameFloat_k1, h, bsel_if]
theorem w_eqFloat32S_refl (a : List F) (h : a.length ≤ 1048576) : w_eqFloat32S a a = some true := by
  unfold w_eqFloat32S
  rw [loop_eq (l := a) (m := a) rfl ?_ ?_]
  · simp [bsel_if, w_eqFloat32S_k1]
  · intro v x y h0 hv hx hy
    rw [hx] at hy; cases hy
    show w_eqFloat32S_b1 a a v = _
    unfold w_eqFloat32S_b1
    rw [at?_of h0 hx, wrap_succ h0 hv (by omega)]
    simp [bsel_if, hv, w_sameFloat_refl]
  · show w_eqFloat32S_b1 a a (a.length : Int) = _
    unfold w_eqFloat32S_b1
    simp [bsel_if]
def FOks (l : List F) : Prop := ∀ c ∈ l, FOk .f32 c
theorem FOks.at {l : List F} (h : FOks l) {i : Nat} {c : F} (e : l[i]? = some c) : FOk .f32 c := h c (List.mem_of_getElem? e)
theorem s_l00In_eq (n lo hi : Int) : s_l00In n lo hi = some (decide (lo ≤ n) && decide (n ≤ hi)) := by
  unfold s_l00In; cases decide (lo ≤ n) <;> rfl
theorem i_inRange_eq (n lo hi : Int) : i_inRange n lo hi = some (decide (lo ≤ n) && decide (n ≤ hi)) := by
  unfold i_inRange; cases decide (lo ≤ n) <;> rfl
theorem s_l01Finite_eq {c : F} (h : FOk .f32 c) : s_l01Finite c = some (fin32 c) := by
  unfold s_l01Finite; rw [olet_eq, sub_self h]
theorem s_l02Finite_eq {a : List F} (ha : FOks a) (sa : a.length ≤ 1048576) : s_l02Finite a = some (a.all fin32) := by
  unfold s_l02Finite
  rw [loop_all (l := a) (p := fin32) false ?_ ?_]
  · cases h : a.all fin32 <;> simp [s_l02Finite_k1]
  · intro v x h0 hv hx
    show s_l02Finite_b1 a v = _
    unfold s_l02Finite_b1
    rw [at?_of h0 hx, wrap_succ h0 hv (by omega)]
    simp [bsel_if, hv, s_l01Finite_eq (ha.at hx)]
  · show s_l02Finite_b1 a (a.length : Int) = _
    unfold s_l02Finite_b1
    simp [bsel_if]
theorem i_IsFinite_eq {c : F} (h : FOk .f32 c) : i_IsFinite c = some (fin32 c) := by
  unfold i_IsFinite i_isFinite64 x_math_IsNaN x_math_IsInf x_math_Abs x_math_IsInf_k1
  cases c with
  | none => simp [fwiden, fin32]
  | some b =>
    have hw := feq_refl (k := .f64) (b := FloatKind.f64.encode (FloatKind.f32.decode b)) (fwiden_ok h)
    have hw' : feq .f64 (fwiden (some b)) (fwiden (some b)) = true := hw
    have hm := fabs_max h (by simp)
    simp only [olet_eq, obind_eq, hw', Bool.not_true, bsel_false, decide_true, bsel_true, hm, Bool.not_not]
theorem i_areFinite_1_eq {c : F} (h : FOk .f32 c) : i_areFinite_1 c = some (!fin32 c) := by
  unfold i_areFinite_1; rw [i_IsFinite_eq h]; rfl
theorem any_not {α : Type} (l : List α) (p : α → Bool) : l.any (fun x => !p x) = !l.all p := by
  induction l with
  | nil => rfl
  | cons a l ih => simp [ih]
theorem i_areFinite_eq {a : List F} (ha : FOks a) (sa : a.length ≤ 1048576) : i_areFinite a = some (a.all fin32) := by
  unfold i_areFinite x_slices_ContainsFunc_float32_float32_1Fi_areFinite_1 x_slices_IndexFunc_float32_float32_1Fi_areFinite_1
  obtain ⟨r, h1, h2⟩ := loop_find (l := a) (p := fun c => !fin32 c) (step := x_slices_IndexFunc_float32_float32_1Fi_areFinite_1_s1 a) (by
    intro v x h0 hv hx
    show x_slices_IndexFunc_float32_float32_1Fi_areFinite_1_b1 a v = _
    unfold x_slices_IndexFunc_float32_float32_1Fi_areFinite_1_b1
    rw [at?_of h0 hx, wrap_succ h0 hv (by omega)]
    simp [bsel_if, hv, i_areFinite_1_eq (ha.at hx)]) (by
    show x_slices_IndexFunc_float32_float32_1Fi_areFinite_1_b1 a (a.length : Int) = _
    unfold x_slices_IndexFunc_float32_float32_1Fi_areFinite_1_b1
    simp [bsel_if])
  rw [h1, any_not]
  cases h : a.all fin32 <;> simp [x_slices_IndexFunc_float32_float32_1Fi_areFinite_1_k1, h2]
theorem fint_ok (n : Int) : FOk .f32 (fint .f32 n) := ⟨_, encode_FR .f32 (d := .number (n < 0) n.natAbs 0) rfl⟩
theorem feq_fint (n : Int) : feq .f32 (fint .f32 n) (fint .f32 n) = true := feq_refl (fint_ok n)
def marks (k : Int) (n : Nat) : List F := (List.range n).map fun (i : Nat) => fint .f32 (k + (i : Int))
def marksI (k : Int) (n : Nat) : List Int := (List.range n).map fun (i : Nat) => k + (i : Int)
theorem marks_len (k : Int) (n : Nat) : (marks k n).length = n := by simp [marks]
theorem marksI_len (k : Int) (n : Nat) : (marksI k n).length = n := by simp [marksI]
theorem loop_mark {α ρ : Type} (mk : Int → α) (k : Int) (n : Nat) {step : List α × Int × Int → Option (LR (List α × Int × Int) (List α × Int) ρ)}
    (hstep : ∀ (L : List α) (i : Nat), i < n → L.length = n → step (L, k + (i : Int), (i : Int)) = some (.next (L.set i (mk (k + (i : Int))), k + ((i + 1 : Nat) : Int), ((i + 1 : Nat) : Int))))
    (hend : ∀ L : List α, L.length = n → step (L, k + (n : Int), (n : Int)) = some (.out (L, k + (n : Int)))) (a : List α) (ha : a.length = n) :
    loopM step (a, k, 0) = some (.inl ((List.range n).map (fun (i : Nat) => mk (k + (i : Int))), k + (n : Int))) := by
  have key : ∀ (m i : Nat) (L : List α), m + i = n → L.length = n → L.take i = (List.range i).map (fun (i : Nat) => mk (k + (i : Int))) → loopM step (L, k + (i : Int), (i : Int)) = some (.inl ((List.range n).map (fun (i : Nat) => mk (k + (i : Int))), k + (n : Int))) := by
    intro m
    induction m with
    | zero =>
      intro i L hi hL ht
      have : i = n := by omega
      subst this
      rw [loopM_out (hend L hL), ← ht, ← hL, List.take_length]
    | succ m ih =>
      intro i L hi hL ht
      rw [loopM_next (hstep L i (by omega) hL)]
      refine ih (i + 1) _ (by omega) (by simpa using hL) ?_
      rw [List.take_succ_eq_append_getElem (by simp; omega), List.take_set_of_le (Nat.le_refl _), ht, List.range_succ, List.map_append]
      simp
  have := key n 0 a (by omega) ha (by simp)
  simpa using this
theorem w_markFloat32S_0o_eq (k : Int) (a : List F) (h0 : -1000000000 ≤ k) (h1 : k ≤ 1000000000) (ha : a.length ≤ 1048576) : w_markFloat32S_0o k a = some (k + (a.length : Int), marks k a.length) := by
  unfold w_markFloat32S_0o
  rw [loop_mark (fun n => fint .f32 n) k a.length (step := w_markFloat32S_0o_s1 a) ?_ ?_ a rfl]
  · rfl
  · intro L i hi hL
    show w_markFloat32S_0o_b1 a L (k + (i : Int)) (i : Int) = _
    unfold w_markFloat32S_0o_b1
    have hs := setAt?_of (l := L) (v := (i : Int)) (x := fint .f32 (k + (i : Int))) (by omega) (by omega)
    have e1 : IntKind.i64.wrap (k + (i : Int) + 1) = k + ((i + 1 : Nat) : Int) := by rw [wrap_i64 (by omega) (by omega)]; omega
    have e2 : IntKind.i64.wrap ((i : Int) + 1) = ((i + 1 : Nat) : Int) := by rw [wrap_i64 (by omega) (by omega)]; omega
    simp only [olet_eq, hs, obind_eq, e1, e2, bsel_if, decide_eq_true_eq]
    rw [if_pos (by omega)]
    rfl
  · intro L hL
    show w_markFloat32S_0o_b1 a L (k + (a.length : Int)) (a.length : Int) = _
    unfold w_markFloat32S_0o_b1
    simp [bsel_if]
theorem loop_held {k : Int} {n : Nat} {step : Int × Int → Option (LR (Int × Int) Int Int)}
    (hstep : ∀ i : Nat, i < n → step (k + (i : Int), (i : Int)) = some (.next (k + ((i + 1 : Nat) : Int), ((i + 1 : Nat) : Int)))) (hend : step (k + (n : Int), (n : Int)) = some (.out (k + (n : Int)))) :
    loopM step (k, 0) = some (.inl (k + (n : Int))) := by
  have key : ∀ (m i : Nat), m + i = n → loopM step (k + (i : Int), (i : Int)) = some (.inl (k + (n : Int))) := by
    intro m
    induction m with
    | zero => intro i hi; have : i = n := by omega
              subst this; exact loopM_out hend
    | succ m ih => intro i hi; rw [loopM_next (hstep i (by omega))]; exact ih (i + 1) (by omega)
  have := key n 0 (by omega)
  simpa using this
theorem w_heldFloat32S_eq (k : Int) (n : Nat) (h0 : -1000000000 ≤ k) (h1 : k ≤ 1000000000) (hn : n ≤ 1048576) : w_heldFloat32S (marks k n) k = some (k + (n : Int)) := by
  unfold w_heldFloat32S
  rw [loop_held (k := k) (n := n) (step := w_heldFloat32S_s1 (marks k n)) ?_ ?_]
  · rfl
  · intro i hi
    show w_heldFloat32S_b1 (marks k n) (k + (i : Int)) (i : Int) = _
    unfold w_heldFloat32S_b1
    have hx : (marks k n)[(i : Int).toNat]? = some (fint .f32 (k + (i : Int))) := by simp [marks, hi]
    have e1 : IntKind.i64.wrap (k + (i : Int) + 1) = k + ((i + 1 : Nat) : Int) := by rw [wrap_i64 (by omega) (by omega)]; omega
    have e2 : IntKind.i64.wrap ((i : Int) + 1) = ((i + 1 : Nat) : Int) := by rw [wrap_i64 (by omega) (by omega)]; omega
    rw [at?_of (by omega) hx]
    simp only [olet_eq, obind_eq, e1, e2, bsel_if, decide_eq_true_eq, marks_len, feq_fint]
    rw [if_pos (by omega)]
    simp
  · show w_heldFloat32S_b1 (marks k n) (k + (n : Int)) (n : Int) = _
    unfold w_heldFloat32S_b1
    simp [bsel_if, marks_len]
abbrev q1 : List F := [some 1073741824, some 1065353216, some 1065353216, some 1073741824]
abbrev q2 : List F := [some 1065353216, some 0]
theorem small_mul {x y : Nat} (hx : x ≤ 12) (hy : y ≤ 12) : x * y ≤ 144 := Nat.mul_le_mul hx hy
def side (n : Int) : Bool := decide (1 ≤ n) && decide (n ≤ 12)
theorem s_l02Sides_eq (x y : Int) : s_l02Sides x y = some (side x && side y) := by
  unfold s_l02Sides; rw [s_l00In_eq, s_l00In_eq]; unfold side
  cases decide (1 ≤ x) <;> cases decide (x ≤ 12) <;> rfl
theorem i_isSide_eq (x : Int) : i_isSide x = some (side x) := by
  unfold i_isSide; rw [i_inRange_eq]; rfl
def validM (a0 a1 : Int) (a2 : List F) : Bool := side a0 && side a1 && decide ((a2.length : Int) = IntKind.i64.wrap (a0 * a1)) && a2.all fin32
theorem s_l02Is_eq (a0 a1 : Int) {a2 : List F} (g2 : FOks a2) (s2 : a2.length ≤ 1048576) : s_l02Is a0 a1 a2 = some (validM a0 a1 a2) := by
  unfold s_l02Is validM
  rw [s_l02Sides_eq, s_l02Finite_eq g2 s2]
  cases side a0 <;> cases side a1 <;> simp [bsel_if] <;> split <;> simp_all
theorem i_ValidMatrix_eq (a0 a1 : Int) {a2 : List F} (g2 : FOks a2) (s2 : a2.length ≤ 1048576) : i_ValidMatrix a0 a1 a2 = some (validM a0 a1 a2) := by
  unfold i_ValidMatrix i_length_float32 validM
  rw [i_isSide_eq, i_isSide_eq, i_areFinite_eq g2 s2]
  cases side a0 <;> cases side a1 <;> simp [bsel_if] <;> split <;> simp_all
theorem side_nat {n : Int} (h : side n = true) : ∃ m : Nat, n = (m : Int) ∧ 0 < m ∧ m ≤ 12 := by
  simp [side] at h
  exact ⟨n.toNat, by omega, by omega, by omega⟩
theorem FOks.getD {l : List F} (h : FOks l) (n : Nat) : FOk .f32 (l.getD n none) := by
  simp only [List.getD]
  cases e : l[n]? with
  | none => exact fok_none _
  | some c => exact h.at e
theorem FOks.set {l : List F} (h : FOks l) {n : Nat} {x : F} (hx : FOk .f32 x) : FOks (l.set n x) := by
  intro c hc
  rcases List.mem_or_eq_of_mem_set hc with h1 | h1
  · exact h c h1
  · exact h1 ▸ hx
theorem wsucc {i : Nat} (h : i ≤ 1000000000) : IntKind.i64.wrap ((i : Int) + 1) = ((i + 1 : Nat) : Int) := by
  rw [wrap_i64 (by omega) (by omega)]; omega
theorem dlt {i n : Nat} (h : i < n) : decide ((i : Int) < (n : Int)) = true := by simp; omega
theorem dnlt {n : Nat} : decide ((n : Int) < (n : Int)) = false := by simp
theorem i_Matrix_at_eq {A C i k : Nat} {L : List F} (r : Int) (h : Mat A C L) (hi : i < A) (hk : k < C) : i_Matrix_at r (C : Int) L (i : Int) (k : Int) = some (gm none L C i k) := by
  obtain ⟨e1, e2⟩ := idx_w h.A1 h.C1 hi hk
  unfold i_Matrix_at
  rw [e1, olet_eq, e2, olet_eq, at?_n none (h.lt hi hk), obind_eq]
theorem s_l02At_eq {A C i k : Nat} {L : List F} (r : Int) (h : Mat A C L) (hi : i < A) (hk : k < C) : s_l02At r (C : Int) L (i : Int) (k : Int) = some (gm none L C i k) := by
  obtain ⟨e1, e2⟩ := idx_w h.A1 h.C1 hi hk
  unfold s_l02At
  rw [e1, olet_eq, e2, olet_eq, at?_n none (h.lt hi hk), obind_eq]
theorem i_Matrix_set_02o_eq {A C i k : Nat} {L : List F} (r : Int) (h : Mat A C L) (hi : i < A) (hk : k < C) (x : F) : i_Matrix_set_02o r (C : Int) (i : Int) (k : Int) x L = some (sm L C i k x) := by
  obtain ⟨e1, e2⟩ := idx_w h.A1 h.C1 hi hk
  unfold i_Matrix_set_02o
  rw [e1, olet_eq, e2, olet_eq, setAt?_n x (h.lt hi hk), obind_eq]
theorem i_absolute_eq {c : F} (h : FOk .f32 c) : i_absolute c = some (fabs32 c) := by
  unfold i_absolute x_math_Abs
  rw [olet_eq, olet_eq, obind_eq, abs_narrow h, obind_eq]
theorem s_l02Size_eq {c : F} (h : FOk .f32 c) : s_l02Size c = some (fabs32 c) := by
  unfold s_l02Size
  rw [← size_abs h, bsel_if, olet_eq]
  split <;> rfl
theorem i_mul_eq (a b : F) : i_mul a b = some (fop .mul .f32 a b) := rfl
theorem getD_of_lt {α : Type} {l : List α} {n : Nat} (d : α) (h : n < l.length) : l[n]? = some (l.getD n d) := by simp [List.getD, h]
theorem fin_all {L : List F} : L.all fin32 = true ↔ ∀ n, n < L.length → fin32 (L.getD n none) = true := by
  rw [List.all_eq_true]
  constructor
  · intro h n hn; exact h _ (List.mem_of_getElem? (getD_of_lt none hn))
  · intro h c hc
    obtain ⟨n, hn, e⟩ := List.mem_iff_getElem.1 hc
    have := h n hn
    simpa [List.getD, hn, e] using this
def upTo (n : Nat) : List Int := (List.range n).map fun (i : Nat) => (i : Int)
theorem upTo_len (n : Nat) : (upTo n).length = n := by simp [upTo]
theorem run_upTo : ∀ n : Nat, run (fun (i : Nat) (l : List Int) => l ++ [(i : Int)]) 0 n [] = upTo n
  | 0 => rfl
  | n + 1 => by rw [run_last, run_upTo n]; simp [upTo, List.range_succ]
theorem i_ascending_eq {n : Nat} (hn : n ≤ 12) : i_ascending (n : Int) = some (upTo n) := by
  obtain ⟨e, _⟩ := loop_run (step := i_ascending_s1 (n : Int)) (fun c L => (L, (c : Int))) (fun (i : Nat) (l : List Int) => l ++ [(i : Int)]) (fun L => L) (fun i L => L.length = i) (lo := 0) (n := n) (Nat.zero_le _) (s0 := []) rfl
    (fun c L h1 h2 h3 => by
      refine ⟨?_, by simp [h3]⟩
      show i_ascending_b1 _ _ _ = _
      unfold i_ascending_b1
      have ap : apok 8 L.length 1 = true := by simp [apok]; omega
      rw [dlt h2, bsel_true, ap, need_true, wsucc (by omega)]
      rfl)
    (fun L _ => by
      show i_ascending_b1 _ _ _ = _
      unfold i_ascending_b1
      rw [dnlt, bsel_false])
  unfold i_ascending
  replace e : loopM (i_ascending_s1 (n : Int)) ([], 0) = some (.inl (run (fun (i : Nat) (l : List Int) => l ++ [(i : Int)]) 0 (n - 0) [])) := e
  rw [e, Nat.sub_zero, run_upTo]; rfl
theorem valid_mat {a0 a1 : Int} {a2 : List F} (h : validM a0 a1 a2 = true) : ∃ A C : Nat, a0 = (A : Int) ∧ a1 = (C : Int) ∧ 0 < A ∧ 0 < C ∧ Mat A C a2 ∧ a2.all fin32 = true := by
  simp only [validM, Bool.and_eq_true, decide_eq_true_eq] at h
  obtain ⟨⟨⟨v1, v2⟩, v3⟩, v4⟩ := h
  obtain ⟨A, rfl, A0, A1⟩ := side_nat v1
  obtain ⟨C, rfl, C0, C1⟩ := side_nat v2
  have hAC := small_mul A1 C1
  rw [← Int.natCast_mul, wn (by omega)] at v3
  exact ⟨A, C, rfl, rfl, A0, C0, ⟨A1, C1, by omega⟩, v4⟩
theorem mat_valid {A C : Nat} {L : List F} (h : Mat A C L) (hA : 0 < A) (hC : 0 < C) : validM (A : Int) (C : Int) L = L.all fin32 := by
  unfold validM side
  have hAC := small_mul h.A1 h.C1
  have h1 := h.A1
  have h2 := h.C1
  rw [← Int.natCast_mul, wn (by omega), h.len]
  have e1 : decide ((1 : Int) ≤ (A : Int)) = true := by simp; omega
  have e2 : decide ((A : Int) ≤ 12) = true := by simp; omega
  have e3 : decide ((1 : Int) ≤ (C : Int)) = true := by simp; omega
  have e4 : decide ((C : Int) ≤ 12) = true := by simp; omega
  rw [e1, e2, e3, e4]
  simp
theorem s_l02Own_eq (a0 a1 : Int) {L : List F} (h : L.length ≤ 1048576) : s_l02Own a0 a1 L = some (a0, a1, L) := by
  have ap : apok 4 0 L.length = true := by simp [apok]; omega
  unfold s_l02Own; rw [ap]; rfl
theorem i_Matrix_clone_eq (a0 a1 : Int) {L : List F} (h : L.length ≤ 1048576) : i_Matrix_clone a0 a1 L = some (a0, a1, L) := by
  have ap : apok 4 0 L.length = true := by simp [apok]; omega
  unfold i_Matrix_clone x_slices_Clone_float32_float32; rw [ap]; rfl
theorem i_RootNumber_eq {y : F} (h : FOk .f32 y) : i_RootNumber y = some (rootN y) := by
  unfold i_RootNumber x_math_Sqrt
  rw [olet_eq, olet_eq, obind_eq, root_narrow h]; rfl
theorem s_l01Sqrt_eq {y : F} (h : FOk .f32 y) : s_l01Sqrt y = some (rootN y) := by
  unfold s_l01Sqrt x_math_Sqrt s_l01Narrow
  rw [olet_eq, olet_eq, obind_eq, root_narrow h]; rfl
theorem s_l02Zero_eq {A C : Nat} (hA : A ≤ 12) (hC : C ≤ 12) : s_l02Zero (A : Int) (C : Int) = some ((A : Int), (C : Int), List.replicate (A * C) (some 0)) := by
  have hAC := small_mul hA hC
  unfold s_l02Zero
  have mk : mkok 4 ((A * C : Nat) : Int) = true := by simp [mkok]; omega
  rw [← Int.natCast_mul, wn (by omega), olet_eq, mk]; rfl
theorem i_newMatrix_eq {A C : Nat} (hA : A ≤ 12) (hC : C ≤ 12) : i_newMatrix (A : Int) (C : Int) = some ((A : Int), (C : Int), List.replicate (A * C) (some 0)) := by
  have hAC := small_mul hA hC
  unfold i_newMatrix
  have mk : mkok 4 ((A * C : Nat) : Int) = true := by simp [mkok]; omega
  rw [← Int.natCast_mul, wn (by omega), olet_eq, mk]; rfl
theorem mat_ext {A C : Nat} {L L' : List F} (h : Mat A C L) (h' : Mat A C L') (e : ∀ i k, i < A → k < C → gm none L C i k = gm none L' C i k) : L = L' := by
  apply List.ext_getElem?
  intro q
  by_cases hq : q < A * C
  · have hC : 0 < C := by
      rcases Nat.eq_zero_or_pos C with h0 | h0
      · subst h0; simp at hq
      · exact h0
    have h1 : q / C < A := (Nat.div_lt_iff_lt_mul hC).2 hq
    have h2 : q % C < C := Nat.mod_lt _ hC
    have h3 : q / C * C + q % C = q := by rw [Nat.mul_comm]; exact Nat.div_add_mod q C
    have := e _ _ h1 h2
    unfold gm at this
    rw [h3] at this
    rw [getD_of_lt none (by rw [h.len]; exact hq), getD_of_lt none (by rw [h'.len]; exact hq), this]
  · rw [List.getElem?_eq_none (by rw [h.len]; omega), List.getElem?_eq_none (by rw [h'.len]; omega)]
def fillR (f : Nat → Nat → F) (C i : Nat) (L : List F) : List F := run (fun k L => sm L C i k (f i k)) 0 C L
def fillA (f : Nat → Nat → F) (A C : Nat) (L : List F) : List F := run (fillR f C) 0 A L
theorem fillR_spec {f : Nat → Nat → F} {A C i : Nat} {L : List F} (h : Mat A C L) (hi : i < A) : Mat A C (fillR f C i L) ∧ ∀ j k, j < A → k < C → gm none (fillR f C i L) C j k = if j = i then f i k else gm none L C j k := by
  have := run_inv (f := fun k L => sm L C i k (f i k)) (fun c L' => Mat A C L' ∧ ∀ j k, j < A → k < C → gm none L' C j k = if j = i ∧ k < c then f i k else gm none L C j k) C 0 L ⟨h, fun j k _ _ => by simp⟩ (fun c L' _ hc hI => by
    refine ⟨hI.1.set _ _ _, fun j k hj hk => ?_⟩
    rw [gm_set hI.1 hi (by omega) hk, hI.2 j k hj hk]
    by_cases e1 : i = j
    · subst e1
      by_cases e2 : c = k
      · subst e2; simp
      · by_cases e3 : k < c
        · rw [if_neg (by omega), if_pos (by omega), if_pos (by omega)]
        · rw [if_neg (by omega), if_neg (by omega), if_neg (by omega)]
    · rw [if_neg (by omega), if_neg (by omega), if_neg (by omega)])
  refine ⟨this.1, fun j k hj hk => ?_⟩
  unfold fillR
  rw [this.2 j k hj hk]
  by_cases e : j = i
  · rw [if_pos ⟨e, by omega⟩, if_pos e]
  · rw [if_neg (by omega), if_neg e]
theorem fillA_spec {f : Nat → Nat → F} {A C : Nat} {L : List F} (h : Mat A C L) : Mat A C (fillA f A C L) ∧ ∀ j k, j < A → k < C → gm none (fillA f A C L) C j k = f j k := by
  have := run_inv (f := fillR f C) (fun r L' => Mat A C L' ∧ ∀ j k, j < r → j < A → k < C → gm none L' C j k = f j k) A 0 L ⟨h, fun j k hj _ _ => by omega⟩ (fun r L' _ hr hI => by
    obtain ⟨s1, s2⟩ := fillR_spec (f := f) hI.1 (show r < A by omega)
    refine ⟨s1, fun j k hj hjA hk => ?_⟩
    rw [s2 j k hjA hk]
    by_cases e : j = r
    · rw [if_pos e, e]
    · rw [if_neg e]; exact hI.2 j k (by omega) hjA hk)
  exact ⟨this.1, fun j k hj hk => this.2 j k (by omega) hj hk⟩
def tabM (A C : Nat) (f : Nat → Nat → F) : List F := fillA f A C (List.replicate (A * C) (some 0))
theorem zmat {A C : Nat} (hA : A ≤ 12) (hC : C ≤ 12) : Mat A C (List.replicate (A * C) (some 0 : F)) := ⟨hA, hC, by simp⟩
theorem tabM_mat {A C : Nat} {f : Nat → Nat → F} (hA : A ≤ 12) (hC : C ≤ 12) : Mat A C (tabM A C f) := (fillA_spec (zmat hA hC)).1
theorem tabM_gm {A C : Nat} {f : Nat → Nat → F} (hA : A ≤ 12) (hC : C ≤ 12) {i k : Nat} (hi : i < A) (hk : k < C) : gm none (tabM A C f) C i k = f i k := (fillA_spec (zmat hA hC)).2 i k hi hk
theorem oks_of_gm {A C : Nat} {L : List F} (h : Mat A C L) (e : ∀ i k, i < A → k < C → FOk .f32 (gm none L C i k)) : FOks L := by
  intro c hc
  obtain ⟨q, hq, rfl⟩ := List.mem_iff_getElem.1 hc
  have hq' : q < A * C := by rw [← h.len]; exact hq
  have hC : 0 < C := by
    rcases Nat.eq_zero_or_pos C with h0 | h0
    · subst h0; simp at hq'
    · exact h0
  have h1 : q / C < A := (Nat.div_lt_iff_lt_mul hC).2 hq'
  have h2 : q % C < C := Nat.mod_lt _ hC
  have h3 : q / C * C + q % C = q := by rw [Nat.mul_comm]; exact Nat.div_add_mod q C
  have := e _ _ h1 h2
  unfold gm at this
  rw [h3] at this
  simpa [List.getD, hq] using this
theorem tabM_oks {A C : Nat} {f : Nat → Nat → F} (hA : A ≤ 12) (hC : C ≤ 12) (hf : ∀ i k, FOk .f32 (f i k)) : FOks (tabM A C f) := oks_of_gm (tabM_mat hA hC) fun i k hi hk => by rw [tabM_gm hA hC hi hk]; exact hf i k
theorem run_map {α : Type} (f : Nat → α) : ∀ n : Nat, run (fun i (l : List α) => l ++ [f i]) 0 n [] = (List.range n).map f
  | 0 => rfl
  | n + 1 => by rw [run_last, run_map f n]; simp [List.range_succ]
def unitF (i k : Nat) : F := bif decide (i = k) then some 1065353216 else some 0
theorem unitF_ok (i k : Nat) : FOk .f32 (unitF i k) := by
  unfold unitF
  cases decide (i = k)
  · exact ⟨0, rfl, by decide, rfl⟩
  · exact ⟨1065353216, rfl, by decide, rfl⟩
theorem i_unit_1_eq (i k : Nat) : i_unit_1 (i : Int) (k : Int) = some (unitF i k) := by
  unfold i_unit_1 unitF
  by_cases h : i = k
  · subst h; simp
  · rw [show decide ((i : Int) = (k : Int)) = false by simp; omega, show decide (i = k) = false by simp [h]]; rfl
theorem i_made_2Fi_unit_1_eq {A C : Nat} (hA : A ≤ 12) (hC : C ≤ 12) : i_made_2Fi_unit_1 (A : Int) (C : Int) = some ((A : Int), (C : Int), tabM A C unitF) := by
  have inner : ∀ (i : Nat) (L L0 : List F), i < A → Mat A C L → Mat A C L0 → loopM (i_made_2Fi_unit_1_s2 (C : Int) (A : Int) (C : Int) L0 (i : Int)) (L, 0) = some (.inl (fillR unitF C i L)) := by
    intro i L L0 hi hL hL0
    exact (loop_run (step := i_made_2Fi_unit_1_s2 (C : Int) (A : Int) (C : Int) L0 (i : Int)) (fun (k : Nat) (L : List F) => (L, (k : Int))) (fun k L => sm L C i k (unitF i k)) (fun L => L) (fun _ L => Mat A C L) (lo := 0) (n := C) (Nat.zero_le _) (s0 := L) hL
      (fun k L2 _ hk h3 => by
        refine ⟨?_, h3.set _ _ _⟩
        show i_made_2Fi_unit_1_b2 _ _ _ _ _ _ _ = _
        unfold i_made_2Fi_unit_1_b2
        have l1 : decide ((sm L2 C i k (unitF i k)).length = L0.length) = true := by simp [h3.len, hL0.len]
        rw [dlt hk, bsel_true, i_unit_1_eq, obind_eq, i_Matrix_set_02o_eq _ h3 hi hk, obind_eq, l1, need_true, wsucc (by omega)]
        rfl)
      (fun L2 _ => by
        show i_made_2Fi_unit_1_b2 _ _ _ _ _ _ _ = _
        unfold i_made_2Fi_unit_1_b2
        rw [dnlt, bsel_false])).1
  have e := (loop_run (step := i_made_2Fi_unit_1_s3 (A : Int) (C : Int) (A : Int) (C : Int) (List.replicate (A * C) (some 0))) (fun (i : Nat) (L : List F) => (L, (i : Int))) (fillR unitF C) (fun L => L) (fun _ L => Mat A C L) (lo := 0) (n := A) (Nat.zero_le _) (s0 := List.replicate (A * C) (some 0)) (zmat hA hC)
    (fun i L2 _ hi h3 => by
      refine ⟨?_, (fillR_spec h3 hi).1⟩
      show i_made_2Fi_unit_1_b3 _ _ _ _ _ _ _ = _
      unfold i_made_2Fi_unit_1_b3
      rw [dlt hi, bsel_true, inner i L2 _ hi h3 (zmat hA hC), obind_eq, osum_inl]
      unfold i_made_2Fi_unit_1_k2
      rw [wsucc (by omega)]
      rfl)
    (fun L2 _ => by
      show i_made_2Fi_unit_1_b3 _ _ _ _ _ _ _ = _
      unfold i_made_2Fi_unit_1_b3
      rw [dnlt, bsel_false])).1
  unfold i_made_2Fi_unit_1
  replace e : loopM (i_made_2Fi_unit_1_s3 (A : Int) (C : Int) (A : Int) (C : Int) (List.replicate (A * C) (some 0))) (List.replicate (A * C) (some 0), 0) = some (.inl (tabM A C unitF)) := e
  rw [i_newMatrix_eq hA hC, obind3_eq, e]; rfl
theorem i_unit_eq {n : Nat} (hn : n ≤ 12) : i_unit (n : Int) = some ((n : Int), (n : Int), tabM n n unitF) := by
  unfold i_unit
  rw [i_made_2Fi_unit_1_eq hn hn]; rfl
theorem s_l02Unit_eq {n : Nat} (hn : n ≤ 12) : s_l02Unit (n : Int) = some ((n : Int), (n : Int), tabM n n unitF) := by
  obtain ⟨e, _⟩ := loop_run (step := s_l02Unit_s1 (n : Int)) (fun (i : Nat) (L : List F) => (L, (i : Int))) (fun i L => sm L n i i (some 1065353216)) (fun L => L) (fun _ L => Mat n n L) (lo := 0) (n := n) (Nat.zero_le _) (s0 := List.replicate (n * n) (some 0)) (zmat hn hn)
    (fun i L _ hi h => by
      refine ⟨?_, h.set _ _ _⟩
      show s_l02Unit_b1 _ _ _ = _
      unfold s_l02Unit_b1
      obtain ⟨e1, e2⟩ := idx_w h.A1 h.C1 hi hi
      rw [dlt hi, bsel_true, e1, olet_eq, e2, olet_eq, setAt?_n _ (h.lt hi hi), obind_eq, wsucc (by omega)]
      rfl)
    (fun L _ => by
      show s_l02Unit_b1 _ _ _ = _
      unfold s_l02Unit_b1
      rw [dnlt, bsel_false])
  have hz : ∀ j k, j < n → k < n → gm none (List.replicate (n * n) (some 0 : F)) n j k = some 0 := by
    intro j k hj hk
    have := idx_lt hj hk
    simp [gm, List.getD, List.getElem?_replicate, this]
  have hrun := run_inv (f := fun i L => sm L n i i (some 1065353216)) (fun d L => Mat n n L ∧ ∀ j k, j < n → k < n → gm none L n j k = if j = k ∧ j < d then some 1065353216 else some 0) n 0 (List.replicate (n * n) (some 0)) ⟨zmat hn hn, fun j k hj hk => by rw [hz j k hj hk]; simp⟩ (fun d L _ hd hI => by
    refine ⟨hI.1.set _ _ _, fun j k hj hk => ?_⟩
    rw [gm_set hI.1 (by omega) (by omega) hk, hI.2 j k hj hk]
    by_cases e : d = j ∧ d = k
    · rw [if_pos e, if_pos (by omega)]
    · rw [if_neg e]
      by_cases e2 : j = k ∧ j < d
      · rw [if_pos e2, if_pos (by omega)]
      · rw [if_neg e2, if_neg (by omega)])
  have heq : run (fun i L => sm L n i i (some 1065353216)) 0 (n - 0) (List.replicate (n * n) (some 0 : F)) = tabM n n unitF := by
    refine mat_ext hrun.1 (tabM_mat hn hn) fun j k hj hk => ?_
    rw [tabM_gm hn hn hj hk]
    have := hrun.2 j k hj hk
    rw [Nat.sub_zero, this]
    unfold unitF
    by_cases e : j = k
    · rw [if_pos ⟨e, by omega⟩, show decide (j = k) = true by simp [e]]; rfl
    · rw [if_neg (fun h => e h.1), show decide (j = k) = false by simp [e]]; rfl
  unfold s_l02Unit
  replace e : loopM (s_l02Unit_s1 (n : Int)) (List.replicate (n * n) (some 0), 0) = some (.inl (run (fun i L => sm L n i i (some 1065353216)) 0 (n - 0) (List.replicate (n * n) (some 0)))) := e
  rw [s_l02Zero_eq hn hn, obind3_eq, e, obind_eq, osum_inl, heq]; rfl
def colP (A C k : Nat) (L : List F) : List F := (List.range A).map fun i => gm none L C i k
theorem colP_len {A C k : Nat} {L : List F} : (colP A C k L).length = A := by simp [colP]
theorem colP_at {A C k i : Nat} {L : List F} (hi : i < A) : (colP A C k L).getD i none = gm none L C i k := by
  simp [colP, List.getD, hi]
theorem i_Matrix_column_eq {A C k : Nat} {L : List F} (h : Mat A C L) (hk : k < C) : i_Matrix_column (A : Int) (C : Int) L (k : Int) = some (colP A C k L) := by
  have hA := h.A1
  obtain ⟨e, _⟩ := loop_run (step := i_Matrix_column_s1 (A : Int) (C : Int) L (k : Int)) (fun (i : Nat) (l : List F) => (l, (i : Int))) (fun i l => l ++ [gm none L C i k]) (fun l => l) (fun i l => l.length = i) (lo := 0) (n := A) (Nat.zero_le _) (s0 := []) rfl
    (fun i l _ hi h3 => by
      refine ⟨?_, by simp [h3]⟩
      show i_Matrix_column_b1 _ _ _ _ _ _ = _
      unfold i_Matrix_column_b1
      have ap : apok 4 l.length 1 = true := by simp [apok]; omega
      rw [dlt hi, bsel_true, i_Matrix_at_eq _ h hi hk, obind_eq, ap, need_true, wsucc (by omega)]
      rfl)
    (fun l _ => by
      show i_Matrix_column_b1 _ _ _ _ _ _ = _
      unfold i_Matrix_column_b1
      rw [dnlt, bsel_false])
  unfold i_Matrix_column
  replace e : loopM (i_Matrix_column_s1 (A : Int) (C : Int) L (k : Int)) ([], 0) = some (.inl (run (fun i l => l ++ [gm none L C i k]) 0 (A - 0) [])) := e
  rw [e, Nat.sub_zero, run_map]; rfl
def dotE (f g : Nat → F) (i : Nat) (y : F) : F := fop .add .f32 y (fop .mul .f32 (f i) (g i))
def dotN (f g : Nat → F) (n : Nat) : F := run (dotE f g) 0 n (some 0)
theorem zero_ok : FOk .f32 (some 0) := ⟨0, rfl, by decide, rfl⟩
theorem dotN_ok (f g : Nat → F) (n : Nat) : FOk .f32 (dotN f g n) := run_inv (fun _ y => FOk .f32 y) n 0 (some 0) zero_ok fun _ _ _ _ _ => fop_fok _ _ _
theorem dotN_congr {f g f' g' : Nat → F} {n : Nat} (h : ∀ i, i < n → f i = f' i ∧ g i = g' i) : dotN f g n = dotN f' g' n :=
  run_congr (fun _ _ => True) n 0 _ trivial fun i y _ hi _ => ⟨by unfold dotE; rw [(h i (by omega)).1, (h i (by omega)).2], trivial⟩
theorem i_dot_eq {l m : List F} (hl : l.length ≤ m.length) (hs : l.length ≤ 1000000) : i_dot l m = some (dotN (fun i => l.getD i none) (fun i => m.getD i none) l.length) := by
  obtain ⟨e, _⟩ := loop_run (step := i_dot_s1 l m) (fun (i : Nat) (y : F) => (y, (i : Int))) (dotE (fun i => l.getD i none) (fun i => m.getD i none)) (fun y => y) (fun _ _ => True) (lo := 0) (n := l.length) (Nat.zero_le _) (s0 := some 0) trivial
    (fun i y _ hi _ => by
      refine ⟨?_, trivial⟩
      show i_dot_b1 _ _ _ _ = _
      unfold i_dot_b1
      rw [dlt hi, bsel_true, at?_n none hi, obind_eq, at?_n none (by omega), obind_eq, i_mul_eq, obind_eq, olet_eq, wsucc (by omega)]
      rfl)
    (fun y _ => by
      show i_dot_b1 _ _ _ _ = _
      unfold i_dot_b1
      rw [dnlt, bsel_false])
  unfold i_dot
  replace e : loopM (i_dot_s1 l m) (some 0, 0) = some (.inl (run (dotE (fun i => l.getD i none) (fun i => m.getD i none)) 0 (l.length - 0) (some 0))) := e
  rw [e]; rfl
def colDot (A C : Nat) (L : List F) (i k : Nat) : F := dotN (fun r => gm none L C r i) (fun r => gm none L C r k) A
theorem colDot_ok (A C : Nat) (L : List F) (i k : Nat) : FOk .f32 (colDot A C L i k) := dotN_ok _ _ _
theorem i_dot_cols {A C i k : Nat} {L : List F} (h : Mat A C L) : i_dot (colP A C i L) (colP A C k L) = some (colDot A C L i k) := by
  have hA := h.A1
  rw [i_dot_eq (by rw [colP_len, colP_len]; exact Nat.le_refl _) (by rw [colP_len]; omega), colP_len]
  congr 1
  exact dotN_congr fun r hr => ⟨colP_at hr, colP_at hr⟩
theorem run_three {α β γ : Type} (f : Nat → α → α) (g : Nat → β → β) (h : Nat → γ → γ) : ∀ (m i : Nat) (a : α) (b : β) (c : γ), run (fun i (t : α × β × γ) => (f i t.1, g i t.2.1, h i t.2.2)) i m (a, b, c) = (run f i m a, run g i m b, run h i m c)
  | 0, _, _, _, _ => rfl
  | m + 1, i, a, b, c => by rw [run_succ, run_succ, run_succ, run_succ]; exact run_three f g h m (i + 1) _ _ _
theorem s_l04Sums_eq {A C i k : Nat} {L : List F} (h : Mat A C L) (hi : i < C) (hk : k < C) : s_l04Sums (A : Int) (C : Int) L (i : Int) (k : Int) = some (colDot A C L i i, colDot A C L k k, colDot A C L i k) := by
  have hA := h.A1
  obtain ⟨e, _⟩ := loop_run (step := s_l04Sums_s1 (A : Int) (C : Int) L (i : Int) (k : Int)) (fun (r : Nat) (t : F × F × F) => (t.1, t.2.1, t.2.2, (r : Int))) (fun r (t : F × F × F) => (dotE (fun r => gm none L C r i) (fun r => gm none L C r i) r t.1, dotE (fun r => gm none L C r k) (fun r => gm none L C r k) r t.2.1, dotE (fun r => gm none L C r i) (fun r => gm none L C r k) r t.2.2)) (fun t => t) (fun _ _ => True) (lo := 0) (n := A) (Nat.zero_le _) (s0 := (some 0, some 0, some 0)) trivial
    (fun r t _ hr _ => by
      refine ⟨?_, trivial⟩
      show s_l04Sums_b1 _ _ _ _ _ _ _ _ _ = _
      unfold s_l04Sums_b1
      rw [dlt hr, bsel_true, s_l02At_eq _ h hr hi, obind_eq, s_l02At_eq _ h hr hk, obind_eq]
      simp only [olet_eq, wsucc (show r ≤ 1000000000 by omega)]
      rfl)
    (fun t _ => by
      show s_l04Sums_b1 _ _ _ _ _ _ _ _ _ = _
      unfold s_l04Sums_b1
      rw [dnlt, bsel_false])
  unfold s_l04Sums
  rw [run_three] at e
  replace e : loopM (s_l04Sums_s1 (A : Int) (C : Int) L (i : Int) (k : Int)) (some 0, some 0, some 0, 0) = some (.inl (colDot A C L i i, colDot A C L k k, colDot A C L i k)) := e
  rw [e]; rfl
def cosT (t : F) : F × F := (fop .quo .f32 (some 1065353216) (rootN (fop .add .f32 (fop .mul .f32 t t) (some 1065353216))), fop .mul .f32 t (fop .quo .f32 (some 1065353216) (rootN (fop .add .f32 (fop .mul .f32 t t) (some 1065353216)))))
def cosP (a : F) : F × F := cosT (bif flt .f32 a (some 0) then fneg .f32 (fop .quo .f32 (some 1065353216) (fop .add .f32 (fabs32 a) (rootN (fop .add .f32 (fop .mul .f32 a a) (some 1065353216))))) else fop .quo .f32 (some 1065353216) (fop .add .f32 (fabs32 a) (rootN (fop .add .f32 (fop .mul .f32 a a) (some 1065353216)))))
theorem i_turnFor_eq {a : F} (h : FOk .f32 a) : i_turnFor a = some (cosP a) := by
  have hk : ∀ t, i_turnFor_k1 t = some (cosT t) := by
    intro t
    unfold i_turnFor_k1
    rw [i_mul_eq, obind_eq, olet_eq, i_RootNumber_eq (fop_fok _ _ _), obind_eq, olet_eq, i_mul_eq]; rfl
  unfold i_turnFor cosP
  rw [i_absolute_eq h, obind_eq, i_mul_eq, obind_eq, olet_eq, i_RootNumber_eq (fop_fok _ _ _), obind_eq, olet_eq, olet_eq]
  cases flt .f32 a (some 0) with
  | true => rw [bsel_true, olet_eq, hk]; rfl
  | false => rw [bsel_false, hk]; rfl
theorem s_l04Cosine_eq {a : F} (h : FOk .f32 a) : s_l04Cosine a = some (cosP a) := by
  have hk : ∀ t, s_l04Cosine_k1 t = some (cosT t) := by
    intro t
    unfold s_l04Cosine_k1
    rw [olet_eq, olet_eq, s_l01Sqrt_eq (fop_fok _ _ _), obind_eq, olet_eq, olet_eq]; rfl
  unfold s_l04Cosine cosP
  rw [s_l02Size_eq h, obind_eq, olet_eq, olet_eq, s_l01Sqrt_eq (fop_fok _ _ _), obind_eq, olet_eq, olet_eq]
  cases flt .f32 a (some 0) with
  | true => rw [bsel_true, olet_eq, hk]; rfl
  | false => rw [bsel_false, hk]; rfl
def turnQ (C i k : Nat) (c s : F) (r : Nat) (L : List F) : List F := sm (sm L C r i (fop .sub .f32 (fop .mul .f32 c (gm none L C r i)) (fop .mul .f32 s (gm none L C r k)))) C r k (fop .add .f32 (fop .mul .f32 s (gm none L C r i)) (fop .mul .f32 c (gm none L C r k)))
def turnK (A C i k : Nat) (c s : F) (L : List F) : List F := run (turnQ C i k c s) 0 A L
theorem turnQ_mat {A C i k r : Nat} {c s : F} {L : List F} (h : Mat A C L) : Mat A C (turnQ C i k c s r L) := (h.set _ _ _).set _ _ _
theorem turnK_mat {A C i k : Nat} {c s : F} {L : List F} (h : Mat A C L) : Mat A C (turnK A C i k c s L) := run_inv (fun _ L => Mat A C L) A 0 L h fun _ _ _ _ h => turnQ_mat h
theorem turnK_oks {A C i k : Nat} {c s : F} {L : List F} (h : FOks L) : FOks (turnK A C i k c s L) := run_inv (fun _ L => FOks L) A 0 L h fun _ _ _ _ h => (h.set (fop_fok _ _ _)).set (fop_fok _ _ _)
theorem i_Matrix_turnColumns_02o_eq {A C i k : Nat} {c s : F} {L : List F} (h : Mat A C L) (hi : i < C) (hk : k < C) : i_Matrix_turnColumns_02o (A : Int) (C : Int) (i : Int) (k : Int) c s L = some (turnK A C i k c s L) := by
  have hA := h.A1
  obtain ⟨e, _⟩ := loop_run (step := i_Matrix_turnColumns_02o_s1 (A : Int) (C : Int) (i : Int) (k : Int) c s L) (fun (r : Nat) (L : List F) => (L, (r : Int))) (turnQ C i k c s) (fun L => L) (fun _ L' => Mat A C L') (lo := 0) (n := A) (Nat.zero_le _) (s0 := L) h
    (fun r L' _ hr h3 => by
      refine ⟨?_, turnQ_mat h3⟩
      show i_Matrix_turnColumns_02o_b1 _ _ _ _ _ _ _ _ _ = _
      unfold i_Matrix_turnColumns_02o_b1
      have l1 : ∀ x, decide ((sm L' C r i x).length = L.length) = true := fun x => by simp [h3.len, h.len]
      have l2 : ∀ x y, decide ((sm (sm L' C r i x) C r k y).length = L.length) = true := fun x y => by simp [h3.len, h.len]
      rw [dlt hr, bsel_true, i_Matrix_at_eq _ h3 hr hi, obind_eq, i_Matrix_at_eq _ h3 hr hk, obind_eq, i_mul_eq, obind_eq, i_mul_eq, obind_eq, olet_eq, i_Matrix_set_02o_eq _ h3 hr hi, obind_eq, l1, need_true, i_mul_eq, obind_eq, i_mul_eq, obind_eq, olet_eq, i_Matrix_set_02o_eq _ (h3.set _ _ _) hr hk, obind_eq, l2, need_true, wsucc (by omega)]
      rfl)
    (fun L' _ => by
      show i_Matrix_turnColumns_02o_b1 _ _ _ _ _ _ _ _ _ = _
      unfold i_Matrix_turnColumns_02o_b1
      rw [dnlt, bsel_false])
  unfold i_Matrix_turnColumns_02o
  replace e : loopM (i_Matrix_turnColumns_02o_s1 (A : Int) (C : Int) (i : Int) (k : Int) c s L) (L, 0) = some (.inl (turnK A C i k c s L)) := e
  rw [e]; rfl
theorem s_l04Columns_0p0_C02o1_eq {A C i k : Nat} {c s : F} {L : List F} (h : Mat A C L) (hi : i < C) (hk : k < C) : s_l04Columns_0p0_C02o1 (i : Int) (k : Int) c s (A : Int) (C : Int) L = some (turnK A C i k c s L) := by
  have hA := h.A1
  obtain ⟨e, _⟩ := loop_run (step := s_l04Columns_0p0_C02o1_s1 (i : Int) (k : Int) c s (A : Int) (C : Int)) (fun (r : Nat) (L : List F) => (L, (r : Int))) (turnQ C i k c s) (fun L => L) (fun _ L' => Mat A C L') (lo := 0) (n := A) (Nat.zero_le _) (s0 := L) h
    (fun r L' _ hr h3 => by
      refine ⟨?_, turnQ_mat h3⟩
      show s_l04Columns_0p0_C02o1_b1 _ _ _ _ _ _ _ _ = _
      unfold s_l04Columns_0p0_C02o1_b1
      obtain ⟨e1, e2⟩ := idx_w h.A1 h.C1 hr hi
      obtain ⟨e3, e4⟩ := idx_w h.A1 h.C1 hr hk
      rw [dlt hr, bsel_true, s_l02At_eq _ h3 hr hi, obind_eq, s_l02At_eq _ h3 hr hk, obind_eq]
      simp only [olet_eq, e1, e2, e3, e4, obind_eq, setAt?_n _ (h3.lt hr hi), setAt?_n _ ((h3.set _ _ _).lt hr hk), wsucc (show r ≤ 1000000000 by omega)]
      rfl)
    (fun L' _ => by
      show s_l04Columns_0p0_C02o1_b1 _ _ _ _ _ _ _ _ = _
      unfold s_l04Columns_0p0_C02o1_b1
      rw [dnlt, bsel_false])
  unfold s_l04Columns_0p0_C02o1
  replace e : loopM (s_l04Columns_0p0_C02o1_s1 (i : Int) (k : Int) c s (A : Int) (C : Int)) (L, 0) = some (.inl (turnK A C i k c s L)) := e
  rw [e]; rfl
abbrev SD := List F × List F
abbrev SDr := Int × Int × Int × Int × Bool × List F × List F
def sdFail : SDr := (0, 0, 0, 0, false, [], [])
structure SInv (A C : Nat) (s : SD) : Prop where
  m : Mat A C s.1
  g : FOks s.1
  n : Mat C C s.2
  h : FOks s.2
def sdQ (A C : Nat) (s : SD) (i k : Nat) : F × F := cosP (fop .quo .f32 (fop .sub .f32 (colDot A C s.1 k k) (colDot A C s.1 i i)) (fop .mul .f32 (some 1073741824) (colDot A C s.1 i k)))
def sdCol (A C i k : Nat) (s : SD) : SD ⊕ SDr :=
  bif fin32 (colDot A C s.1 i i) && (fin32 (colDot A C s.1 k k) && fin32 (colDot A C s.1 i k)) then
    bif feq .f32 (colDot A C s.1 i k) (some 0) then .inl s
    else bif (turnK A C i k (sdQ A C s i k).1 (sdQ A C s i k).2 s.1).all fin32 && (turnK C C i k (sdQ A C s i k).1 (sdQ A C s i k).2 s.2).all fin32 then .inl (turnK A C i k (sdQ A C s i k).1 (sdQ A C s i k).2 s.1, turnK C C i k (sdQ A C s i k).1 (sdQ A C s i k).2 s.2)
    else .inr sdFail
  else .inr sdFail
def sdRow (A C i : Nat) (s : SD) : SD ⊕ SDr := runE (sdCol A C i) (i + 1) (C - (i + 1)) s
def sdRound (A C : Nat) (s : SD) : SD ⊕ SDr := runE (sdRow A C) 0 C s
theorem sdCol_inv {A C i k : Nat} {s s' : SD} (h : SInv A C s) (e : sdCol A C i k s = .inl s') : SInv A C s' := by
  unfold sdCol at e
  cases h1 : fin32 (colDot A C s.1 i i) && (fin32 (colDot A C s.1 k k) && fin32 (colDot A C s.1 i k)) with
  | false => rw [h1, cond_false] at e; cases e
  | true =>
    rw [h1, cond_true] at e
    cases h2 : feq .f32 (colDot A C s.1 i k) (some 0) with
    | true => rw [h2, cond_true] at e; cases e; exact h
    | false =>
      rw [h2, cond_false] at e
      cases h3 : (turnK A C i k (sdQ A C s i k).1 (sdQ A C s i k).2 s.1).all fin32 && (turnK C C i k (sdQ A C s i k).1 (sdQ A C s i k).2 s.2).all fin32 with
      | false => rw [h3, cond_false] at e; cases e
      | true => rw [h3, cond_true] at e; cases e; exact ⟨turnK_mat h.m, turnK_oks h.g, turnK_mat h.n, turnK_oks h.h⟩
theorem sdCol_ret {A C i k : Nat} {s : SD} {r : SDr} (e : sdCol A C i k s = .inr r) : r = sdFail := by
  unfold sdCol at e
  cases h1 : fin32 (colDot A C s.1 i i) && (fin32 (colDot A C s.1 k k) && fin32 (colDot A C s.1 i k)) with
  | false => rw [h1, cond_false] at e; cases e; rfl
  | true =>
    rw [h1, cond_true] at e
    cases h2 : feq .f32 (colDot A C s.1 i k) (some 0) with
    | true => rw [h2, cond_true] at e; cases e
    | false =>
      rw [h2, cond_false] at e
      cases h3 : (turnK A C i k (sdQ A C s i k).1 (sdQ A C s i k).2 s.1).all fin32 && (turnK C C i k (sdQ A C s i k).1 (sdQ A C s i k).2 s.2).all fin32 with
      | false => rw [h3, cond_false] at e; cases e; rfl
      | true => rw [h3, cond_true] at e; cases e
theorem sdRow_inv {A C i : Nat} {s s' : SD} (h : SInv A C s) (e : sdRow A C i s = .inl s') : SInv A C s' := runE_inv (fun _ s => SInv A C s) _ _ _ h (fun _ _ _ _ _ hI he => sdCol_inv hI he) _ e
theorem sdRow_ret {A C i : Nat} {s : SD} {r : SDr} (e : sdRow A C i s = .inr r) : r = sdFail := runE_ret (P := fun r => r = sdFail) (fun _ _ _ h => sdCol_ret h) e
theorem sdRound_inv {A C : Nat} {s s' : SD} (h : SInv A C s) (e : sdRound A C s = .inl s') : SInv A C s' := runE_inv (fun _ s => SInv A C s) _ _ _ h (fun _ _ _ _ _ hI he => sdRow_inv hI he) _ e
theorem sdRound_ret {A C : Nat} {s : SD} {r : SDr} (e : sdRound A C s = .inr r) : r = sdFail := runE_ret (P := fun r => r = sdFail) (fun _ _ _ h => sdRow_ret h) e
abbrev sdMk (k : Nat) (s : SD) : List F × List F × Int := (s.1, s.2, (k : Int))
def sdL (k : Nat) : SD ⊕ SDr → Option (LR (List F × List F × Int) (List F × List F) SDr)
  | .inl s => some (.next (sdMk k s))
  | .inr r => some (.ret r)
theorem i_SideTurns_col {A C i k : Nat} {s : SD} {a b : List F} (h : SInv A C s) (ha : a.length = A * C) (hb : b.length = C * C) (hA : 0 < A) (hi : i < C) (hk : k < C) :
    i_SideTurns_b13 (C : Int) (A : Int) (C : Int) a (C : Int) (C : Int) b (i : Int) s.1 s.2 (k : Int) = sdL (k + 1) (sdCol A C i k s) := by
  have hC := h.m.C1
  unfold i_SideTurns_b13 sdCol
  have hfa : i_areFinite [colDot A C s.1 i i, colDot A C s.1 k k, colDot A C s.1 i k] = some (fin32 (colDot A C s.1 i i) && (fin32 (colDot A C s.1 k k) && fin32 (colDot A C s.1 i k))) := by
    rw [i_areFinite_eq (fun c hc => by
      rcases List.mem_cons.1 hc with rfl | hc
      · exact dotN_ok _ _ _
      · rcases List.mem_cons.1 hc with rfl | hc
        · exact dotN_ok _ _ _
        · rcases List.mem_cons.1 hc with rfl | hc
          · exact dotN_ok _ _ _
          · cases hc) (by simp)]
    simp
  have hend : ∀ L V x, i_SideTurns_k12 x L V = some (.next (L, V, IntKind.i64.wrap (x + 1))) := fun _ _ _ => rfl
  rw [dlt hk, bsel_true, i_Matrix_column_eq h.m hi, obind_eq, i_Matrix_column_eq h.m hk, obind_eq, i_dot_cols h.m, obind_eq, i_dot_cols h.m, obind_eq, i_dot_cols h.m, obind_eq, hfa, obind_eq]
  cases fin32 (colDot A C s.1 i i) && (fin32 (colDot A C s.1 k k) && fin32 (colDot A C s.1 i k)) with
  | false => rfl
  | true =>
    rw [bsel_true, cond_true, hend, wsucc (by omega)]
    cases feq .f32 (colDot A C s.1 i k) (some 0) with
    | true => rfl
    | false =>
      have q1 : decide ((turnK A C i k (sdQ A C s i k).1 (sdQ A C s i k).2 s.1).length = a.length) = true := by simp [(turnK_mat h.m).len, ha]
      have q2 : decide ((turnK C C i k (sdQ A C s i k).1 (sdQ A C s i k).2 s.2).length = b.length) = true := by simp [(turnK_mat h.n).len, hb]
      rw [bsel_false, cond_false, olet_eq, i_mul_eq, obind_eq, olet_eq, i_turnFor_eq (fop_fok _ _ _)]
      show obind2 (some (sdQ A C s i k)) _ = _
      generalize sdQ A C s i k = q at q1 q2
      obtain ⟨c, t⟩ := q
      rw [obind2_eq, i_Matrix_turnColumns_02o_eq h.m hi hk, obind_eq, q1, need_true, i_Matrix_turnColumns_02o_eq h.n hi hk, obind_eq, q2, need_true, i_ValidMatrix_eq _ _ (turnK_oks h.g) (turnK_mat h.m).le, mat_valid (turnK_mat h.m) hA (by omega), obind_eq, i_ValidMatrix_eq _ _ (turnK_oks h.h) (turnK_mat h.n).le, mat_valid (turnK_mat h.n) (by omega) (by omega), obind_eq, hend, wsucc (by omega)]
      cases (turnK A C i k c t s.1).all fin32 <;> cases (turnK C C i k c t s.2).all fin32 <;> rfl
theorem s_l04Side_col {A C i k : Nat} {s : SD} {a b : List F} (h : SInv A C s) (ha : a.length = A * C) (hb : b.length = C * C) (hA : 0 < A) (hi : i < C) (hk : k < C) :
    s_l04Side_b13 (C : Int) (A : Int) (C : Int) a (C : Int) (C : Int) b (i : Int) s.1 s.2 (k : Int) = sdL (k + 1) (sdCol A C i k s) := by
  have hC := h.m.C1
  unfold s_l04Side_b13 sdCol
  have hend : ∀ L V x y z, s_l04Side_k12 x L V y z = some (.next (L, V, IntKind.i64.wrap (x + 1))) := fun _ _ _ _ _ => rfl
  rw [dlt hk, bsel_true, s_l04Sums_eq h.m hi hk, obind3_eq, s_l01Finite_eq (colDot_ok _ _ _ _ _), obind_eq, s_l01Finite_eq (colDot_ok _ _ _ _ _), obind_eq, s_l01Finite_eq (colDot_ok _ _ _ _ _), obind_eq]
  cases fin32 (colDot A C s.1 i i) with
  | false => rfl
  | true =>
  cases fin32 (colDot A C s.1 k k) with
  | false => rfl
  | true =>
  cases fin32 (colDot A C s.1 i k) with
  | false => rfl
  | true =>
    rw [bsel_true, bsel_true, bsel_true, show (true && (true && true)) = true from rfl, cond_true, hend, wsucc (by omega)]
    cases feq .f32 (colDot A C s.1 i k) (some 0) with
    | true => rfl
    | false =>
      have q1 : decide ((turnK A C i k (sdQ A C s i k).1 (sdQ A C s i k).2 s.1).length = a.length) = true := by simp [(turnK_mat h.m).len, ha]
      have q2 : decide ((turnK C C i k (sdQ A C s i k).1 (sdQ A C s i k).2 s.2).length = b.length) = true := by simp [(turnK_mat h.n).len, hb]
      rw [bsel_false, cond_false, olet_eq, olet_eq, olet_eq, s_l04Cosine_eq (fop_fok _ _ _)]
      show obind2 (some (sdQ A C s i k)) _ = _
      generalize sdQ A C s i k = q at q1 q2
      obtain ⟨c, t⟩ := q
      rw [obind2_eq, s_l04Columns_0p0_C02o1_eq h.m hi hk, obind_eq, q1, need_true, s_l04Columns_0p0_C02o1_eq h.n hi hk, obind_eq, q2, need_true, s_l02Is_eq _ _ (turnK_oks h.g) (turnK_mat h.m).le, mat_valid (turnK_mat h.m) hA (by omega), obind_eq, s_l02Is_eq _ _ (turnK_oks h.h) (turnK_mat h.n).le, mat_valid (turnK_mat h.n) (by omega) (by omega), obind_eq, hend, wsucc (by omega)]
      cases (turnK A C i k c t s.1).all fin32 <;> cases (turnK C C i k c t s.2).all fin32 <;> rfl
theorem s_l04Side_row {A C i : Nat} {s : SD} {a b : List F} (h : SInv A C s) (ha : a.length = A * C) (hb : b.length = C * C) (hA : 0 < A) (hi : i < C) :
    s_l04Side_b14 (C : Int) (A : Int) (C : Int) a (C : Int) (C : Int) b s.1 s.2 (i : Int) = sdL (i + 1) (sdRow A C i s) := by
  have hC := h.m.C1
  unfold s_l04Side_b14
  obtain ⟨e, _⟩ := loop_endE (step := s_l04Side_s13 (C : Int) (A : Int) (C : Int) a (C : Int) (C : Int) b (i : Int)) sdMk (sdCol A C i) (fun s => s) (fun _ s => SInv A C s) (lo := i + 1) (n := C) hi (s0 := s) h
    (fun k s _ hk hI => by
      have := s_l04Side_col hI ha hb hA hi hk
      cases hc : sdCol A C i k s with
      | inl s' => rw [hc] at this; exact .inl ⟨s', rfl, this, sdCol_inv hI hc⟩
      | inr r => rw [hc] at this; exact .inr ⟨r, rfl, this⟩)
    (fun s _ => by
      show s_l04Side_b13 _ _ _ _ _ _ _ _ _ _ _ = _
      unfold s_l04Side_b13
      rw [dnlt, bsel_false])
  replace e : loopM (s_l04Side_s13 (C : Int) (A : Int) (C : Int) a (C : Int) (C : Int) b (i : Int)) (s.1, s.2, ((i + 1 : Nat) : Int)) = some (endE (fun s => s) (sdRow A C i s)) := e
  rw [dlt hi, bsel_true, wsucc (by omega), olet_eq, e, obind_eq]
  cases sdRow A C i s with
  | inl s' =>
    show s_l04Side_k13 _ _ _ = _
    unfold s_l04Side_k13
    rw [wsucc (by omega)]; rfl
  | inr r => rfl
theorem s_l04Side_round {A C : Nat} {q : Nat} {s : SD} {a b : List F} (m : Nat) (h : SInv A C s) (ha : a.length = A * C) (hb : b.length = C * C) (hA : 0 < A) (hq : q < m) (hm : m ≤ 64) :
    s_l04Side_b15 (C : Int) (m : Int) (A : Int) (C : Int) a (C : Int) (C : Int) b s.1 s.2 (q : Int) = sdL (q + 1) (sdRound A C s) := by
  have hC := h.m.C1
  unfold s_l04Side_b15
  obtain ⟨e, _⟩ := loop_endE (step := s_l04Side_s14 (C : Int) (A : Int) (C : Int) a (C : Int) (C : Int) b) sdMk (sdRow A C) (fun s => s) (fun _ s => SInv A C s) (lo := 0) (n := C) (Nat.zero_le _) (s0 := s) h
    (fun k s _ hk hI => by
      have := s_l04Side_row hI ha hb hA hk
      cases hc : sdRow A C k s with
      | inl s' => rw [hc] at this; exact .inl ⟨s', rfl, this, sdRow_inv hI hc⟩
      | inr r => rw [hc] at this; exact .inr ⟨r, rfl, this⟩)
    (fun s _ => by
      show s_l04Side_b14 _ _ _ _ _ _ _ _ _ _ = _
      unfold s_l04Side_b14
      rw [dnlt, bsel_false])
  replace e : loopM (s_l04Side_s14 (C : Int) (A : Int) (C : Int) a (C : Int) (C : Int) b) (s.1, s.2, 0) = some (endE (fun s => s) (sdRound A C s)) := e
  rw [dlt hq, bsel_true, e, obind_eq]
  cases sdRound A C s with
  | inl s' =>
    show s_l04Side_k14 _ _ _ = _
    unfold s_l04Side_k14
    rw [wsucc (by omega)]; rfl
  | inr r => rfl
theorem s_l04Side_all {A C : Nat} {s : SD} {a b : List F} (m : Nat) (h : SInv A C s) (ha : a.length = A * C) (hb : b.length = C * C) (hA : 0 < A) (hm : m ≤ 64) :
    loopM (s_l04Side_s15 (C : Int) (m : Int) (A : Int) (C : Int) a (C : Int) (C : Int) b) (s.1, s.2, 0) = some (endE (fun s => s) (runE (fun _ s => sdRound A C s) 0 m s)) ∧ ∀ s', runE (fun _ s => sdRound A C s) 0 m s = .inl s' → SInv A C s' :=
  loop_endE (step := s_l04Side_s15 (C : Int) (m : Int) (A : Int) (C : Int) a (C : Int) (C : Int) b) sdMk (fun _ s => sdRound A C s) (fun s => s) (fun _ s => SInv A C s) (lo := 0) (n := m) (Nat.zero_le _) (s0 := s) h
    (fun k s _ hk hI => by
      have := s_l04Side_round m hI ha hb hA hk hm
      cases hc : sdRound A C s with
      | inl s' => rw [hc] at this; exact .inl ⟨s', rfl, this, sdRound_inv hI hc⟩
      | inr r => rw [hc] at this; exact .inr ⟨r, rfl, this⟩)
    (fun s _ => by
      show s_l04Side_b15 _ _ _ _ _ _ _ _ _ _ _ = _
      unfold s_l04Side_b15
      rw [dnlt, bsel_false])
theorem i_SideTurns_row {A C i : Nat} {s : SD} {a b : List F} (h : SInv A C s) (ha : a.length = A * C) (hb : b.length = C * C) (hA : 0 < A) (hi : i < C) :
    i_SideTurns_b14 (C : Int) (A : Int) (C : Int) a (C : Int) (C : Int) b s.1 s.2 (i : Int) = sdL (i + 1) (sdRow A C i s) := by
  have hC := h.m.C1
  unfold i_SideTurns_b14
  obtain ⟨e, _⟩ := loop_endE (step := i_SideTurns_s13 (C : Int) (A : Int) (C : Int) a (C : Int) (C : Int) b (i : Int)) sdMk (sdCol A C i) (fun s => s) (fun _ s => SInv A C s) (lo := i + 1) (n := C) hi (s0 := s) h
    (fun k s _ hk hI => by
      have := i_SideTurns_col hI ha hb hA hi hk
      cases hc : sdCol A C i k s with
      | inl s' => rw [hc] at this; exact .inl ⟨s', rfl, this, sdCol_inv hI hc⟩
      | inr r => rw [hc] at this; exact .inr ⟨r, rfl, this⟩)
    (fun s _ => by
      show i_SideTurns_b13 _ _ _ _ _ _ _ _ _ _ _ = _
      unfold i_SideTurns_b13
      rw [dnlt, bsel_false])
  replace e : loopM (i_SideTurns_s13 (C : Int) (A : Int) (C : Int) a (C : Int) (C : Int) b (i : Int)) (s.1, s.2, ((i + 1 : Nat) : Int)) = some (endE (fun s => s) (sdRow A C i s)) := e
  rw [dlt hi, bsel_true, wsucc (by omega), olet_eq, e, obind_eq]
  cases sdRow A C i s with
  | inl s' =>
    show i_SideTurns_k13 _ _ _ = _
    unfold i_SideTurns_k13
    rw [wsucc (by omega)]; rfl
  | inr r => rfl
theorem i_SideTurns_round {A C : Nat} {q : Nat} {s : SD} {a b : List F} (m : Nat) (h : SInv A C s) (ha : a.length = A * C) (hb : b.length = C * C) (hA : 0 < A) (hq : q < m) (hm : m ≤ 64) :
    i_SideTurns_b15 (C : Int) (m : Int) (A : Int) (C : Int) a (C : Int) (C : Int) b s.1 s.2 (q : Int) = sdL (q + 1) (sdRound A C s) := by
  have hC := h.m.C1
  unfold i_SideTurns_b15
  obtain ⟨e, _⟩ := loop_endE (step := i_SideTurns_s14 (C : Int) (A : Int) (C : Int) a (C : Int) (C : Int) b) sdMk (sdRow A C) (fun s => s) (fun _ s => SInv A C s) (lo := 0) (n := C) (Nat.zero_le _) (s0 := s) h
    (fun k s _ hk hI => by
      have := i_SideTurns_row hI ha hb hA hk
      cases hc : sdRow A C k s with
      | inl s' => rw [hc] at this; exact .inl ⟨s', rfl, this, sdRow_inv hI hc⟩
      | inr r => rw [hc] at this; exact .inr ⟨r, rfl, this⟩)
    (fun s _ => by
      show i_SideTurns_b14 _ _ _ _ _ _ _ _ _ _ = _
      unfold i_SideTurns_b14
      rw [dnlt, bsel_false])
  replace e : loopM (i_SideTurns_s14 (C : Int) (A : Int) (C : Int) a (C : Int) (C : Int) b) (s.1, s.2, 0) = some (endE (fun s => s) (sdRound A C s)) := e
  rw [dlt hq, bsel_true, e, obind_eq]
  cases sdRound A C s with
  | inl s' =>
    show i_SideTurns_k14 _ _ _ = _
    unfold i_SideTurns_k14
    rw [wsucc (by omega)]; rfl
  | inr r => rfl
theorem i_SideTurns_all {A C : Nat} {s : SD} {a b : List F} (m : Nat) (h : SInv A C s) (ha : a.length = A * C) (hb : b.length = C * C) (hA : 0 < A) (hm : m ≤ 64) :
    loopM (i_SideTurns_s15 (C : Int) (m : Int) (A : Int) (C : Int) a (C : Int) (C : Int) b) (s.1, s.2, 0) = some (endE (fun s => s) (runE (fun _ s => sdRound A C s) 0 m s)) ∧ ∀ s', runE (fun _ s => sdRound A C s) 0 m s = .inl s' → SInv A C s' :=
  loop_endE (step := i_SideTurns_s15 (C : Int) (m : Int) (A : Int) (C : Int) a (C : Int) (C : Int) b) sdMk (fun _ s => sdRound A C s) (fun s => s) (fun _ s => SInv A C s) (lo := 0) (n := m) (Nat.zero_le _) (s0 := s) h
    (fun k s _ hk hI => by
      have := i_SideTurns_round m hI ha hb hA hk hm
      cases hc : sdRound A C s with
      | inl s' => rw [hc] at this; exact .inl ⟨s', rfl, this, sdRound_inv hI hc⟩
      | inr r => rw [hc] at this; exact .inr ⟨r, rfl, this⟩)
    (fun s _ => by
      show i_SideTurns_b15 _ _ _ _ _ _ _ _ _ _ _ = _
      unfold i_SideTurns_b15
      rw [dnlt, bsel_false])
theorem tdiv_n (q C : Nat) : (q : Int).tdiv (C : Int) = ((q / C : Nat) : Int) := by rw [Int.tdiv_eq_ediv_of_nonneg (by omega), Int.natCast_ediv]
theorem tmod_n (q C : Nat) : (q : Int).tmod (C : Int) = ((q % C : Nat) : Int) := by rw [Int.tmod_eq_emod_of_nonneg (by omega), Int.natCast_emod]
theorem dne0 {C : Nat} (h : 0 < C) : (!decide ((C : Int) = 0)) = true := by simp; omega
abbrev gI (l : List Int) (i : Nat) : Int := l.getD i 0
structure SpIn (S : Nat) (a1 a2 : List Int) : Prop where
  S1 : 1 ≤ S
  S2 : S ≤ 32
  l1 : a1.length = S + 1
  l2 : a2.length ≤ 512
  z : gI a1 0 = 0
  e : gI a1 S = (a2.length : Int)
structure SpGood (S : Nat) (a1 a2 : List Int) : Prop where
  s : ∀ i, i < S → gI a1 i ≤ gI a1 (i + 1)
  c : ∀ k, k < a2.length → 0 ≤ gI a2 k ∧ gI a2 k ≤ (S : Int) - 1
  o : ∀ i, i < S → ∀ k : Nat, gI a1 i < (k : Int) → (k : Int) < gI a1 (i + 1) → gI a2 (k - 1) < gI a2 k
theorem SpGood.mono {S : Nat} {a1 a2 : List Int} (h : SpGood S a1 a2) : ∀ (d i : Nat), i + d ≤ S → gI a1 i ≤ gI a1 (i + d)
  | 0, i, _ => Int.le_refl _
  | d + 1, i, hd => Int.le_trans (h.mono d i (by omega)) (h.s (i + d) (by omega))
theorem SpGood.lo {S : Nat} {a1 a2 : List Int} (h : SpGood S a1 a2) (i0 : SpIn S a1 a2) {i : Nat} (hi : i ≤ S) : 0 ≤ gI a1 i ∧ gI a1 i ≤ (a2.length : Int) := by
  have h1 := h.mono i 0 (by omega)
  have h2 := h.mono (S - i) i (by omega)
  rw [Nat.zero_add, i0.z] at h1
  rw [show i + (S - i) = S by omega, i0.e] at h2
  exact ⟨h1, h2⟩
structure SpOk (S : Nat) (a1 a2 : List Int) (a3 : List F) : Prop where
  i : SpIn S a1 a2
  g : SpGood S a1 a2
  l : a3.length = a2.length
theorem at?_i {α : Type} {L : List α} {v : Int} (d : α) (h0 : 0 ≤ v) (h : v.toNat < L.length) : at? L v = some (L.getD v.toNat d) := at?_of h0 (by simp [List.getD, h])
theorem SpOk.row {S : Nat} {a1 a2 : List Int} {a3 : List F} (h : SpOk S a1 a2 a3) {i : Nat} (hi : i < S) : 0 ≤ gI a1 i ∧ gI a1 i ≤ gI a1 (i + 1) ∧ gI a1 (i + 1) ≤ (a2.length : Int) :=
  ⟨(h.g.lo h.i (by omega)).1, h.g.s i hi, (h.g.lo h.i (i := i + 1) (by omega)).2⟩
def loK (a1 : List Int) (i : Nat) : Nat := (gI a1 i).toNat
def laK (a1 : List Int) (i : Nat) : Nat := (gI a1 (i + 1)).toNat - 1
structure Root (S : Nat) (a1 a2 : List Int) (a3 : List F) : Prop where
  ok : SpOk S a1 a2 a3
  low : ∀ i, i < S → gI a1 i ≤ gI a1 (i + 1) - 1 ∧ gI a2 (laK a1 i) = (i : Int)
theorem Root.at {S : Nat} {a1 a2 : List Int} {a3 : List F} (h : Root S a1 a2 a3) {i : Nat} (hi : i < S) : loK a1 i ≤ laK a1 i ∧ laK a1 i < a2.length ∧ ((laK a1 i : Nat) : Int) = gI a1 (i + 1) - 1 ∧ ((loK a1 i : Nat) : Int) = gI a1 i := by
  obtain ⟨r1, r2, r3⟩ := h.ok.row hi
  obtain ⟨q1, _⟩ := h.low i hi
  unfold loK laK
  omega
def vget (v : List F) (x : Int) : F := v.getD x.toNat none
def Names (n : Nat) (L : List Int) : Prop := ∀ x ∈ L, 0 ≤ x ∧ x < (n : Int)
theorem Names.at {n : Nat} {L : List Int} (h : Names n L) {j : Nat} (hj : j < L.length) : 0 ≤ L.getD j 0 ∧ L.getD j 0 < (n : Int) := by
  rw [List.getD_eq_getElem?_getD, List.getElem?_eq_getElem hj]
  exact h _ (List.getElem_mem hj)
theorem Names.set {n : Nat} {L : List Int} (h : Names n L) {j : Nat} {x : Int} (hx : 0 ≤ x ∧ x < (n : Int)) : Names n (L.set j x) := fun y hy => (List.mem_or_eq_of_mem_set hy).elim (fun k => h y k) (fun k => by rw [k]; exact hx)
theorem vget_at {v : List F} {x : Int} (h0 : 0 ≤ x) (h1 : x < (v.length : Int)) : at? v x = some (vget v x) := at?_i none h0 (by omega)
theorem lt_fin {b c : Nat} (hb : wrung Ieee.single b < Ieee.single.infRung) (hc : wrung Ieee.single c < Ieee.single.infRung) : flt .f32 (some b) (some c) = decide (sval (wneg Ieee.single b) (rval Ieee.single (wrung Ieee.single b)) < sval (wneg Ieee.single c) (rval Ieee.single (wrung Ieee.single c))) := by
  show (Ieee.single.order b c == some .lt) = _
  rw [order_fin Ieee.single hb hc]
  by_cases h : sval (wneg Ieee.single b) (rval Ieee.single (wrung Ieee.single b)) < sval (wneg Ieee.single c) (rval Ieee.single (wrung Ieee.single c))
  · rw [Int.compare_eq_lt.2 h, decide_eq_true h]; rfl
  · rw [decide_eq_false h]
    cases e : compare (sval (wneg Ieee.single b) (rval Ieee.single (wrung Ieee.single b))) (sval (wneg Ieee.single c) (rval Ieee.single (wrung Ieee.single c))) with
    | lt => exact absurd (Int.compare_eq_lt.1 e) h
    | eq => rfl
    | gt => rfl
def sqL (A C : Nat) (L : List F) : List F := (List.range C).map fun k => colDot A C L k k
theorem sqL_len {A C : Nat} {L : List F} : (sqL A C L).length = C := by simp [sqL]
theorem s_l04Squares_eq {A C : Nat} {L : List F} (m : Mat A C L) : s_l04Squares (A : Int) (C : Int) L = some (sqL A C L) := by
  have hC := m.C1
  have e := (loop_run (step := s_l04Squares_s1 (A : Int) (C : Int) L) (fun (k : Nat) (l : List F) => (l, (k : Int))) (fun k l => l ++ [colDot A C L k k]) (fun l => l) (fun k l => l.length = k) (lo := 0) (n := C) (Nat.zero_le _) (s0 := []) rfl
    (fun k l _ hk hl => by
      refine ⟨?_, by simp [hl]⟩
      show s_l04Squares_b1 _ _ _ _ _ = _
      unfold s_l04Squares_b1
      dsimp only
      have ap : apok 4 l.length 1 = true := by simp [apok, hl]; omega
      rw [dlt hk, bsel_true, s_l04Sums_eq m hk hk, obind3_eq, ap, need_true, wsucc (by omega)]
      rfl)
    (fun l _ => by
      show s_l04Squares_b1 _ _ _ _ _ = _
      unfold s_l04Squares_b1
      rw [dnlt, bsel_false])).1
  rw [Nat.sub_zero, run_map] at e
  unfold s_l04Squares
  replace e : loopM (s_l04Squares_s1 (A : Int) (C : Int) L) ([], 0) = some (.inl (sqL A C L)) := e
  rw [e]; rfl
theorem i_Matrix_columnSquares_eq {A C : Nat} {L : List F} (m : Mat A C L) : i_Matrix_columnSquares (A : Int) (C : Int) L = some (sqL A C L) := by
  have hC := m.C1
  have e := (loop_run (step := i_Matrix_columnSquares_s1 (A : Int) (C : Int) L) (fun (k : Nat) (l : List F) => (l, (k : Int))) (fun k l => l ++ [colDot A C L k k]) (fun l => l) (fun k l => l.length = k) (lo := 0) (n := C) (Nat.zero_le _) (s0 := []) rfl
    (fun k l _ hk hl => by
      refine ⟨?_, by simp [hl]⟩
      show i_Matrix_columnSquares_b1 _ _ _ _ _ = _
      unfold i_Matrix_columnSquares_b1
      dsimp only
      have ap : apok 4 l.length 1 = true := by simp [apok, hl]; omega
      rw [dlt hk, bsel_true, i_Matrix_column_eq m hk, obind_eq, obind_eq, i_dot_cols m, obind_eq, ap, need_true, wsucc (by omega)]
      rfl)
    (fun l _ => by
      show i_Matrix_columnSquares_b1 _ _ _ _ _ = _
      unfold i_Matrix_columnSquares_b1
      rw [dnlt, bsel_false])).1
  rw [Nat.sub_zero, run_map] at e
  unfold i_Matrix_columnSquares
  replace e : loopM (i_Matrix_columnSquares_s1 (A : Int) (C : Int) L) ([], 0) = some (.inl (sqL A C L)) := e
  rw [e]; rfl
def swapG {α : Type} (d : α) (j : Nat) (L : List α) : List α := (L.set (j + 1) (L.getD j d)).set j (L.getD (j + 1) d)
def insG {α : Type} (d : α) (lt : α → α → Bool) : Nat → List α → List α
  | 0, L => L
  | j + 1, L => bif lt (L.getD (j + 1) d) (L.getD j d) then insG d lt j (swapG d j L) else L
theorem swapG_len {α : Type} {d : α} {j : Nat} {L : List α} : (swapG d j L).length = L.length := by simp [swapG]
theorem insG_len {α : Type} {d : α} {lt : α → α → Bool} : ∀ (j : Nat) (L : List α), (insG d lt j L).length = L.length
  | 0, _ => rfl
  | j + 1, L => by
    unfold insG
    cases lt (L.getD (j + 1) d) (L.getD j d) with
    | false => rfl
    | true => rw [cond_true, insG_len j, swapG_len]
theorem getD_appG {α : Type} {d : α} {P R : List α} {j : Nat} (h : j < P.length) : (P ++ R).getD j d = P.getD j d := by
  rw [List.getD_eq_getElem?_getD, List.getElem?_append_left h, ← List.getD_eq_getElem?_getD]
theorem swapG_app {α : Type} {d : α} {j : Nat} {P R : List α} (h : j + 1 < P.length) : swapG d j (P ++ R) = swapG d j P ++ R := by
  unfold swapG
  rw [getD_appG h, getD_appG (by omega), List.set_append_left _ _ h, List.set_append_left _ _ (by simp; omega)]
theorem insG_app {α : Type} {d : α} {lt : α → α → Bool} : ∀ (j : Nat) (P R : List α), j < P.length → insG d lt j (P ++ R) = insG d lt j P ++ R
  | 0, _, _, _ => rfl
  | j + 1, P, R, h => by
    unfold insG
    rw [getD_appG h, getD_appG (by omega)]
    cases lt (P.getD (j + 1) d) (P.getD j d) with
    | false => rfl
    | true => rw [cond_true, cond_true, swapG_app h]; exact insG_app j _ _ (by rw [swapG_len]; omega)
theorem swapG_end {α : Type} {d : α} (Q : List α) (a x : α) : swapG d Q.length (Q ++ [a, x]) = Q ++ [x, a] := by
  unfold swapG
  have e1 : (Q ++ [a, x]).getD Q.length d = a := by simp [List.getD_eq_getElem?_getD]
  have e2 : (Q ++ [a, x]).getD (Q.length + 1) d = x := by simp [List.getD_eq_getElem?_getD]
  rw [e1, e2, List.set_append_right _ _ (by omega), List.set_append_right _ _ (by omega)]
  simp
theorem insG_mem {α : Type} {d : α} {lt : α → α → Bool} : ∀ (j : Nat) (P : List α) (x : α), P.length = j → (insG d lt j (P ++ [x])).Perm (P ++ [x])
  | 0, _, _, _ => List.Perm.refl _
  | j + 1, P, x, h => by
    have hne : P ≠ [] := by intro e; rw [e] at h; cases h
    obtain ⟨Q, a, rfl⟩ : ∃ Q a, P = Q ++ [a] := ⟨P.dropLast, P.getLast hne, (List.dropLast_concat_getLast hne).symm⟩
    have hQ : Q.length = j := by simpa using h
    unfold insG
    have e0 : Q ++ [a] ++ [x] = Q ++ [a, x] := by simp
    have e1 : (Q ++ [a, x]).getD j d = a := by subst hQ; simp [List.getD_eq_getElem?_getD]
    have e2 : (Q ++ [a, x]).getD (j + 1) d = x := by subst hQ; simp [List.getD_eq_getElem?_getD]
    rw [e0, e1, e2]
    cases lt x a with
    | false => exact List.Perm.refl _
    | true =>
      rw [cond_true]
      have e3 : swapG d j (Q ++ [a, x]) = (Q ++ [x]) ++ [a] := by subst hQ; rw [swapG_end]; simp
      rw [e3, insG_app j _ _ (by simp; omega)]
      refine ((insG_mem j Q x hQ).append_right [a]).trans ?_
      rw [List.append_assoc]
      exact List.Perm.append_left Q (List.Perm.swap a x [])
theorem insG_sorted {α : Type} {d : α} {lt : α → α → Bool} (key : α → Nat) : ∀ (j : Nat) (P : List α) (x : α), P.length = j → (∀ a ∈ P, lt x a = decide (key x < key a)) → P.Pairwise (fun a b => key a ≤ key b) → (insG d lt j (P ++ [x])).Pairwise (fun a b => key a ≤ key b)
  | 0, P, x, h, _, _ => by
    have : P = [] := List.length_eq_zero_iff.1 h
    subst this
    simp [insG]
  | j + 1, P, x, h, hk, hp => by
    have hne : P ≠ [] := by intro e; rw [e] at h; cases h
    obtain ⟨Q, a, rfl⟩ : ∃ Q a, P = Q ++ [a] := ⟨P.dropLast, P.getLast hne, (List.dropLast_concat_getLast hne).symm⟩
    have hQ : Q.length = j := by simpa using h
    rw [List.pairwise_append] at hp
    obtain ⟨p1, _, p2⟩ := hp
    have p2 : ∀ q ∈ Q, key q ≤ key a := fun q hq => p2 q hq a (by simp)
    unfold insG
    have e0 : Q ++ [a] ++ [x] = Q ++ [a, x] := by simp
    have e1 : (Q ++ [a, x]).getD j d = a := by subst hQ; simp [List.getD_eq_getElem?_getD]
    have e2 : (Q ++ [a, x]).getD (j + 1) d = x := by subst hQ; simp [List.getD_eq_getElem?_getD]
    rw [e0, e1, e2, hk a (by simp)]
    by_cases hlt : key x < key a
    · rw [decide_eq_true hlt, cond_true]
      have e3 : swapG d j (Q ++ [a, x]) = (Q ++ [x]) ++ [a] := by subst hQ; rw [swapG_end]; simp
      rw [e3, insG_app j _ _ (by simp; omega), List.pairwise_append]
      refine ⟨insG_sorted key j Q x hQ (fun b hb => hk b (by simp [hb])) p1, by simp, fun b hb c hc => ?_⟩
      have hc : c = a := by simpa using hc
      subst hc
      have hb := (insG_mem j Q x hQ).mem_iff.1 hb
      rcases List.mem_append.1 hb with hb | hb
      · exact p2 b hb
      · have : b = x := by simpa using hb
        subst this; omega
    · rw [decide_eq_false hlt, cond_false, ← e0, List.pairwise_append, List.pairwise_append]
      refine ⟨⟨p1, by simp, fun q hq b hb => by have : b = a := by simpa using hb
                                                subst this; exact p2 q hq⟩, by simp, fun q hq b hb => ?_⟩
      have hb : b = x := by simpa using hb
      subst hb
      rcases List.mem_append.1 hq with hq | hq
      · have := p2 q hq; omega
      · have : q = a := by simpa using hq
        subst this; omega
def sortG {α : Type} (d : α) (lt : α → α → Bool) (L : List α) : Nat → List α
  | 0 => []
  | n + 1 => insG d lt n (sortG d lt L n ++ [L.getD n d])
theorem sortG_len {α : Type} {d : α} {lt : α → α → Bool} {L : List α} : ∀ n, (sortG d lt L n).length = n
  | 0 => rfl
  | n + 1 => by unfold sortG; rw [insG_len]; simp [sortG_len n]
theorem sortG_perm {α : Type} {d : α} {lt : α → α → Bool} {L : List α} : ∀ n, n ≤ L.length → (sortG d lt L n).Perm (L.take n)
  | 0, _ => by simp [sortG]
  | n + 1, h => by
    unfold sortG
    refine (insG_mem n _ _ (sortG_len n)).trans ?_
    rw [List.take_succ_eq_append_getElem (by omega)]
    have : L.getD n d = L[n] := by
      rw [List.getD_eq_getElem?_getD, List.getElem?_eq_getElem (by omega)]; rfl
    rw [this]
    exact (sortG_perm n (by omega)).append_right _
theorem sortG_mem {α : Type} {d : α} {lt : α → α → Bool} {L : List α} {n : Nat} (h : n ≤ L.length) {x : α} (hx : x ∈ sortG d lt L n) : x ∈ L := List.mem_of_mem_take ((sortG_perm n h).mem_iff.1 hx)
theorem sortG_sorted {α : Type} {d : α} {lt : α → α → Bool} {L : List α} (key : α → Nat) (hk : ∀ a ∈ L, ∀ b ∈ L, lt a b = decide (key a < key b)) : ∀ n, n ≤ L.length → (sortG d lt L n).Pairwise (fun a b => key a ≤ key b)
  | 0, _ => by simp [sortG]
  | n + 1, h => by
    unfold sortG
    refine insG_sorted key n _ _ (sortG_len n) (fun a ha => hk _ ?_ a (sortG_mem (by omega) ha)) (sortG_sorted key hk n (by omega))
    have : L.getD n d = L[n] := by
      rw [List.getD_eq_getElem?_getD, List.getElem?_eq_getElem (by omega)]; rfl
    rw [this]
    exact List.getElem_mem _
theorem wpredG {j : Nat} (h : j ≤ 1000000000) : IntKind.i64.wrap (((j + 1 : Nat) : Int) - 1) = (j : Int) := by rw [wrap_i64 (by omega) (by omega)]; omega
theorem loop_insG {α β ρ : Type} {d : α} {lt : α → α → Bool} {step : β × Int → Option (LR (β × Int) β ρ)} (f : List α → β) (h0 : ∀ L, step (f L, 0) = some (.out (f L))) (Ok : List α → Prop) (hok : ∀ j L, Ok L → j + 1 < L.length → Ok (swapG d j L))
    (hs : ∀ (j : Nat) (L : List α), Ok L → j + 1 < L.length → L.length ≤ 1000000 → step (f L, ((j + 1 : Nat) : Int)) = some (bif lt (L.getD (j + 1) d) (L.getD j d) then .next (f (swapG d j L), (j : Int)) else .out (f L))) :
    ∀ (j : Nat) (L : List α), Ok L → j < L.length → L.length ≤ 1000000 → loopM step (f L, (j : Int)) = some (.inl (f (insG d lt j L)))
  | 0, L, _, _, _ => loopM_out (h0 L)
  | j + 1, L, h, hj, hl => by
    have e := hs j L h hj hl
    unfold insG
    cases hc : lt (L.getD (j + 1) d) (L.getD j d) with
    | false => rw [hc, cond_false] at e; rw [loopM_out e]; rfl
    | true =>
      rw [hc, cond_true] at e
      rw [loopM_next e, cond_true]
      exact loop_insG f h0 Ok hok hs j _ (hok j L h hj) (by rw [swapG_len]; omega) (by rw [swapG_len]; omega)
theorem swapG_mem {α : Type} {d : α} {j : Nat} {L : List α} (hj : j + 1 < L.length) {x : α} (hx : x ∈ swapG d j L) : x ∈ L := by
  have a1 : ∀ i, i < L.length → L.getD i d ∈ L := fun i hi => by
    have : L.getD i d = L[i] := by simp [List.getD_eq_getElem?_getD, hi]
    rw [this]; exact List.getElem_mem _
  rcases List.mem_or_eq_of_mem_set hx with hx | hx
  · rcases List.mem_or_eq_of_mem_set hx with hx | hx
    · exact hx
    · rw [hx]; exact a1 _ (by omega)
  · rw [hx]; exact a1 _ hj
def NN (c : F) : Prop := ∀ b, c = some b → wneg Ieee.single b = false
theorem square_nn (x : F) : NN (fop .mul .f32 x x) := by
  cases x with
  | none => intro b h; cases h
  | some a =>
    intro b h
    have h : ((Ieee.single.read a).product (Ieee.single.read a)).map Ieee.single.write = some b := h
    obtain ⟨d, hd, rfl⟩ := Option.map_eq_some_iff.1 h
    have hn : d.isNaN = false ∧ d.neg = false := by
      cases hr : Ieee.single.read a with
      | nan s t => rw [hr] at hd; cases hd
      | infinity s => rw [hr] at hd; cases hd; cases s <;> exact ⟨rfl, rfl⟩
      | number s m i => rw [hr] at hd; cases hd; cases s <;> exact ⟨rfl, rfl⟩
    rw [(write_neg Ieee.single hn.1).1, hn.2]
theorem add_nn {x y : F} (hx : FOk .f32 x) (hy : FOk .f32 y) (nx : NN x) (ny : NN y) : NN (fop .add .f32 x y) := by
  cases x with
  | none => intro b h; cases h
  | some a =>
    cases y with
    | none => intro b h; cases h
    | some c =>
      intro b h
      have h : ((Ieee.single.read a).sum (Ieee.single.read c)).map Ieee.single.write = some b := h
      obtain ⟨d, hd, rfl⟩ := Option.map_eq_some_iff.1 h
      have na := read_neg_of Ieee.single (fmt_ok .f32) hx.some.2
      rw [nx a rfl] at na
      have nc := read_neg_of Ieee.single (fmt_ok .f32) hy.some.2
      rw [ny c rfl] at nc
      have hn : d.isNaN = false ∧ d.neg = false := by
        cases hr : Ieee.single.read a with
        | nan s t => rw [hr] at hd; cases hd
        | infinity s =>
          have hs : s = false := by rw [hr] at na; exact na
          subst hs
          cases hc : Ieee.single.read c with
          | nan s t => rw [hr, hc] at hd; cases hd
          | infinity t =>
            have ht : t = false := by rw [hc] at nc; exact nc
            subst ht
            rw [hr, hc] at hd; cases hd; exact ⟨rfl, rfl⟩
          | number t n j => rw [hr, hc] at hd; cases hd; exact ⟨rfl, rfl⟩
        | number s m i =>
          have hs : s = false := by rw [hr] at na; exact na
          subst hs
          cases hc : Ieee.single.read c with
          | nan s t => rw [hr, hc] at hd; cases hd
          | infinity t =>
            have ht : t = false := by rw [hc] at nc; exact nc
            subst ht
            rw [hr, hc] at hd; cases hd; exact ⟨rfl, rfl⟩
          | number t n j =>
            have ht : t = false := by rw [hc] at nc; exact nc
            subst ht
            rw [hr, hc] at hd; cases hd
            refine ⟨rfl, ?_⟩
            show (if Ieee.signed false m (i - min i j).toNat + Ieee.signed false n (j - min i j).toNat = 0 then (false && false) else decide (Ieee.signed false m (i - min i j).toNat + Ieee.signed false n (j - min i j).toNat < 0)) = false
            have h1 : 0 ≤ Ieee.signed false m (i - min i j).toNat := Int.natCast_nonneg _
            have h2 : 0 ≤ Ieee.signed false n (j - min i j).toNat := Int.natCast_nonneg _
            split
            · rfl
            · exact decide_eq_false (by omega)
      rw [(write_neg Ieee.single hn.1).1, hn.2]
theorem dotSame_nn (u : Nat → F) : ∀ n, NN (dotN u u n) := fun n => by
  have := run_inv (f := dotE u u) (fun _ s => NN s ∧ FOk .f32 s) n 0 (some 0) ⟨fun b h => by cases h; rfl, zero_ok⟩ fun j s _ _ h => ⟨add_nn h.2 (fop_fok _ _ _) h.1 (square_nn _), fop_fok _ _ _⟩
  exact this.1
theorem colDot_nn (A C : Nat) (L : List F) (k : Nat) : NN (colDot A C L k k) := dotSame_nn _ _
theorem word_flt {b c : Nat} (hb : b < 2139095040) (hc : c < 2139095040) : flt .f32 (some b) (some c) = decide (b < c) := by
  have w : ∀ x, x < 2139095040 → wneg Ieee.single x = false ∧ wrung Ieee.single x = x := by
    intro x hx
    refine ⟨?_, Nat.mod_eq_of_lt (by show x < 2147483648; omega)⟩
    unfold wneg
    rw [show Ieee.single.signWeight = 2147483648 from rfl, Nat.div_eq_of_lt (by omega)]; rfl
  rw [lt_fin (by rw [(w b hb).2]; exact hb) (by rw [(w c hc).2]; exact hc), (w b hb).1, (w c hc).1, (w b hb).2, (w c hc).2]
  have sv : ∀ x : Nat, sval false x = (x : Int) := fun _ => rfl
  rw [sv, sv]
  by_cases h : b < c
  · have := rval_mono Ieee.single h
    rw [decide_eq_true h, decide_eq_true (by omega)]
  · have := rval_le Ieee.single (Nat.le_of_not_lt h)
    rw [decide_eq_false h, decide_eq_false (by omega)]
theorem loop_sortG {α ρ : Type} {d : α} {lt : α → α → Bool} {step : List α × Int → Option (LR (List α × Int) (List α) ρ)} {R : List α} {n : Nat} (hR : R.length = n) (h0 : 0 < n)
    (hs : ∀ (i : Nat) (L : List α), 1 ≤ i → i < n → L.length = n → (∀ x ∈ L, x ∈ R) → step (L, (i : Int)) = some (.next (insG d lt i L, ((i + 1 : Nat) : Int)))) (he : ∀ L, step (L, (n : Int)) = some (.out L)) : loopM step (R, 1) = some (.inl (sortG d lt R n)) := by
  have hd : ∀ i, i < n → R.drop i = R.getD i d :: R.drop (i + 1) := fun i hi => by
    rw [List.drop_eq_getElem_cons (by omega)]
    congr 1
    rw [List.getD_eq_getElem?_getD, List.getElem?_eq_getElem (by omega)]; rfl
  have e := (loop_run (step := step) (fun (i : Nat) (_ : Unit) => (sortG d lt R i ++ R.drop i, (i : Int))) (fun _ _ => ()) (fun _ => sortG d lt R n) (fun _ _ => True) (lo := 1) (n := n) h0 (s0 := ()) trivial
    (fun i _ h1 hi _ => by
      refine ⟨?_, trivial⟩
      rw [hs i _ h1 hi (by rw [List.length_append, sortG_len, List.length_drop]; omega) (fun x hx => by
        rcases List.mem_append.1 hx with hx | hx
        · exact sortG_mem (by omega) hx
        · exact List.mem_of_mem_drop hx)]
      rw [hd i hi]
      have : sortG d lt R i ++ R.getD i d :: R.drop (i + 1) = (sortG d lt R i ++ [R.getD i d]) ++ R.drop (i + 1) := by simp
      rw [this, insG_app i _ _ (by simp [sortG_len])]
      rfl)
    (fun _ _ => by
      rw [he, List.drop_of_length_le (by omega), List.append_nil])).1
  have h1 : sortG d lt R 1 ++ R.drop 1 = R := by
    show [] ++ [R.getD 0 d] ++ R.drop 1 = R
    have := hd 0 h0
    rw [List.drop_zero] at this
    rw [List.nil_append, List.singleton_append, ← this]
  replace e : loopM step (sortG d lt R 1 ++ R.drop 1, 1) = some (.inl (sortG d lt R n)) := e
  rw [h1] at e
  exact e
theorem vget_mem {v : List F} {x : Int} (h0 : 0 ≤ x) (h1 : x < (v.length : Int)) : vget v x ∈ v := by
  unfold vget
  rw [List.getD_eq_getElem?_getD, List.getElem?_eq_getElem (by omega)]
  exact List.getElem_mem _
def wkey (c : F) : Nat := c.getD 0
theorem word_flt2 {b c : Nat} (hb : b ≤ 2139095040) (hc : c ≤ 2139095040) : flt .f32 (some b) (some c) = decide (b < c) := by
  have w : ∀ x, x < 2139095040 → ∃ m a, Ieee.single.read x = .number false m a := by
    intro x hx
    have h1 : wrung Ieee.single x = x := Nat.mod_eq_of_lt (by show x < 2147483648; omega)
    obtain ⟨m, a, e, _⟩ := read_fin Ieee.single (w := x) (by rw [h1]; exact hx)
    refine ⟨m, Ieee.single.leastPlace + (a : Int), ?_⟩
    rw [e]
    have : wneg Ieee.single x = false := by
      unfold wneg
      rw [show Ieee.single.signWeight = 2147483648 from rfl, Nat.div_eq_of_lt (by omega)]; rfl
    rw [this]
  have hi : Ieee.single.read 2139095040 = .infinity false := by decide
  rcases Nat.lt_or_ge b 2139095040 with h1 | h1
  · rcases Nat.lt_or_ge c 2139095040 with h2 | h2
    · exact word_flt h1 h2
    · have : c = 2139095040 := by omega
      subst this
      obtain ⟨m, a, e⟩ := w b h1
      rw [decide_eq_true h1]
      show (Ieee.single.order b 2139095040 == some .lt) = true
      unfold Ieee.Format.order
      rw [e, hi]; rfl
  · have : b = 2139095040 := by omega
    subst this
    rw [decide_eq_false (by omega)]
    show (Ieee.single.order 2139095040 c == some .lt) = false
    unfold Ieee.Format.order
    rcases Nat.lt_or_ge c 2139095040 with h2 | h2
    · obtain ⟨m, a, e⟩ := w c h2
      rw [e, hi]; rfl
    · have : c = 2139095040 := by omega
      subst this
      rw [hi]; rfl
theorem word_feq {b : Nat} (hb : b ≤ 2139095040) : feq .f32 (some b) (some b) = true := by
  refine feq_refl ⟨b, rfl, by show b < 4294967296; omega, ?_⟩
  have h1 : wrung Ieee.single b = b := Nat.mod_eq_of_lt (by show b < 2147483648; omega)
  rcases Nat.lt_or_ge b 2139095040 with h | h
  · obtain ⟨m, a, e, _⟩ := read_fin Ieee.single (w := b) (by rw [h1]; exact h)
    show (Ieee.single.read b).isNaN = false
    rw [e]; rfl
  · have : b = 2139095040 := by omega
    subst this; decide
theorem nn_le {c : F} (h : FOk .f32 c) (n : NN c) (h0 : c ≠ none) : ∃ b, c = some b ∧ b ≤ 2139095040 := by
  cases c with
  | none => exact absurd rfl h0
  | some b =>
    refine ⟨b, rfl, ?_⟩
    have h1 := h.some.1
    have e := lt_of_wneg h1 (n b rfl)
    have g := not_nan Ieee.single (fmt_ok .f32) h.some.2
    have g : b % 2147483648 ≤ 2139095040 := g
    omega
theorem square_some {x : F} (h : FOk .f32 x) (f : fin32 x = true) : fop .mul .f32 x x ≠ none := by
  cases x with
  | none => cases f
  | some a =>
    show ((Ieee.single.read a).product (Ieee.single.read a)).map Ieee.single.write ≠ none
    cases hr : Ieee.single.read a with
    | nan s t => have h2 : (Ieee.single.read a).isNaN = false := h.some.2
                 rw [hr] at h2; cases h2
    | infinity s => simp [Ieee.Datum.product]
    | number s m i => simp [Ieee.Datum.product]
theorem add_some {x y : F} (hx : FOk .f32 x) (hy : FOk .f32 y) (nx : NN x) (ny : NN y) (h1 : x ≠ none) (h2 : y ≠ none) : fop .add .f32 x y ≠ none := by
  cases x with
  | none => exact absurd rfl h1
  | some a =>
    cases y with
    | none => exact absurd rfl h2
    | some c =>
      show ((Ieee.single.read a).sum (Ieee.single.read c)).map Ieee.single.write ≠ none
      have na := read_neg_of Ieee.single (fmt_ok .f32) hx.some.2
      rw [nx a rfl] at na
      have nc := read_neg_of Ieee.single (fmt_ok .f32) hy.some.2
      rw [ny c rfl] at nc
      have ma : (Ieee.single.read a).isNaN = false := hx.some.2
      have mc : (Ieee.single.read c).isNaN = false := hy.some.2
      cases hr : Ieee.single.read a with
      | nan s t => rw [hr] at ma; cases ma
      | infinity s =>
        have hs : s = false := by rw [hr] at na; exact na
        subst hs
        cases hc : Ieee.single.read c with
        | nan s t => rw [hc] at mc; cases mc
        | infinity t =>
          have ht : t = false := by rw [hc] at nc; exact nc
          subst ht
          simp [Ieee.Datum.sum]
        | number t n j => simp [Ieee.Datum.sum]
      | number s m i =>
        cases hc : Ieee.single.read c with
        | nan s t => rw [hc] at mc; cases mc
        | infinity t => simp [Ieee.Datum.sum]
        | number t n j => simp [Ieee.Datum.sum]
theorem dotSame_some (u : Nat → F) (n : Nat) (hu : ∀ i, i < n → FOk .f32 (u i) ∧ fin32 (u i) = true) : dotN u u n ≠ none := by
  have := run_inv (f := dotE u u) (fun _ s => NN s ∧ FOk .f32 s ∧ s ≠ none) n 0 (some 0) ⟨fun b h => by cases h; rfl, zero_ok, by simp⟩ fun j s _ hj h =>
    ⟨add_nn h.2.1 (fop_fok _ _ _) h.1 (square_nn _), fop_fok _ _ _, add_some h.2.1 (fop_fok _ _ _) h.1 (square_nn _) h.2.2 (square_some (hu j (by omega)).1 (hu j (by omega)).2)⟩
  exact this.2.2
def sqW (v : List F) (x : Int) : Nat := wkey (vget v x)
def SqOk (v : List F) : Prop := ∀ c ∈ v, ∃ b, c = some b ∧ b ≤ 2139095040
theorem SqOk.at {v : List F} (h : SqOk v) {x : Int} (h0 : 0 ≤ x) (h1 : x < (v.length : Int)) : vget v x = some (sqW v x) ∧ sqW v x ≤ 2139095040 := by
  obtain ⟨b, e, hb⟩ := h _ (vget_mem h0 h1)
  unfold sqW
  rw [e]; exact ⟨rfl, hb⟩
def ltD (v : List F) (x y : Int) : Bool := flt .f32 (vget v y) (vget v x)
def keyD (v : List F) (x : Int) : Nat := (2139095040 - sqW v x) * 16 + x.toNat
theorem ltD_eq {v : List F} (h : SqOk v) {x y : Int} (hx : 0 ≤ x ∧ x < (v.length : Int)) (hy : 0 ≤ y ∧ y < (v.length : Int)) : ltD v x y = decide (sqW v y < sqW v x) := by
  obtain ⟨e1, l1⟩ := h.at hx.1 hx.2
  obtain ⟨e2, l2⟩ := h.at hy.1 hy.2
  unfold ltD
  rw [e1, e2, word_flt2 l2 l1]
theorem i_LowMatrix_1_lt {v : List F} {x y : Int} (h : SqOk v) (hx : 0 ≤ x ∧ x < (v.length : Int)) (hy : 0 ≤ y ∧ y < (v.length : Int)) : ∃ r, i_LowMatrix_1 x y v = some r ∧ decide (r < 0) = ltD v x y := by
  obtain ⟨e1, l1⟩ := h.at hx.1 hx.2
  obtain ⟨e2, l2⟩ := h.at hy.1 hy.2
  have fx : feq .f32 (vget v x) (vget v x) = true := by rw [e1]; exact word_feq l1
  have fy : feq .f32 (vget v y) (vget v y) = true := by rw [e2]; exact word_feq l2
  unfold i_LowMatrix_1 x_cmp_Compare_float32 x_cmp_isNaN_float32 ltD
  rw [vget_at hx.1 hx.2, vget_at hy.1 hy.2, obind_eq, obind_eq, fx, fy]
  cases flt .f32 (vget v y) (vget v x) with
  | true => exact ⟨-1, rfl, rfl⟩
  | false => cases flt .f32 (vget v x) (vget v y) <;> exact ⟨_, rfl, rfl⟩
theorem sortG_sortedS {α : Type} {d : α} {lt : α → α → Bool} {L : List α} (key : α → Nat) (hk : ∀ n, n < L.length → ∀ a ∈ L.take n, lt (L.getD n d) a = decide (key (L.getD n d) < key a)) : ∀ n, n ≤ L.length → (sortG d lt L n).Pairwise (fun a b => key a ≤ key b)
  | 0, _ => by simp [sortG]
  | n + 1, h => by
    unfold sortG
    exact insG_sorted key n _ _ (sortG_len n) (fun a ha => hk n (by omega) a ((sortG_perm n (by omega)).mem_iff.1 ha)) (sortG_sortedS key hk n (by omega))
theorem upTo_getD {n m : Nat} (h : n < m) : (upTo m).getD n 0 = (n : Int) := by
  simp [upTo, List.getD_eq_getElem?_getD, List.getElem?_range, h]
theorem upTo_mem {n : Nat} {x : Int} (h : x ∈ upTo n) : 0 ≤ x ∧ x < (n : Int) := by
  simp [upTo] at h
  obtain ⟨q, hq, rfl⟩ := h
  omega
theorem upTo_take {m n : Nat} (h : n ≤ m) : (upTo m).take n = upTo n := by
  unfold upTo
  rw [← List.map_take, List.take_range, Nat.min_eq_left h]
def topL (v : List F) (n : Nat) : List Int := sortG 0 (ltD v) (upTo n) n
theorem topL_len {v : List F} {n : Nat} : (topL v n).length = n := sortG_len n
theorem topL_perm {v : List F} {n : Nat} : (topL v n).Perm (upTo n) := by
  have := sortG_perm (d := 0) (lt := ltD v) (L := upTo n) n (by simp [upTo])
  rwa [List.take_of_length_le (by simp [upTo])] at this
theorem topL_sorted {v : List F} {n : Nat} (h : SqOk v) (hv : v.length = n) (hn : n ≤ 12) : (topL v n).Pairwise (fun a b => keyD v a ≤ keyD v b) := by
  refine sortG_sortedS (keyD v) (fun k hk a ha => ?_) n (by simp [upTo])
  have hk : k < n := by simpa [upTo] using hk
  rw [upTo_take (by omega)] at ha
  have ha := upTo_mem ha
  rw [upTo_getD hk, ltD_eq h ⟨by omega, by omega⟩ ⟨ha.1, by omega⟩]
  obtain ⟨_, l1⟩ := h.at (x := (k : Int)) (by omega) (by omega)
  obtain ⟨_, l2⟩ := h.at (x := a) ha.1 (by omega)
  unfold keyD
  by_cases hw : sqW v a < sqW v (k : Int)
  · rw [decide_eq_true hw, decide_eq_true (by omega)]
  · rw [decide_eq_false hw, decide_eq_false (by omega)]
theorem keyD_inj {v : List F} {x y : Int} (hx : 0 ≤ x ∧ x < 12) (hy : 0 ≤ y ∧ y < 12) (e : keyD v x = keyD v y) : x = y := by
  unfold keyD at e
  omega
theorem x_slices_insertionSortCmpFunc_int64_0o_3Fi_LowMatrix_1_3c0p1_C10o2_eq {v : List F} {n : Nat} (h : SqOk v) (hv : v.length = n) (h0 : 0 < n) (hn : n ≤ 12) : x_slices_insertionSortCmpFunc_int64_0o_3Fi_LowMatrix_1_3c0p1_C10o2 0 (n : Int) (upTo n) v = some (topL v n, v) := by
  have inner : ∀ (j : Nat) (L : List Int), Names n L → j < L.length → L.length ≤ 1000000 → loopM (x_slices_insertionSortCmpFunc_int64_0o_3Fi_LowMatrix_1_3c0p1_C10o2_s2 0 v) (L, (j : Int)) = some (.inl (insG 0 (ltD v) j L)) := fun j L hN hj hl =>
    loop_insG (fun L => L) (fun L => by
      show x_slices_insertionSortCmpFunc_int64_0o_3Fi_LowMatrix_1_3c0p1_C10o2_b2 _ _ _ _ = _
      unfold x_slices_insertionSortCmpFunc_int64_0o_3Fi_LowMatrix_1_3c0p1_C10o2_b2
      rw [show decide ((0 : Int) < 0) = false from rfl, bsel_false]) (Names n) (fun j L hN hj x hx => hN x (swapG_mem hj hx)) (fun j L hN hj hl => by
      show x_slices_insertionSortCmpFunc_int64_0o_3Fi_LowMatrix_1_3c0p1_C10o2_b2 _ _ _ _ = _
      unfold x_slices_insertionSortCmpFunc_int64_0o_3Fi_LowMatrix_1_3c0p1_C10o2_b2
      dsimp only
      have n1 := hN.at hj
      have n2 := hN.at (show j < L.length by omega)
      obtain ⟨r, hr1, hr2⟩ := i_LowMatrix_1_lt h (x := L.getD (j + 1) 0) (y := L.getD j 0) (by omega) (by omega)
      have hd : decide ((0 : Int) < ((j + 1 : Nat) : Int)) = true := decide_eq_true (by omega)
      have l1 : ∀ x : Int, j < (L.set (j + 1) x).length := fun x => by simp; omega
      rw [hd, bsel_true, at?_n 0 hj, obind_eq, wpredG (by omega), olet_eq, at?_n 0 (by omega), obind_eq, hr1, obind_eq, hr2]
      cases ltD v (L.getD (j + 1) 0) (L.getD j 0) with
      | false => rfl
      | true =>
        rw [bsel_true, olet_eq, olet_eq, at?_n 0 (by omega), obind_eq, obind_eq, setAt?_n _ hj, obind_eq, setAt?_n _ (l1 _), obind_eq, olet_eq]
        rfl) j L hN hj hl
  have e := loop_sortG (d := 0) (lt := ltD v) (step := x_slices_insertionSortCmpFunc_int64_0o_3Fi_LowMatrix_1_3c0p1_C10o2_s3 0 (n : Int) v) (R := upTo n) (n := n) (by simp [upTo]) h0
    (fun i L h1 hi hl hm => by
      show x_slices_insertionSortCmpFunc_int64_0o_3Fi_LowMatrix_1_3c0p1_C10o2_b3 _ _ _ _ _ = _
      unfold x_slices_insertionSortCmpFunc_int64_0o_3Fi_LowMatrix_1_3c0p1_C10o2_b3
      dsimp only
      rw [dlt hi, bsel_true, inner i L (fun x hx => upTo_mem (hm x hx)) (by omega) (by omega), obind_eq, osum_inl]
      unfold x_slices_insertionSortCmpFunc_int64_0o_3Fi_LowMatrix_1_3c0p1_C10o2_k2
      rw [wsucc (by omega)]; rfl)
    (fun L => by
      show x_slices_insertionSortCmpFunc_int64_0o_3Fi_LowMatrix_1_3c0p1_C10o2_b3 _ _ _ _ _ = _
      unfold x_slices_insertionSortCmpFunc_int64_0o_3Fi_LowMatrix_1_3c0p1_C10o2_b3
      dsimp only
      rw [dnlt, bsel_false])
  unfold x_slices_insertionSortCmpFunc_int64_0o_3Fi_LowMatrix_1_3c0p1_C10o2
  rw [show IntKind.i64.wrap (0 + 1) = 1 from rfl, olet_eq, e]; rfl
theorem x_slices_SortStableFunc_int64_int64_0o_1Fi_LowMatrix_1_1c0p1_C10o2_eq {v : List F} {n : Nat} (h : SqOk v) (hv : v.length = n) (h0 : 0 < n) (hn : n ≤ 12) : x_slices_SortStableFunc_int64_int64_0o_1Fi_LowMatrix_1_1c0p1_C10o2 (upTo n) v = some (topL v n, v) := by
  unfold x_slices_SortStableFunc_int64_int64_0o_1Fi_LowMatrix_1_1c0p1_C10o2 x_slices_stableCmpFunc_int64_0o_2Fi_LowMatrix_1_2c0p1_C10o2
  have hl : (upTo n).length = n := upTo_len n
  have e1 : loopM (x_slices_stableCmpFunc_int64_0o_2Fi_LowMatrix_1_2c0p1_C10o2_s1 (((upTo n).length : Nat) : Int) (upTo n) v) (upTo n, v, 0, 20) = some (.inl (upTo n, v, 0)) := by
    refine loopM_out ?_
    show x_slices_stableCmpFunc_int64_0o_2Fi_LowMatrix_1_2c0p1_C10o2_b1 _ _ _ _ _ _ _ = _
    unfold x_slices_stableCmpFunc_int64_0o_2Fi_LowMatrix_1_2c0p1_C10o2_b1
    rw [hl, show decide ((20 : Int) ≤ (n : Int)) = false from decide_eq_false (by omega), bsel_false]
  have e2 : loopM (x_slices_stableCmpFunc_int64_0o_2Fi_LowMatrix_1_2c0p1_C10o2_s6 (((upTo n).length : Nat) : Int) (upTo n) v) (topL v n, v, 20) = some (.inl (topL v n, v)) := by
    refine loopM_out ?_
    show x_slices_stableCmpFunc_int64_0o_2Fi_LowMatrix_1_2c0p1_C10o2_b6 _ _ _ _ _ _ = _
    unfold x_slices_stableCmpFunc_int64_0o_2Fi_LowMatrix_1_2c0p1_C10o2_b6
    rw [hl, show decide ((20 : Int) < (n : Int)) = false from decide_eq_false (by omega), bsel_false]
  rw [e1, obind_eq, osum_inl]
  unfold x_slices_stableCmpFunc_int64_0o_2Fi_LowMatrix_1_2c0p1_C10o2_k1
  dsimp only
  rw [hl] at e2 ⊢
  rw [x_slices_insertionSortCmpFunc_int64_0o_3Fi_LowMatrix_1_3c0p1_C10o2_eq h hv h0 hn, obind2_eq, topL_len, decide_eq_true rfl, need_true, decide_eq_true rfl, need_true, e2, obind_eq, osum_inl]
  unfold x_slices_stableCmpFunc_int64_0o_2Fi_LowMatrix_1_2c0p1_C10o2_k6
  rw [obind2_eq, topL_len, decide_eq_true rfl, need_true, decide_eq_true rfl, need_true]
def ltI (x y : Int) : Bool := decide (x < y)
theorem x_cmp_Less_int64_eq (x y : Int) : x_cmp_Less_int64 x y = some (ltI x y) := by
  unfold x_cmp_Less_int64 x_cmp_isNaN_int64
  rw [obind_eq, decide_eq_true (rfl : x = x)]
  rfl
theorem x_slices_insertionSortOrdered_int64_0o_eq {R : List Int} {n : Nat} (hR : R.length = n) (hn : n ≤ 12) : x_slices_insertionSortOrdered_int64_0o 0 (n : Int) R = some (sortG 0 ltI R n) := by
  have inner : ∀ (j : Nat) (L : List Int), j < L.length → L.length ≤ 1000000 → loopM (x_slices_insertionSortOrdered_int64_0o_s2 0) (L, (j : Int)) = some (.inl (insG 0 ltI j L)) := fun j L hj hl =>
    loop_insG (fun L => L) (fun L => by
      show x_slices_insertionSortOrdered_int64_0o_b2 _ _ _ = _
      unfold x_slices_insertionSortOrdered_int64_0o_b2
      rw [show decide ((0 : Int) < 0) = false from rfl, bsel_false]) (fun _ => True) (fun _ _ _ _ => trivial) (fun j L _ hj hl => by
      show x_slices_insertionSortOrdered_int64_0o_b2 _ _ _ = _
      unfold x_slices_insertionSortOrdered_int64_0o_b2
      dsimp only
      have hd : decide ((0 : Int) < ((j + 1 : Nat) : Int)) = true := decide_eq_true (by omega)
      have l1 : ∀ x : Int, j < (L.set (j + 1) x).length := fun x => by simp; omega
      rw [hd, bsel_true, at?_n 0 hj, obind_eq, wpredG (by omega), olet_eq, at?_n 0 (by omega), obind_eq, x_cmp_Less_int64_eq, obind_eq]
      cases ltI (L.getD (j + 1) 0) (L.getD j 0) with
      | false => rfl
      | true =>
        rw [bsel_true, olet_eq, olet_eq, at?_n 0 (by omega), obind_eq, obind_eq, setAt?_n _ hj, obind_eq, setAt?_n _ (l1 _), obind_eq, olet_eq]
        rfl) j L trivial hj hl
  unfold x_slices_insertionSortOrdered_int64_0o
  rw [show IntKind.i64.wrap (0 + 1) = 1 from rfl, olet_eq]
  have he : ∀ (L : List Int) (k : Int), (n : Int) ≤ k → x_slices_insertionSortOrdered_int64_0o_s3 0 (n : Int) (L, k) = some (.out L) := fun L k hk => by
    show x_slices_insertionSortOrdered_int64_0o_b3 _ _ _ _ = _
    unfold x_slices_insertionSortOrdered_int64_0o_b3
    dsimp only
    rw [show decide (k < (n : Int)) = false from decide_eq_false (by omega), bsel_false]
  by_cases h0 : 0 < n
  · have e := loop_sortG (d := 0) (lt := ltI) (step := x_slices_insertionSortOrdered_int64_0o_s3 0 (n : Int)) hR h0
      (fun i L h1 hi hl _ => by
        show x_slices_insertionSortOrdered_int64_0o_b3 _ _ _ _ = _
        unfold x_slices_insertionSortOrdered_int64_0o_b3
        dsimp only
        rw [dlt hi, bsel_true, inner i L (by omega) (by omega), obind_eq, osum_inl]
        unfold x_slices_insertionSortOrdered_int64_0o_k2
        rw [wsucc (by omega)]; rfl)
      (fun L => he L n (Int.le_refl _))
    rw [e]; rfl
  · have hn0 : n = 0 := by omega
    subst hn0
    have : R = [] := List.length_eq_zero_iff.1 hR
    subst this
    rw [loopM_out (he [] 1 (by omega))]; rfl
theorem bitsLen_some {n : Nat} (h : n ≤ 12) : ∃ r, x_math_bits_Len (n : Int) = some r := by
  have hn : n = 0 ∨ n = 1 ∨ n = 2 ∨ n = 3 ∨ n = 4 ∨ n = 5 ∨ n = 6 ∨ n = 7 ∨ n = 8 ∨ n = 9 ∨ n = 10 ∨ n = 11 ∨ n = 12 := by omega
  have : (x_math_bits_Len (n : Int)).isSome = true := by
    rcases hn with rfl | rfl | rfl | rfl | rfl | rfl | rfl | rfl | rfl | rfl | rfl | rfl | rfl <;> kernel_rfl
  exact Option.isSome_iff_exists.1 this
theorem x_slices_Sort_int64_int64_0o_eq {R : List Int} (hn : R.length ≤ 12) : x_slices_Sort_int64_int64_0o R = some (sortG 0 ltI R R.length) := by
  unfold x_slices_Sort_int64_int64_0o x_slices_pdqsortOrdered_int64_0o
  obtain ⟨r, hr⟩ := bitsLen_some hn
  have hw : IntKind.u64.wrap ((R.length : Nat) : Int) = ((R.length : Nat) : Int) := by
    simp only [IntKind.wrap, IntKind.bits, IntKind.signed]
    simp
    omega
  have e : loopM (x_slices_pdqsortOrdered_int64_0o_s1 0 ((R.length : Nat) : Int) r R) () = some (.inr (sortG 0 ltI R R.length)) := by
    refine loopM_ret ?_
    show x_slices_pdqsortOrdered_int64_0o_b1 _ _ _ _ = _
    unfold x_slices_pdqsortOrdered_int64_0o_b1
    have h1 : IntKind.i64.wrap ((R.length : Int) - 0) = (R.length : Int) := by rw [wrap_i64 (by omega) (by omega)]; omega
    rw [h1, olet_eq, show decide ((R.length : Int) ≤ 12) = true from decide_eq_true (by omega), bsel_true, x_slices_insertionSortOrdered_int64_0o_eq rfl hn, obind_eq, sortG_len, decide_eq_true rfl, need_true]
  rw [hw, olet_eq, hr, obind_eq, e, obind_eq, osum_inr, obind_eq, sortG_len, decide_eq_true rfl, need_true]
theorem run_foldl {α σ : Type} (g : σ → α → σ) (d : α) : ∀ (l : List α) (s : σ), run (fun q s => g s (l.getD q d)) 0 l.length s = l.foldl g s := by
  have gen : ∀ (m : Nat) (l : List α) (i : Nat) (s : σ), i + m = l.length → run (fun q s => g s (l.getD q d)) i m s = (l.drop i).foldl g s := by
    intro m
    induction m with
    | zero => intro l i s h; rw [List.drop_of_length_le (by omega)]; rfl
    | succ m ih =>
      intro l i s h
      have e : l.drop i = l.getD i d :: l.drop (i + 1) := by
        rw [List.drop_eq_getElem_cons (by omega)]
        congr 1
        rw [List.getD_eq_getElem?_getD, List.getElem?_eq_getElem (by omega)]; rfl
      rw [run_succ, ih l (i + 1) _ (by omega), e, List.foldl_cons]
  intro l s
  rw [gen l.length l 0 s (by omega), List.drop_zero]
def flagL (v : List F) (n k : Nat) : List Bool := (upTo n).map fun x => decide (x ∈ (topL v n).take k)
theorem flagL_len {v : List F} {n k : Nat} : (flagL v n k).length = n := by simp [flagL, upTo]
theorem flagL_at {v : List F} {n k i : Nat} (h : i < n) (d : Bool) : (flagL v n k).getD i d = decide ((i : Int) ∈ (topL v n).take k) := by
  unfold flagL
  rw [List.getD_eq_getElem?_getD, List.getElem?_map]
  have : (upTo n)[i]? = some (i : Int) := by simp [upTo, h]
  rw [this]; rfl
theorem topL_nodup {v : List F} {n : Nat} : (topL v n).Nodup := by
  refine (topL_perm.nodup_iff).2 ?_
  unfold upTo List.Nodup
  rw [List.pairwise_map]
  exact List.Pairwise.imp (fun {a b} h e => h (Int.ofNat.inj e)) (List.nodup_range (n := n))
def bestQ (v : List F) (fl : List Bool) (k : Nat) (b : Int) : Int := bif fl.getD k false then b else bif decide (b < 0) then (k : Int) else bif flt .f32 (vget v b) (vget v (k : Int)) then (k : Int) else b
theorem best_is {v : List F} {n c : Nat} (h : SqOk v) (hv : v.length = n) (hn : n ≤ 12) (hc : c < n) : run (bestQ v (flagL v n c)) 0 n (-1) = (topL v n).getD c 0 := by
  have inv := run_inv (f := bestQ v (flagL v n c)) (fun j b => (b = -1 ∧ ∀ x : Int, 0 ≤ x → x < (j : Int) → x ∈ (topL v n).take c) ∨ (0 ≤ b ∧ b < (j : Int) ∧ b ∉ (topL v n).take c ∧ ∀ x : Int, 0 ≤ x → x < (j : Int) → x ∉ (topL v n).take c → keyD v b ≤ keyD v x)) n 0 (-1) (.inl ⟨rfl, fun x h0 h1 => by omega⟩) (fun j b _ hj hb => by
    have hj : j < n := by omega
    unfold bestQ
    rw [flagL_at hj]
    by_cases hm : (j : Int) ∈ (topL v n).take c
    · rw [decide_eq_true hm, cond_true]
      rcases hb with ⟨hb, hx⟩ | ⟨h0, h1, h2, h3⟩
      · refine .inl ⟨hb, fun x x0 x1 => ?_⟩
        by_cases e : x = (j : Int)
        · subst e; exact hm
        · exact hx x x0 (by omega)
      · refine .inr ⟨h0, by omega, h2, fun x x0 x1 x2 => ?_⟩
        by_cases e : x = (j : Int)
        · subst e; exact absurd hm x2
        · exact h3 x x0 (by omega) x2
    · rw [decide_eq_false hm, cond_false]
      rcases hb with ⟨hb, hx⟩ | ⟨h0, h1, h2, h3⟩
      · subst hb
        refine .inr ⟨?_, ?_, ?_, fun x x0 x1 x2 => ?_⟩
        · show 0 ≤ (j : Int); omega
        · show (j : Int) < _; omega
        · exact hm
        · show keyD v (j : Int) ≤ _
          by_cases e : x = (j : Int)
          · subst e; exact Nat.le_refl _
          · exact absurd (hx x x0 (by omega)) x2
      · rw [show decide (b < 0) = false from decide_eq_false (by omega), cond_false]
        obtain ⟨e1, l1⟩ := h.at (x := b) h0 (by omega)
        obtain ⟨e2, l2⟩ := h.at (x := (j : Int)) (by omega) (by omega)
        rw [e1, e2, word_flt2 l1 l2]
        by_cases hw : sqW v b < sqW v (j : Int)
        · rw [decide_eq_true hw, cond_true]
          refine .inr ⟨by omega, by omega, hm, fun x x0 x1 x2 => ?_⟩
          by_cases e : x = (j : Int)
          · subst e; exact Nat.le_refl _
          · have := h3 x x0 (by omega) x2
            refine Nat.le_trans ?_ this
            unfold keyD
            omega
        · rw [decide_eq_false hw, cond_false]
          refine .inr ⟨h0, by omega, h2, fun x x0 x1 x2 => ?_⟩
          by_cases e : x = (j : Int)
          · subst e
            unfold keyD
            omega
          · exact h3 x x0 (by omega) x2)
  rw [Nat.zero_add] at inv
  have hl : (topL v n).length = n := topL_len
  have ht : (topL v n).getD c 0 = (topL v n)[c] := by rw [List.getD_eq_getElem?_getD, List.getElem?_eq_getElem (by omega)]; rfl
  have hmem : (topL v n)[c] ∈ topL v n := List.getElem_mem _
  have hr := upTo_mem (topL_perm.mem_iff.1 hmem)
  have hnot : (topL v n)[c] ∉ (topL v n).take c := by
    intro hx
    obtain ⟨q, hq, e⟩ := List.mem_iff_getElem.1 hx
    rw [List.getElem_take] at e
    rw [List.length_take] at hq
    have := (List.getElem_inj topL_nodup).1 e
    omega
  rcases inv with ⟨_, hx⟩ | ⟨h0, h1, h2, h3⟩
  · exact absurd (hx _ hr.1 hr.2) hnot
  · rw [ht]
    -- both are the least of what is not taken
    have k1 := h3 _ hr.1 hr.2 hnot
    have hb : run (bestQ v (flagL v n c)) 0 n (-1) ∈ topL v n := topL_perm.mem_iff.2 (by
      unfold upTo
      rw [List.mem_map]
      exact ⟨(run (bestQ v (flagL v n c)) 0 n (-1)).toNat, List.mem_range.2 (by omega), by omega⟩)
    obtain ⟨q, hq, e⟩ := List.mem_iff_getElem.1 hb
    have hqc : c ≤ q := by
      rcases Nat.lt_or_ge q c with h4 | h4
      · exfalso
        refine h2 ?_
        rw [← e]
        exact List.mem_iff_getElem.2 ⟨q, by rw [List.length_take]; omega, List.getElem_take⟩
      · exact h4
    have k2 : keyD v (topL v n)[c] ≤ keyD v (run (bestQ v (flagL v n c)) 0 n (-1)) := by
      rcases Nat.lt_or_ge c q with h4 | h4
      · have := List.pairwise_iff_getElem.1 (topL_sorted h hv hn) c q (by omega) hq h4
        rw [e] at this
        exact this
      · have : q = c := by omega
        subst this
        rw [e]; exact Nat.le_refl _
    exact keyD_inj (v := v) ⟨h0, by omega⟩ ⟨hr.1, by omega⟩ (by omega)
def keptL (v : List F) (n k : Nat) : List Int := sortG 0 ltI ((topL v n).take k) k
theorem keptL_len {v : List F} {n k : Nat} : (keptL v n k).length = k := sortG_len k
theorem keptL_perm {v : List F} {n k : Nat} (hk : k ≤ n) : (keptL v n k).Perm ((topL v n).take k) := by
  have hl : ((topL v n).take k).length = k := by rw [List.length_take, topL_len]; omega
  have := sortG_perm (d := 0) (lt := ltI) (L := (topL v n).take k) k (by omega)
  rw [List.take_of_length_le (l := (topL v n).take k) (by omega)] at this
  exact this
theorem keptL_eq {v : List F} {n k : Nat} (hk : k ≤ n) : keptL v n k = (upTo n).filter fun x => decide (x ∈ (topL v n).take k) := by
  have hl : ((topL v n).take k).length = k := by rw [List.length_take, topL_len]; omega
  have hr : ∀ x ∈ (topL v n).take k, 0 ≤ x ∧ x < (n : Int) := fun x hx => upTo_mem (topL_perm.mem_iff.1 (List.mem_of_mem_take hx))
  have s1 : (keptL v n k).Pairwise (fun a b => a.toNat ≤ b.toNat) := sortG_sorted (d := 0) (lt := ltI) Int.toNat (fun a ha b hb => by
    have := hr a ha
    have := hr b hb
    unfold ltI
    by_cases h : a < b
    · rw [decide_eq_true h, decide_eq_true (by omega)]
    · rw [decide_eq_false h, decide_eq_false (by omega)]) k (by omega)
  have nd : ((topL v n).take k).Nodup := List.Pairwise.sublist (List.take_sublist _ _) topL_nodup
  have p1 := keptL_perm (v := v) hk
  have ndu : (upTo n).Nodup := (topL_perm (v := v)).nodup_iff.1 topL_nodup
  have s2 : ((upTo n).filter fun x => decide (x ∈ (topL v n).take k)).Pairwise (fun a b => a.toNat ≤ b.toNat) := by
    refine List.Pairwise.sublist List.filter_sublist ?_
    unfold upTo
    rw [List.pairwise_map]
    refine List.Pairwise.imp (fun {a b} (h : a < b) => ?_) (List.pairwise_lt_range (n := n))
    show (a : Int).toNat ≤ (b : Int).toNat
    omega
  refine List.Perm.eq_of_pairwise (le := fun a b => a.toNat ≤ b.toNat) (fun a b ha hb h1 h2 => ?_) s1 s2 ?_
  · have ha := hr a (p1.mem_iff.1 ha)
    have hb := List.mem_filter.1 hb
    have := upTo_mem hb.1
    omega
  · refine p1.trans ?_
    refine (List.perm_ext_iff_of_nodup nd (List.Pairwise.sublist List.filter_sublist ndu)).2 fun x => ?_
    rw [List.mem_filter, decide_eq_true_eq]
    exact ⟨fun h => ⟨topL_perm.mem_iff.1 (List.mem_of_mem_take h), h⟩, fun h => h.2⟩
theorem s_LowMatrix_pick {v : List F} {n c : Nat} (h : SqOk v) (hv : v.length = n) (hn : n ≤ 12) (hc : c < n) : loopM (s_LowMatrix_s6 v (flagL v n c)) (-1, 0) = some (.inl ((topL v n).getD c 0)) := by
  have e := (loop_run (step := s_LowMatrix_s6 v (flagL v n c)) (fun (j : Nat) (b : Int) => (b, (j : Int))) (bestQ v (flagL v n c)) (fun b => b) (fun j b => b = -1 ∨ 0 ≤ b ∧ b < (j : Int)) (lo := 0) (n := n) (Nat.zero_le _) (s0 := -1) (.inl rfl)
    (fun j b _ hj hb => by
      have key : s_LowMatrix_b6 v (flagL v n c) b (j : Int) = some (.next (bestQ v (flagL v n c) j b, ((j + 1 : Nat) : Int))) ∧ (bestQ v (flagL v n c) j b = -1 ∨ 0 ≤ bestQ v (flagL v n c) j b ∧ bestQ v (flagL v n c) j b < ((j + 1 : Nat) : Int)) := by
        unfold s_LowMatrix_b6 bestQ s_LowMatrix_k5
        rw [hv, dlt hj, bsel_true, at?_n false (by rw [flagL_len]; exact hj), obind_eq, wsucc (by omega)]
        cases (flagL v n c).getD j false with
        | true =>
          refine ⟨rfl, ?_⟩
          rw [cond_true]; omega
        | false =>
          rw [bsel_false, cond_false]
          rcases hb with hb | hb
          · subst hb
            exact ⟨rfl, .inr ⟨by show 0 ≤ (j : Int); omega, by show (j : Int) < _; omega⟩⟩
          · rw [show decide (b < 0) = false from decide_eq_false (by omega), bsel_false, cond_false, vget_at (by omega) (by omega), obind_eq, vget_at hb.1 (by omega), obind_eq]
            cases flt .f32 (vget v b) (vget v (j : Int)) with
            | true => exact ⟨rfl, .inr ⟨by show 0 ≤ (j : Int); omega, by show (j : Int) < _; omega⟩⟩
            | false => exact ⟨rfl, .inr ⟨hb.1, by show b < _; omega⟩⟩
      exact key)
    (fun b _ => by
      show s_LowMatrix_b6 _ _ _ _ = _
      unfold s_LowMatrix_b6
      rw [hv, dnlt, bsel_false])).1
  rw [Nat.sub_zero, best_is h hv hn hc] at e
  exact e
theorem flagL_set {v : List F} {n c : Nat} (hc : c < n) : (flagL v n c).set ((topL v n).getD c 0).toNat true = flagL v n (c + 1) := by
  have hl : (topL v n).length = n := topL_len
  have ht : (topL v n).getD c 0 = (topL v n)[c] := by rw [List.getD_eq_getElem?_getD, List.getElem?_eq_getElem (by omega)]; rfl
  have hr := upTo_mem (topL_perm.mem_iff.1 (List.getElem_mem (l := topL v n) (n := c) (by omega)))
  rw [ht]
  apply List.ext_getElem
  · simp [flagL_len]
  · intro i h1 h2
    have hi : i < n := by simpa [flagL_len] using h2
    have e1 : (flagL v n c)[i]'(by rw [flagL_len]; exact hi) = decide ((i : Int) ∈ (topL v n).take c) := by
      have := flagL_at (v := v) (k := c) hi false
      rw [List.getD_eq_getElem?_getD, List.getElem?_eq_getElem (by rw [flagL_len]; exact hi)] at this
      exact this
    have e2 : (flagL v n (c + 1))[i] = decide ((i : Int) ∈ (topL v n).take (c + 1)) := by
      have := flagL_at (v := v) (k := c + 1) hi false
      rw [List.getD_eq_getElem?_getD, List.getElem?_eq_getElem (by rw [flagL_len]; exact hi)] at this
      exact this
    have hm : (i : Int) ∈ (topL v n).take (c + 1) ↔ (i : Int) ∈ (topL v n).take c ∨ (i : Int) = (topL v n)[c] := by
      rw [List.take_succ_eq_append_getElem (by omega), List.mem_append, List.mem_singleton]
    rw [List.getElem_set, e1, e2]
    by_cases e : (topL v n)[c].toNat = i
    · rw [if_pos e]
      exact (decide_eq_true (hm.2 (.inr (by omega)))).symm
    · rw [if_neg e]
      have hne : ¬ (i : Int) = (topL v n)[c] := by omega
      by_cases h3 : (i : Int) ∈ (topL v n).take c
      · rw [decide_eq_true h3, decide_eq_true (hm.2 (.inl h3))]
      · rw [decide_eq_false h3, decide_eq_false (fun h4 => (hm.1 h4).elim h3 hne)]
theorem s_LowMatrix_flags {v : List F} {n k : Nat} (h : SqOk v) (hv : v.length = n) (hn : n ≤ 12) (hk : k ≤ n) : loopM (s_LowMatrix_s7 (k : Int) v) (List.replicate n false, 0) = some (.inl (flagL v n k)) := by
  have e := (loop_run (step := s_LowMatrix_s7 (k : Int) v) (fun (j : Nat) (_ : Unit) => (flagL v n j, (j : Int))) (fun _ _ => ()) (fun _ => flagL v n k) (fun _ _ => True) (lo := 0) (n := k) (Nat.zero_le _) (s0 := ()) trivial
    (fun j _ _ hj _ => by
      refine ⟨?_, trivial⟩
      show s_LowMatrix_b7 _ _ _ _ = _
      unfold s_LowMatrix_b7
      have hl : (topL v n).length = n := topL_len
      have ht : (topL v n).getD j 0 = (topL v n)[j] := by rw [List.getD_eq_getElem?_getD, List.getElem?_eq_getElem (by omega)]; rfl
      have hr := upTo_mem (topL_perm.mem_iff.1 (List.getElem_mem (l := topL v n) (n := j) (by omega)))
      rw [← ht] at hr
      dsimp only
      rw [dlt hj, bsel_true, s_LowMatrix_pick h hv hn (by omega), obind_eq, osum_inl]
      unfold s_LowMatrix_k6
      have hz : (topL v n).getD j 0 = (((topL v n).getD j 0).toNat : Int) := by omega
      rw [hz, setAt?_n _ (by rw [flagL_len]; omega), obind_eq, flagL_set (by omega), wsucc (by omega)]
      rfl)
    (fun _ _ => by
      show s_LowMatrix_b7 _ _ _ _ = _
      unfold s_LowMatrix_b7
      rw [dnlt, bsel_false])).1
  have h0 : flagL v n 0 = List.replicate n false := by
    apply List.ext_getElem
    · simp [flagL_len]
    · intro i h1 h2
      simp [flagL]
  rw [← h0]
  exact e
theorem sdCol_fin {A C i k : Nat} {s s' : SD} (h : s.1.all fin32 = true) (e : sdCol A C i k s = .inl s') : s'.1.all fin32 = true := by
  unfold sdCol at e
  cases h1 : fin32 (colDot A C s.1 i i) && (fin32 (colDot A C s.1 k k) && fin32 (colDot A C s.1 i k)) with
  | false => rw [h1, cond_false] at e; cases e
  | true =>
    rw [h1, cond_true] at e
    cases h2 : feq .f32 (colDot A C s.1 i k) (some 0) with
    | true => rw [h2, cond_true] at e; cases e; exact h
    | false =>
      rw [h2, cond_false] at e
      cases h3 : (turnK A C i k (sdQ A C s i k).1 (sdQ A C s i k).2 s.1).all fin32 && (turnK C C i k (sdQ A C s i k).1 (sdQ A C s i k).2 s.2).all fin32 with
      | false => rw [h3, cond_false] at e; cases e
      | true =>
        rw [h3, cond_true] at e; cases e
        exact (Bool.and_eq_true _ _ ▸ h3 : _ ∧ _).1
theorem sdRound_fin {A C : Nat} {s s' : SD} (h : s.1.all fin32 = true) (e : sdRound A C s = .inl s') : s'.1.all fin32 = true :=
  runE_inv (fun _ s => s.1.all fin32 = true) _ _ _ h (fun _ _ _ _ _ hI he => runE_inv (fun _ s => s.1.all fin32 = true) _ _ _ hI (fun _ _ _ _ _ hI he => sdCol_fin hI he) _ he) _ e
theorem sqL_ok {A C : Nat} {L : List F} (m : Mat A C L) (g : FOks L) (f : L.all fin32 = true) : SqOk (sqL A C L) := by
  intro c hc
  obtain ⟨k, hk, rfl⟩ := List.mem_map.1 hc
  have hk := List.mem_range.1 hk
  refine nn_le (colDot_ok _ _ _ _ _) (colDot_nn _ _ _ _) (dotSame_some _ _ fun r hr => ⟨g.getD _, fin_all.1 f _ (m.lt hr hk)⟩)
def lowE (X V : List F) (C i k : Nat) (s : F) (j : Int) : F := fop .add .f32 s (fop .mul .f32 (gm none X C i j.toNat) (gm none V C k j.toNat))
def lowF (X V : List F) (C : Nat) (P : List Int) (i k : Nat) : F := P.foldl (lowE X V C i k) (some 0)
theorem lowF_ok {X V : List F} {C : Nat} {P : List Int} (i k : Nat) : FOk .f32 (lowF X V C P i k) := by
  unfold lowF
  suffices ∀ (l : List Int) (s : F), FOk .f32 s → FOk .f32 (l.foldl (lowE X V C i k) s) from this P _ zero_ok
  intro l
  induction l with
  | nil => intro s hs; exact hs
  | cons a l ih => intro s hs; exact ih _ (fop_fok _ _ _)
theorem i_LowMatrix_2_eq {A C i k : Nat} {X V : List F} {P : List Int} (mX : Mat A C X) (mV : Mat C C V) (hP : ∀ x ∈ P, 0 ≤ x ∧ x < (C : Int)) (hl : P.length ≤ 12) (hi : i < A) (hk : k < C) : i_LowMatrix_2 (i : Int) (k : Int) P (A : Int) (C : Int) X (C : Int) (C : Int) V = some (lowF X V C P i k) := by
  have e := (loop_run (step := i_LowMatrix_2_s1 (i : Int) (k : Int) P (A : Int) (C : Int) X (C : Int) (C : Int) V) (fun (q : Nat) (s : F) => (s, (q : Int))) (fun q s => lowE X V C i k s (P.getD q 0)) (fun s => s) (fun _ _ => True) (lo := 0) (n := P.length) (Nat.zero_le _) (s0 := some 0) trivial
    (fun q s _ hq _ => by
      refine ⟨?_, trivial⟩
      show i_LowMatrix_2_b1 _ _ _ _ _ _ _ _ _ _ _ = _
      unfold i_LowMatrix_2_b1
      have hx : 0 ≤ P.getD q 0 ∧ P.getD q 0 < (C : Int) := by
        rw [List.getD_eq_getElem?_getD, List.getElem?_eq_getElem hq]
        exact hP _ (List.getElem_mem hq)
      obtain ⟨j, hj⟩ : ∃ j : Nat, P.getD q 0 = (j : Int) := ⟨(P.getD q 0).toNat, by omega⟩
      dsimp only
      rw [dlt hq, bsel_true, at?_n 0 hq, obind_eq, hj, i_Matrix_at_eq _ mX hi (by omega), obind_eq, i_Matrix_at_eq _ mV hk (by omega), obind_eq, i_mul_eq, obind_eq, olet_eq, wsucc (by omega)]
      rfl)
    (fun s _ => by
      show i_LowMatrix_2_b1 _ _ _ _ _ _ _ _ _ _ _ = _
      unfold i_LowMatrix_2_b1
      rw [dnlt, bsel_false])).1
  rw [Nat.sub_zero, run_foldl] at e
  unfold i_LowMatrix_2
  replace e : loopM (i_LowMatrix_2_s1 (i : Int) (k : Int) P (A : Int) (C : Int) X (C : Int) (C : Int) V) (some 0, 0) = some (.inl (lowF X V C P i k)) := e
  rw [e]; rfl
theorem i_made_2Fi_LowMatrix_2_eq {A C : Nat} {X V : List F} {P : List Int} (mX : Mat A C X) (mV : Mat C C V) (hP : ∀ x ∈ P, 0 ≤ x ∧ x < (C : Int)) (hl : P.length ≤ 12) : i_made_2Fi_LowMatrix_2 (A : Int) (C : Int) P (A : Int) (C : Int) X (C : Int) (C : Int) V = some ((A : Int), (C : Int), tabM A C (lowF X V C P)) := by
  have hA := mX.A1
  have hC := mX.C1
  have inner : ∀ (i : Nat) (L L0 : List F), i < A → Mat A C L → Mat A C L0 → loopM (i_made_2Fi_LowMatrix_2_s2 (C : Int) P (A : Int) (C : Int) X (C : Int) (C : Int) V (A : Int) (C : Int) L0 (i : Int)) (L, 0) = some (.inl (fillR (lowF X V C P) C i L)) := by
    intro i L L0 hi hL hL0
    exact (loop_run (step := i_made_2Fi_LowMatrix_2_s2 (C : Int) P (A : Int) (C : Int) X (C : Int) (C : Int) V (A : Int) (C : Int) L0 (i : Int)) (fun (k : Nat) (L : List F) => (L, (k : Int))) (fun k L => sm L C i k (lowF X V C P i k)) (fun L => L) (fun _ L => Mat A C L) (lo := 0) (n := C) (Nat.zero_le _) (s0 := L) hL
      (fun k L2 _ hk h3 => by
        refine ⟨?_, h3.set _ _ _⟩
        show i_made_2Fi_LowMatrix_2_b2 _ _ _ _ _ _ _ _ _ _ _ _ _ _ = _
        unfold i_made_2Fi_LowMatrix_2_b2
        have l1 : decide ((sm L2 C i k (lowF X V C P i k)).length = L0.length) = true := by simp [h3.len, hL0.len]
        rw [dlt hk, bsel_true, i_LowMatrix_2_eq mX mV hP hl hi hk, obind_eq, i_Matrix_set_02o_eq _ h3 hi hk, obind_eq, l1, need_true, wsucc (by omega)]
        rfl)
      (fun L2 _ => by
        show i_made_2Fi_LowMatrix_2_b2 _ _ _ _ _ _ _ _ _ _ _ _ _ _ = _
        unfold i_made_2Fi_LowMatrix_2_b2
        rw [dnlt, bsel_false])).1
  have e := (loop_run (step := i_made_2Fi_LowMatrix_2_s3 (A : Int) (C : Int) P (A : Int) (C : Int) X (C : Int) (C : Int) V (A : Int) (C : Int) (List.replicate (A * C) (some 0))) (fun (i : Nat) (L : List F) => (L, (i : Int))) (fillR (lowF X V C P) C) (fun L => L) (fun _ L => Mat A C L) (lo := 0) (n := A) (Nat.zero_le _) (s0 := List.replicate (A * C) (some 0)) (zmat hA hC)
    (fun i L2 _ hi h3 => by
      refine ⟨?_, (fillR_spec h3 hi).1⟩
      show i_made_2Fi_LowMatrix_2_b3 _ _ _ _ _ _ _ _ _ _ _ _ _ _ = _
      unfold i_made_2Fi_LowMatrix_2_b3
      rw [dlt hi, bsel_true, inner i L2 _ hi h3 (zmat hA hC), obind_eq, osum_inl]
      unfold i_made_2Fi_LowMatrix_2_k2
      rw [wsucc (by omega)]
      rfl)
    (fun L2 _ => by
      show i_made_2Fi_LowMatrix_2_b3 _ _ _ _ _ _ _ _ _ _ _ _ _ _ = _
      unfold i_made_2Fi_LowMatrix_2_b3
      rw [dnlt, bsel_false])).1
  unfold i_made_2Fi_LowMatrix_2
  replace e : loopM (i_made_2Fi_LowMatrix_2_s3 (A : Int) (C : Int) P (A : Int) (C : Int) X (C : Int) (C : Int) V (A : Int) (C : Int) (List.replicate (A * C) (some 0))) (List.replicate (A * C) (some 0), 0) = some (.inl (tabM A C (lowF X V C P))) := e
  rw [i_newMatrix_eq hA hC, obind3_eq, e]; rfl
def setAll (g : Nat → F → F) (n : Nat) (L : List F) : List F := run (fun q L => L.set q (g q (L.getD q none))) 0 n L
theorem setAll_spec (g : Nat → F → F) (n : Nat) (L : List F) (hn : n ≤ L.length) : (setAll g n L).length = L.length ∧ ∀ q, q < n → (setAll g n L).getD q none = g q (L.getD q none) := by
  have := run_inv (f := fun q L => L.set q (g q (L.getD q none))) (fun c (L' : List F) => L'.length = L.length ∧ ∀ q, q < L.length → L'.getD q none = if q < c then g q (L.getD q none) else L.getD q none) n 0 L ⟨rfl, fun q _ => by simp⟩ (fun c L' _ hc hI => by
    refine ⟨by simp [hI.1], fun q hq => ?_⟩
    have hc' : c < L'.length := by omega
    rw [List.getD_eq_getElem?_getD, List.getElem?_set]
    by_cases e : c = q
    · subst e
      rw [if_pos rfl, if_pos hc', if_pos (by omega), hI.2 c hq, if_neg (by omega)]
      rfl
    · rw [if_neg e, ← List.getD_eq_getElem?_getD, hI.2 q hq]
      by_cases h : q < c
      · rw [if_pos h, if_pos (by omega)]
      · rw [if_neg h, if_neg (by omega)])
  rw [Nat.zero_add] at this
  refine ⟨this.1, fun q hq => ?_⟩
  have := this.2 q (by omega)
  rw [if_pos hq] at this
  exact this
def lowG (X V : List F) (C : Nat) (j : Nat) (q : Nat) (s : F) : F := lowE X V C (q / C) (q % C) s (j : Int)
theorem s_LowMatrix_col {A C j : Nat} {X V L : List F} {fl : List Bool} (mX : Mat A C X) (mV : Mat C C V) (mL : Mat A C L) (hf : fl.length = C) (hj : j < C) : loopM (s_LowMatrix_s9 (A : Int) (C : Int) (A : Int) (C : Int) (C : Int) (C : Int) X V fl (j : Int)) (L, 0) = some (.inl (bif fl.getD j false then setAll (lowG X V C j) (A * C) L else L)) := by
  have hA := mX.A1
  have hC := mX.C1
  have hAC : A * C ≤ 144 := by rw [← mL.len]; exact mL.small
  have hw : IntKind.i64.wrap ((A : Int) * (C : Int)) = ((A * C : Nat) : Int) := by rw [wrap_i64 (by rw [← Int.natCast_mul]; omega) (by rw [← Int.natCast_mul]; omega)]; simp
  have hfl := at?_n (L := fl) (i := j) false (by omega)
  cases hb : fl.getD j false with
  | false =>
    rw [hb] at hfl
    refine loopM_out ?_
    show s_LowMatrix_b9 _ _ _ _ _ _ _ _ _ _ _ _ = _
    unfold s_LowMatrix_b9
    rw [hw, olet_eq, hfl]
    cases decide ((0 : Int) < ((A * C : Nat) : Int)) with
    | true => rw [bsel_true, obind_eq, bsel_false]; rfl
    | false => rw [bsel_false]; rfl
  | true =>
    rw [hb] at hfl
    have e := (loop_run (step := s_LowMatrix_s9 (A : Int) (C : Int) (A : Int) (C : Int) (C : Int) (C : Int) X V fl (j : Int)) (fun (q : Nat) (L : List F) => (L, (q : Int))) (fun q L => L.set q (lowG X V C j q (L.getD q none))) (fun L => L) (fun _ L => L.length = A * C) (lo := 0) (n := A * C) (Nat.zero_le _) (s0 := L) mL.len
      (fun q L2 _ hq h3 => by
        refine ⟨?_, by simp [h3]⟩
        show s_LowMatrix_b9 _ _ _ _ _ _ _ _ _ _ _ _ = _
        unfold s_LowMatrix_b9
        have hC0 : 0 < C := by omega
        have d1 : q / C < A := Nat.div_lt_of_lt_mul (by rw [Nat.mul_comm]; exact hq)
        have d2 : q % C < C := Nat.mod_lt _ hC0
        dsimp only
        rw [hw, olet_eq, dlt hq, bsel_true, hfl, obind_eq, bsel_true, at?_n none (by omega), obind_eq, dne0 hC0, need_true, tdiv_n, wn (by omega), olet_eq, s_l02At_eq _ mX d1 hj, obind_eq, need_true, tmod_n, olet_eq, s_l02At_eq _ mV d2 hj, obind_eq, olet_eq, olet_eq, setAt?_n _ (by omega), obind_eq, wsucc (by omega)]
        rfl)
      (fun L2 _ => by
        show s_LowMatrix_b9 _ _ _ _ _ _ _ _ _ _ _ _ = _
        unfold s_LowMatrix_b9
        rw [hw, olet_eq, dnlt, bsel_false])).1
    rw [cond_true]
    exact e
def lowRow (X V : List F) (A C : Nat) (fl : List Bool) (j : Nat) (L : List F) : List F := bif fl.getD j false then setAll (lowG X V C j) (A * C) L else L
theorem lowRow_mat {A C j : Nat} {X V L : List F} {fl : List Bool} (mL : Mat A C L) : Mat A C (lowRow X V A C fl j L) := by
  unfold lowRow
  cases fl.getD j false with
  | true => exact ⟨mL.A1, mL.C1, by rw [cond_true, (setAll_spec _ _ _ (by rw [mL.len]; exact Nat.le_refl _)).1]; exact mL.len⟩
  | false => exact mL
theorem lowRow_gm {A C j : Nat} {X V L : List F} {fl : List Bool} (mL : Mat A C L) {i k : Nat} (hi : i < A) (hk : k < C) : gm none (lowRow X V A C fl j L) C i k = if fl.getD j false = true then lowE X V C i k (gm none L C i k) (j : Int) else gm none L C i k := by
  unfold lowRow
  cases fl.getD j false with
  | false => simp
  | true =>
    have hq := idx_lt hi hk
    have := (setAll_spec (lowG X V C j) (A * C) L (by rw [mL.len]; exact Nat.le_refl _)).2 (i * C + k) hq
    rw [cond_true, if_pos rfl]
    show (setAll (lowG X V C j) (A * C) L).getD (i * C + k) none = _
    rw [this]
    unfold lowG
    have e1 : (i * C + k) / C = i := by
      rw [Nat.mul_comm, Nat.mul_add_div (by omega), Nat.div_eq_of_lt hk, Nat.add_zero]
    have e2 : (i * C + k) % C = k := by
      rw [Nat.mul_comm, Nat.mul_add_mod, Nat.mod_eq_of_lt hk]
    rw [e1, e2]
theorem s_LowMatrix_sum {A C : Nat} {X V : List F} {fl : List Bool} (mX : Mat A C X) (mV : Mat C C V) (hf : fl.length = C) : loopM (s_LowMatrix_s10 (A : Int) (C : Int) (A : Int) (C : Int) (C : Int) (C : Int) X V fl) (List.replicate (A * C) (some 0), 0) = some (.inl (tabM A C (lowF X V C ((upTo C).filter fun x => fl.getD x.toNat false)))) := by
  have hA := mX.A1
  have hC := mX.C1
  have e := (loop_run (step := s_LowMatrix_s10 (A : Int) (C : Int) (A : Int) (C : Int) (C : Int) (C : Int) X V fl) (fun (j : Nat) (L : List F) => (L, (j : Int))) (lowRow X V A C fl) (fun L => L) (fun _ L => Mat A C L) (lo := 0) (n := C) (Nat.zero_le _) (s0 := List.replicate (A * C) (some 0)) (zmat hA hC)
    (fun j L2 _ hj h3 => by
      refine ⟨?_, lowRow_mat h3⟩
      show s_LowMatrix_b10 _ _ _ _ _ _ _ _ _ _ _ = _
      unfold s_LowMatrix_b10
      rw [dlt hj, bsel_true, s_LowMatrix_col mX mV h3 hf hj, obind_eq, osum_inl]
      unfold s_LowMatrix_k9
      rw [wsucc (by omega)]
      rfl)
    (fun L2 _ => by
      show s_LowMatrix_b10 _ _ _ _ _ _ _ _ _ _ _ = _
      unfold s_LowMatrix_b10
      rw [dnlt, bsel_false])).1
  rw [Nat.sub_zero] at e
  replace e : loopM (s_LowMatrix_s10 (A : Int) (C : Int) (A : Int) (C : Int) (C : Int) (C : Int) X V fl) (List.replicate (A * C) (some 0), 0) = some (.inl (run (lowRow X V A C fl) 0 C (List.replicate (A * C) (some 0)))) := e
  rw [e]
  congr 2
  have hm : Mat A C (run (lowRow X V A C fl) 0 C (List.replicate (A * C) (some 0))) := run_inv (fun _ L => Mat A C L) C 0 _ (zmat hA hC) fun _ _ _ _ h => lowRow_mat h
  refine mat_ext hm (tabM_mat hA hC) fun i k hi hk => ?_
  rw [tabM_gm hA hC hi hk]
  have h2 := run_inv (f := lowRow X V A C fl) (fun j L => Mat A C L ∧ gm none L C i k = run (fun j s => if fl.getD j false = true then lowE X V C i k s (j : Int) else s) 0 j (some 0)) C 0 (List.replicate (A * C) (some 0)) ⟨zmat hA hC, by
    show (List.replicate (A * C) (some 0 : F)).getD (i * C + k) none = some 0
    rw [List.getD_eq_getElem?_getD, List.getElem?_replicate, if_pos (idx_lt hi hk)]; rfl⟩ (fun j L _ hj h => ⟨lowRow_mat h.1, by rw [lowRow_gm h.1 hi hk, run_last, Nat.zero_add, h.2]⟩)
  rw [Nat.zero_add] at h2
  rw [h2.2]
  unfold lowF
  rw [List.foldl_filter]
  have h3 := run_foldl (fun (s : F) (x : Int) => if fl.getD x.toNat false = true then lowE X V C i k s x else s) 0 (upTo C) (some 0)
  rw [upTo_len] at h3
  rw [← h3]
  exact run_congr (fun _ _ => True) C 0 _ trivial fun j s _ hj _ => ⟨by rw [upTo_getD (by omega)]; rfl, trivial⟩
theorem LowMatrix_eq (a0 a1 : Int) (a2 : List F) (a3 a4 : Int) (g : FOks a2) (s2 : a2.length ≤ 1048576) : ∃ x y b l, s_LowMatrix a0 a1 a2 a3 a4 = some (x, y, b, l) ∧ i_LowMatrix a0 a1 a2 a3 a4 = some (x, y, b, l) ∧ l.length ≤ 1048576 := by
  unfold s_LowMatrix i_LowMatrix i_SideTurns s_l04Tall i_isTall s_l04Rounds i_isRounds
  rw [s_l02Is_eq a0 a1 g s2, i_ValidMatrix_eq a0 a1 g s2, obind_eq, obind_eq]
  cases hv : validM a0 a1 a2 with
  | false => exact ⟨_, _, _, _, rfl, rfl, by simp⟩
  | true =>
    rw [bsel_true, bsel_true]
    cases hle : decide (a1 ≤ a0) with
    | false => exact ⟨_, _, _, _, rfl, rfl, by simp⟩
    | true =>
      rw [bsel_true, s_l00In_eq, i_inRange_eq, obind_eq, obind_eq, obind_eq, obind_eq, bsel_true, obind_eq]
      cases hr : decide (0 ≤ a4) && decide (a4 ≤ 64) with
      | false => exact ⟨_, _, _, _, rfl, rfl, by simp⟩
      | true =>
        rw [bsel_true, bsel_true, s_l00In_eq, obind_eq]
        simp only [Bool.and_eq_true, decide_eq_true_eq] at hr
        obtain ⟨A, C, rfl, rfl, A0, C0, m, f⟩ := valid_mat hv
        obtain ⟨q, rfl⟩ : ∃ q : Nat, a4 = (q : Int) := ⟨a4.toNat, by omega⟩
        have hC := m.C1
        have hA := m.A1
        have hI : SInv A C (a2, tabM C C unitF) := ⟨m, g, tabM_mat hC hC, tabM_oks hC hC unitF_ok⟩
        obtain ⟨e1, e2⟩ := s_l04Side_all (a := a2) (b := tabM C C unitF) q hI m.len (tabM_mat hC hC).len A0 (by omega)
        obtain ⟨e3, _⟩ := i_SideTurns_all (a := a2) (b := tabM C C unitF) q hI m.len (tabM_mat hC hC).len A0 (by omega)
        unfold s_l04Side
        rw [s_l02Own_eq _ _ s2, i_Matrix_clone_eq _ _ s2, obind3_eq, obind3_eq, s_l02Unit_eq hC, i_unit_eq hC, obind3_eq, obind3_eq, e1, e3, obind_eq, obind_eq]
        cases hx : runE (fun _ s => sdRound A C s) 0 q (a2, tabM C C unitF) with
        | inr r =>
          have : r = sdFail := runE_ret (P := fun r => r = sdFail) (fun _ _ _ h => sdRound_ret h) hx
          subst this
          cases decide (0 ≤ a3) && decide (a3 ≤ (C : Int)) <;> exact ⟨_, _, _, _, rfl, rfl, by simp⟩
        | inl s' =>
          have hJ := e2 s' hx
          cases hk : decide (0 ≤ a3) && decide (a3 ≤ (C : Int)) with
          | false =>
            refine ⟨0, 0, false, [], rfl, ?_, by simp⟩
            show obind (i_inRange a3 0 (C : Int)) _ = _
            rw [i_inRange_eq, hk, obind_eq, bsel_false]
          | true =>
            simp only [Bool.and_eq_true, decide_eq_true_eq] at hk
            obtain ⟨c, rfl⟩ : ∃ c : Nat, a3 = (c : Int) := ⟨a3.toNat, by omega⟩
            have hc : c ≤ C := by omega
            have hfin : s'.1.all fin32 = true := runE_inv (fun _ s => s.1.all fin32 = true) _ _ _ f (fun _ _ _ _ _ hI he => sdRound_fin hI he) _ hx
            have hsq : SqOk (sqL A C s'.1) := sqL_ok hJ.m hJ.g hfin
            have hl : (sqL A C s'.1).length = C := sqL_len
            have hk1 : mkok 1 (C : Int) = true := by simp [mkok]; omega
            have hfl : ((upTo C).filter fun x => (flagL (sqL A C s'.1) C c).getD x.toNat false) = keptL (sqL A C s'.1) C c := by
              rw [keptL_eq hc]
              refine List.filter_congr fun x hx => ?_
              have hx := upTo_mem hx
              rw [flagL_at (by omega), show ((x.toNat : Nat) : Int) = x by omega]
            have hP : ∀ x ∈ keptL (sqL A C s'.1) C c, 0 ≤ x ∧ x < (C : Int) := fun x hx => by
              rw [keptL_eq hc] at hx
              exact upTo_mem (List.mem_filter.1 hx).1
            have hM : Mat A C (tabM A C (lowF s'.1 s'.2 C (keptL (sqL A C s'.1) C c))) := tabM_mat hA hC
            have gM : FOks (tabM A C (lowF s'.1 s'.2 C (keptL (sqL A C s'.1) C c))) := tabM_oks hA hC fun i k => lowF_ok i k
            have lt : ((topL (sqL A C s'.1) C).take c).length = c := by rw [List.length_take, topL_len]; omega
            have hsub : sub? (topL (sqL A C s'.1) C) 0 (c : Int) = some ((topL (sqL A C s'.1) C).take c) := by
              unfold sub?
              rw [if_pos ⟨by omega, by omega, by rw [topL_len]; omega⟩]
              simp
            have hS : s_LowMatrix_k7 (A : Int) (C : Int) (A : Int) (C : Int) (C : Int) (C : Int) s'.1 s'.2 (flagL (sqL A C s'.1) C c) = some (bif (tabM A C (lowF s'.1 s'.2 C (keptL (sqL A C s'.1) C c))).all fin32 then ((A : Int), (C : Int), true, tabM A C (lowF s'.1 s'.2 C (keptL (sqL A C s'.1) C c))) else (0, 0, false, [])) := by
              unfold s_LowMatrix_k7
              rw [s_l02Zero_eq hA hC, obind3_eq, s_LowMatrix_sum hJ.m hJ.n flagL_len, hfl, obind_eq, osum_inl]
              unfold s_LowMatrix_k10 s_l02Give_02o
              have l1 : decide ((tabM A C (lowF s'.1 s'.2 C (keptL (sqL A C s'.1) C c))).length = (List.replicate (A * C) (some 0 : F)).length) = true := by rw [hM.len]; simp
              rw [s_l02Is_eq _ _ gM hM.le, mat_valid hM A0 C0, obind_eq]
              cases (tabM A C (lowF s'.1 s'.2 C (keptL (sqL A C s'.1) C c))).all fin32 with
              | true => rw [bsel_true, obind_eq, osum_inl, obind4_eq, l1, need_true]; rfl
              | false => rw [bsel_false, obind_eq, osum_inr, obind5_eq, l1, need_true]; rfl
            refine ⟨(bif (tabM A C (lowF s'.1 s'.2 C (keptL (sqL A C s'.1) C c))).all fin32 then ((A : Int), (C : Int), true, tabM A C (lowF s'.1 s'.2 C (keptL (sqL A C s'.1) C c))) else (0, 0, false, [])).1, (bif (tabM A C (lowF s'.1 s'.2 C (keptL (sqL A C s'.1) C c))).all fin32 then ((A : Int), (C : Int), true, tabM A C (lowF s'.1 s'.2 C (keptL (sqL A C s'.1) C c))) else (0, 0, false, [])).2.1, (bif (tabM A C (lowF s'.1 s'.2 C (keptL (sqL A C s'.1) C c))).all fin32 then ((A : Int), (C : Int), true, tabM A C (lowF s'.1 s'.2 C (keptL (sqL A C s'.1) C c))) else (0, 0, false, [])).2.2.1, (bif (tabM A C (lowF s'.1 s'.2 C (keptL (sqL A C s'.1) C c))).all fin32 then ((A : Int), (C : Int), true, tabM A C (lowF s'.1 s'.2 C (keptL (sqL A C s'.1) C c))) else (0, 0, false, [])).2.2.2, ?_, ?_, ?_⟩
            · show obind (s_l04Squares _ _ _) _ = _
              rw [s_l04Squares_eq hJ.m, obind_eq, hk1, need_true]
              show obind (loopM (s_LowMatrix_s7 (c : Int) (sqL A C s'.1)) (List.replicate C false, 0)) _ = _
              rw [s_LowMatrix_flags hsq hl hC hc, obind_eq, osum_inl, hS]
            · rw [show endE (fun s : SD => s) (Sum.inl s' : SD ⊕ SDr) = .inl s' from rfl, osum_inl]
              unfold i_SideTurns_k15
              rw [obind7_eq, bsel_true, i_inRange_eq, obind_eq, show (decide ((0 : Int) ≤ (c : Int)) && decide ((c : Int) ≤ (C : Int))) = true by simp; omega, bsel_true]
              show obind (i_Matrix_columnSquares _ _ _) _ = _
              rw [i_Matrix_columnSquares_eq hJ.m, obind_eq, i_ascending_eq hC, obind_eq, x_slices_SortStableFunc_int64_int64_0o_1Fi_LowMatrix_1_1c0p1_C10o2_eq hsq hl C0 hC, obind2_eq, topL_len, upTo_len, decide_eq_true rfl, need_true, decide_eq_true rfl, need_true, hsub, obind_eq, x_slices_Sort_int64_int64_0o_eq (by omega), lt, obind_eq, sortG_len, decide_eq_true rfl, need_true]
              show obind3 (i_made_2Fi_LowMatrix_2 (A : Int) (C : Int) (keptL (sqL A C s'.1) C c) (A : Int) (C : Int) s'.1 (C : Int) (C : Int) s'.2) _ = _
              rw [i_made_2Fi_LowMatrix_2_eq hJ.m hJ.n hP (by rw [keptL_len]; omega), obind3_eq]
              unfold i_Matrix_valid_02o
              rw [i_ValidMatrix_eq _ _ gM hM.le, mat_valid hM A0 C0, obind_eq]
              cases (tabM A C (lowF s'.1 s'.2 C (keptL (sqL A C s'.1) C c))).all fin32 with
              | true => rw [bsel_true, obind_eq, osum_inl, obind4_eq, decide_eq_true rfl, need_true]; rfl
              | false => rw [bsel_false, obind_eq, osum_inr, obind5_eq, decide_eq_true rfl, need_true]; rfl
            · cases (tabM A C (lowF s'.1 s'.2 C (keptL (sqL A C s'.1) C c))).all fin32 with
              | true => exact hM.le
              | false => simp
theorem w_FnExactLowMatrix_true (a0 : Int) (a1 : Int) (a2 : List F) (a3 : Int) (a4 : Int) (s_a2 : Small a2) (g_a2 : FOks a2) : w_FnExactLowMatrix a0 a1 a2 a3 a4 = some true := by
  obtain ⟨l0, e0, h0⟩ := w_szFloat32S_ex a2 1048576 s_a2 (by omega) (by omega)
  rcases Int.lt_or_le l0 0 with c0 | c0
  · simp [w_FnExactLowMatrix, w_eqMatrix, w_heldMatrix, w_markMatrix_02o, w_szMatrix, w_toMatrix, e0, c0]
  have d0 : decide (l0 < 0) = false := by simp; omega
  have t0 := h0 c0
  have t_a2 : a2.length ≤ 1048576 := by omega
  have f1 : w_toFloat32S a2 = some a2 := w_toFloat32S_eq a2 t_a2
  obtain ⟨z0, z1, z2, z3, p1, p2, b_z3⟩ := LowMatrix_eq a0 a1 a2 a3 a4 g_a2 t_a2
  have f2 : w_eqFloat32S z3 z3 = some true := w_eqFloat32S_refl z3 b_z3
  have f3 : (!(z2 == z2)) = false := by cases z2 <;> rfl
  have f4 : w_eqFloat32S a2 a2 = some true := w_eqFloat32S_refl a2 t_a2
  have f5 : w_markFloat32S_0o 1 a2 = some ((1 + (a2.length : Int)), marks 1 a2.length) := w_markFloat32S_0o_eq 1 a2 (by omega) (by omega) t_a2
  have f6 : decide ((1 + (a2.length : Int)) < 0) = false := by simp <;> omega
  have f7 : w_markFloat32S_0o 1 z3 = some ((1 + (z3.length : Int)), marks 1 z3.length) := w_markFloat32S_0o_eq 1 z3 (by omega) (by omega) b_z3
  have f8 : w_heldFloat32S (marks 1 z3.length) 1 = some (1 + (z3.length : Int)) := w_heldFloat32S_eq 1 z3.length (by omega) (by omega) b_z3
  have f9 : decide ((1 + (z3.length : Int)) < 0) = false := by simp <;> omega
  simp only [w_FnExactLowMatrix, w_eqMatrix, w_heldMatrix, w_markMatrix_02o, w_szMatrix, w_toMatrix, e0, d0, f1, p1, p2, f2, f3, f4, f5, f6, f7, f8, f9, obind_eq, obind2_eq, obind3_eq, obind4_eq, obind5_eq, obind6_eq, obind7_eq, obind8_eq, bsel_true, bsel_false, need_true, olet_eq, marks_len, marksI_len, decide_true, Bool.not_true, Bool.not_false]

end Go.Proofs.YtcoookgeialmnaaGreat
