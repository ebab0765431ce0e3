/- The plain law of FnExactRootShifted. -/
import Derived.Test.YtjbifkimffmhpaaG1
namespace Go.Proofs.Ytjbifkimffmhpaa
set_option linter.unusedSimpArgs false
set_option linter.unusedVariables false
open Go Go.AM
def Small {α : Type} (l : List α) : Prop := l.length ≤ 9223372036854775807
theorem sz_one (n : Nat) (a : Int) (hn : n ≤ 9223372036854775807) (h0 : 0 ≤ a) (h1 : a ≤ 1048576) :
    ∃ r, olet (IntKind.i64.wrap (a - (n : Int))) (fun x1 => bsel (decide (x1 < 0)) (some (-1)) (some x1)) = some r ∧ (0 ≤ r → (n : Int) ≤ a ∧ r ≤ a) := by
  rw [wrap_i64 (by omega) (by omega)]
  simp only [olet_eq, bsel_if, decide_eq_true_eq]
  split
  · exact ⟨_, rfl, fun h => by omega⟩
  · exact ⟨_, rfl, fun h => by omega⟩
theorem w_szFloat32S_ex (l : List F) (a : Int) (hn : Small l) (h0 : 0 ≤ a) (h1 : a ≤ 1048576) : ∃ r, w_szFloat32S l a = some r ∧ (0 ≤ r → (l.length : Int) ≤ a ∧ r ≤ a) := sz_one l.length a hn h0 h1
theorem w_toFloat32S_eq (a : List F) (h : a.length ≤ 1048576) : w_toFloat32S a = some a := by
  unfold w_toFloat32S
  have hm : mkok 4 (a.length : Int) = true := by simp [mkok]; omega
  rw [hm, need_true, loop_copy (a := a) (ρ := List F) ?_ ?_ _ (by simp)]
  · rfl
  · intro L v x h0 hv hx hL
    show w_toFloat32S_b1 a L v = _
    unfold w_toFloat32S_b1
    have hs := setAt?_of (l := L) (x := x) h0 (by omega)
    simp [bsel_if, hv, at?_of h0 hx, hs, wrap_succ h0 hv (by omega : a.length ≤ 9223372036854775807)]
  · intro L hL
    show w_toFloat32S_b1 a L (a.length : Int) = _
    unfold w_toFloat32S_b1
    simp [bsel_if]
theorem w_sameFloat_refl (c : F) : w_sameFloat c c = some true := by
  unfold w_sameFloat
  cases h : feq .f64 c c <;> simp [w_sameFloat_k1, h, bsel_if]
theorem w_eqFloat32S_refl (a : List F) (h : a.length ≤ 1048576) : w_eqFloat32S a a = some true := by
  unfold w_eqFloat32S
  rw [loop_eq (l := a) (m := a) rfl ?_ ?_]
  · simp [bsel_if, w_eqFloat32S_k1]
  · intro v x y h0 hv hx hy
    rw [hx] at hy; cases hy
    show w_eqFloat32S_b1 a a v = _
    unfold w_eqFloat32S_b1
    rw [at?_of h0 hx, wrap_succ h0 hv (by omega)]
    simp [bsel_if, hv, w_sameFloat_refl]
  · show w_eqFloat32S_b1 a a (a.length : Int) = _
    unfold w_eqFloat32S_b1
    simp [bsel_if]
def FOks (l : List F) : Prop := ∀ c ∈ l, FOk .f32 c
theorem FOks.at {l : List F} (h : FOks l) {i : Nat} {c : F} (e : l[i]? = some c) : FOk .f32 c := h c (List.mem_of_getElem? e)
theorem s_l00In_eq (n lo hi : Int) : s_l00In n lo hi = some (decide (lo ≤ n) && decide (n ≤ hi)) := by
  unfold s_l00In; cases decide (lo ≤ n) <;> rfl
theorem i_inRange_eq (n lo hi : Int) : i_inRange n lo hi = some (decide (lo ≤ n) && decide (n ≤ hi)) := by
  unfold i_inRange; cases decide (lo ≤ n) <;> rfl
theorem s_l01Finite_eq {c : F} (h : FOk .f32 c) : s_l01Finite c = some (fin32 c) := by
  unfold s_l01Finite; rw [olet_eq, sub_self h]
theorem s_l02Finite_eq {a : List F} (ha : FOks a) (sa : a.length ≤ 1048576) : s_l02Finite a = some (a.all fin32) := by
  unfold s_l02Finite
  rw [loop_all (l := a) (p := fin32) false ?_ ?_]
  · cases h : a.all fin32 <;> simp [s_l02Finite_k1]
  · intro v x h0 hv hx
    show s_l02Finite_b1 a v = _
    unfold s_l02Finite_b1
    rw [at?_of h0 hx, wrap_succ h0 hv (by omega)]
    simp [bsel_if, hv, s_l01Finite_eq (ha.at hx)]
  · show s_l02Finite_b1 a (a.length : Int) = _
    unfold s_l02Finite_b1
    simp [bsel_if]
theorem i_IsFinite_eq {c : F} (h : FOk .f32 c) : i_IsFinite c = some (fin32 c) := by
  unfold i_IsFinite i_isFinite64 x_math_IsNaN x_math_IsInf x_math_Abs x_math_IsInf_k1
  cases c with
  | none => simp [fwiden, fin32]
  | some b =>
    have hw := feq_refl (k := .f64) (b := FloatKind.f64.encode (FloatKind.f32.decode b)) (fwiden_ok h)
    have hw' : feq .f64 (fwiden (some b)) (fwiden (some b)) = true := hw
    have hm := fabs_max h (by simp)
    simp only [olet_eq, obind_eq, hw', Bool.not_true, bsel_false, decide_true, bsel_true, hm, Bool.not_not]
theorem i_areFinite_1_eq {c : F} (h : FOk .f32 c) : i_areFinite_1 c = some (!fin32 c) := by
  unfold i_areFinite_1; rw [i_IsFinite_eq h]; rfl
theorem any_not {α : Type} (l : List α) (p : α → Bool) : l.any (fun x => !p x) = !l.all p := by
  induction l with
  | nil => rfl
  | cons a l ih => simp [ih]
theorem i_areFinite_eq {a : List F} (ha : FOks a) (sa : a.length ≤ 1048576) : i_areFinite a = some (a.all fin32) := by
  unfold i_areFinite x_slices_ContainsFunc_float32_float32_1Fi_areFinite_1 x_slices_IndexFunc_float32_float32_1Fi_areFinite_1
  obtain ⟨r, h1, h2⟩ := loop_find (l := a) (p := fun c => !fin32 c) (step := x_slices_IndexFunc_float32_float32_1Fi_areFinite_1_s1 a) (by
    intro v x h0 hv hx
    show x_slices_IndexFunc_float32_float32_1Fi_areFinite_1_b1 a v = _
    unfold x_slices_IndexFunc_float32_float32_1Fi_areFinite_1_b1
    rw [at?_of h0 hx, wrap_succ h0 hv (by omega)]
    simp [bsel_if, hv, i_areFinite_1_eq (ha.at hx)]) (by
    show x_slices_IndexFunc_float32_float32_1Fi_areFinite_1_b1 a (a.length : Int) = _
    unfold x_slices_IndexFunc_float32_float32_1Fi_areFinite_1_b1
    simp [bsel_if])
  rw [h1, any_not]
  cases h : a.all fin32 <;> simp [x_slices_IndexFunc_float32_float32_1Fi_areFinite_1_k1, h2]
theorem fint_ok (n : Int) : FOk .f32 (fint .f32 n) := ⟨_, encode_FR .f32 (d := .number (n < 0) n.natAbs 0) rfl⟩
theorem feq_fint (n : Int) : feq .f32 (fint .f32 n) (fint .f32 n) = true := feq_refl (fint_ok n)
def marks (k : Int) (n : Nat) : List F := (List.range n).map fun (i : Nat) => fint .f32 (k + (i : Int))
def marksI (k : Int) (n : Nat) : List Int := (List.range n).map fun (i : Nat) => k + (i : Int)
theorem marks_len (k : Int) (n : Nat) : (marks k n).length = n := by simp [marks]
theorem marksI_len (k : Int) (n : Nat) : (marksI k n).length = n := by simp [marksI]
theorem loop_mark {α ρ : Type} (mk : Int → α) (k : Int) (n : Nat) {step : List α × Int × Int → Option (LR (List α × Int × Int) (List α × Int) ρ)}
    (hstep : ∀ (L : List α) (i : Nat), i < n → L.length = n → step (L, k + (i : Int), (i : Int)) = some (.next (L.set i (mk (k + (i : Int))), k + ((i + 1 : Nat) : Int), ((i + 1 : Nat) : Int))))
    (hend : ∀ L : List α, L.length = n → step (L, k + (n : Int), (n : Int)) = some (.out (L, k + (n : Int)))) (a : List α) (ha : a.length = n) :
    loopM step (a, k, 0) = some (.inl ((List.range n).map (fun (i : Nat) => mk (k + (i : Int))), k + (n : Int))) := by
  have key : ∀ (m i : Nat) (L : List α), m + i = n → L.length = n → L.take i = (List.range i).map (fun (i : Nat) => mk (k + (i : Int))) → loopM step (L, k + (i : Int), (i : Int)) = some (.inl ((List.range n).map (fun (i : Nat) => mk (k + (i : Int))), k + (n : Int))) := by
    intro m
    induction m with
    | zero =>
      intro i L hi hL ht
      have : i = n := by omega
      subst this
      rw [loopM_out (hend L hL), ← ht, ← hL, List.take_length]
    | succ m ih =>
      intro i L hi hL ht
      rw [loopM_next (hstep L i (by omega) hL)]
      refine ih (i + 1) _ (by omega) (by simpa using hL) ?_
      rw [List.take_succ_eq_append_getElem (by simp; omega), List.take_set_of_le (Nat.le_refl _), ht, List.range_succ, List.map_append]
      simp
  have := key n 0 a (by omega) ha (by simp)
  simpa using this
theorem w_markFloat32S_0o_eq (k : Int) (a : List F) (h0 : -1000000000 ≤ k) (h1 : k ≤ 1000000000) (ha : a.length ≤ 1048576) : w_markFloat32S_0o k a = some (k + (a.length : Int), marks k a.length) := by
  unfold w_markFloat32S_0o
  rw [loop_mark (fun n => fint .f32 n) k a.length (step := w_markFloat32S_0o_s1 a) ?_ ?_ a rfl]
  · rfl
  · intro L i hi hL
    show w_markFloat32S_0o_b1 a L (k + (i : Int)) (i : Int) = _
    unfold w_markFloat32S_0o_b1
    have hs := setAt?_of (l := L) (v := (i : Int)) (x := fint .f32 (k + (i : Int))) (by omega) (by omega)
    have e1 : IntKind.i64.wrap (k + (i : Int) + 1) = k + ((i + 1 : Nat) : Int) := by rw [wrap_i64 (by omega) (by omega)]; omega
    have e2 : IntKind.i64.wrap ((i : Int) + 1) = ((i + 1 : Nat) : Int) := by rw [wrap_i64 (by omega) (by omega)]; omega
    simp only [olet_eq, hs, obind_eq, e1, e2, bsel_if, decide_eq_true_eq]
    rw [if_pos (by omega)]
    rfl
  · intro L hL
    show w_markFloat32S_0o_b1 a L (k + (a.length : Int)) (a.length : Int) = _
    unfold w_markFloat32S_0o_b1
    simp [bsel_if]
theorem loop_held {k : Int} {n : Nat} {step : Int × Int → Option (LR (Int × Int) Int Int)}
    (hstep : ∀ i : Nat, i < n → step (k + (i : Int), (i : Int)) = some (.next (k + ((i + 1 : Nat) : Int), ((i + 1 : Nat) : Int)))) (hend : step (k + (n : Int), (n : Int)) = some (.out (k + (n : Int)))) :
    loopM step (k, 0) = some (.inl (k + (n : Int))) := by
  have key : ∀ (m i : Nat), m + i = n → loopM step (k + (i : Int), (i : Int)) = some (.inl (k + (n : Int))) := by
    intro m
    induction m with
    | zero => intro i hi; have : i = n := by omega
              subst this; exact loopM_out hend
    | succ m ih => intro i hi; rw [loopM_next (hstep i (by omega))]; exact ih (i + 1) (by omega)
  have := key n 0 (by omega)
  simpa using this
theorem w_heldFloat32S_eq (k : Int) (n : Nat) (h0 : -1000000000 ≤ k) (h1 : k ≤ 1000000000) (hn : n ≤ 1048576) : w_heldFloat32S (marks k n) k = some (k + (n : Int)) := by
  unfold w_heldFloat32S
  rw [loop_held (k := k) (n := n) (step := w_heldFloat32S_s1 (marks k n)) ?_ ?_]
  · rfl
  · intro i hi
    show w_heldFloat32S_b1 (marks k n) (k + (i : Int)) (i : Int) = _
    unfold w_heldFloat32S_b1
    have hx : (marks k n)[(i : Int).toNat]? = some (fint .f32 (k + (i : Int))) := by simp [marks, hi]
    have e1 : IntKind.i64.wrap (k + (i : Int) + 1) = k + ((i + 1 : Nat) : Int) := by rw [wrap_i64 (by omega) (by omega)]; omega
    have e2 : IntKind.i64.wrap ((i : Int) + 1) = ((i + 1 : Nat) : Int) := by rw [wrap_i64 (by omega) (by omega)]; omega
    rw [at?_of (by omega) hx]
    simp only [olet_eq, obind_eq, e1, e2, bsel_if, decide_eq_true_eq, marks_len, feq_fint]
    rw [if_pos (by omega)]
    simp
  · show w_heldFloat32S_b1 (marks k n) (k + (n : Int)) (n : Int) = _
    unfold w_heldFloat32S_b1
    simp [bsel_if, marks_len]
abbrev q1 : List F := [some 1073741824, some 1065353216, some 1065353216, some 1073741824]
abbrev q2 : List F := [some 1065353216, some 0]
abbrev q3 : List F := [some 1073741824, some 1073741824]
abbrev q4 : List F := [some 1065353216]
abbrev q5 : List Int := [2, 4, 6, 8]
theorem small_mul {x y : Nat} (hx : x ≤ 12) (hy : y ≤ 12) : x * y ≤ 144 := Nat.mul_le_mul hx hy
def side (n : Int) : Bool := decide (1 ≤ n) && decide (n ≤ 12)
theorem s_l02Sides_eq (x y : Int) : s_l02Sides x y = some (side x && side y) := by
  unfold s_l02Sides; rw [s_l00In_eq, s_l00In_eq]; unfold side
  cases decide (1 ≤ x) <;> cases decide (x ≤ 12) <;> rfl
theorem i_isSide_eq (x : Int) : i_isSide x = some (side x) := by
  unfold i_isSide; rw [i_inRange_eq]; rfl
def validM (a0 a1 : Int) (a2 : List F) : Bool := side a0 && side a1 && decide ((a2.length : Int) = IntKind.i64.wrap (a0 * a1)) && a2.all fin32
theorem s_l02Is_eq (a0 a1 : Int) {a2 : List F} (g2 : FOks a2) (s2 : a2.length ≤ 1048576) : s_l02Is a0 a1 a2 = some (validM a0 a1 a2) := by
  unfold s_l02Is validM
  rw [s_l02Sides_eq, s_l02Finite_eq g2 s2]
  cases side a0 <;> cases side a1 <;> simp [bsel_if] <;> split <;> simp_all
theorem i_ValidMatrix_eq (a0 a1 : Int) {a2 : List F} (g2 : FOks a2) (s2 : a2.length ≤ 1048576) : i_ValidMatrix a0 a1 a2 = some (validM a0 a1 a2) := by
  unfold i_ValidMatrix i_length_float32 validM
  rw [i_isSide_eq, i_isSide_eq, i_areFinite_eq g2 s2]
  cases side a0 <;> cases side a1 <;> simp [bsel_if] <;> split <;> simp_all
theorem side_nat {n : Int} (h : side n = true) : ∃ m : Nat, n = (m : Int) ∧ 0 < m ∧ m ≤ 12 := by
  simp [side] at h
  exact ⟨n.toNat, by omega, by omega, by omega⟩
theorem FOks.getD {l : List F} (h : FOks l) (n : Nat) : FOk .f32 (l.getD n none) := by
  simp only [List.getD]
  cases e : l[n]? with
  | none => exact fok_none _
  | some c => exact h.at e
theorem FOks.set {l : List F} (h : FOks l) {n : Nat} {x : F} (hx : FOk .f32 x) : FOks (l.set n x) := by
  intro c hc
  rcases List.mem_or_eq_of_mem_set hc with h1 | h1
  · exact h c h1
  · exact h1 ▸ hx
theorem wsucc {i : Nat} (h : i ≤ 1000000000) : IntKind.i64.wrap ((i : Int) + 1) = ((i + 1 : Nat) : Int) := by
  rw [wrap_i64 (by omega) (by omega)]; omega
theorem dlt {i n : Nat} (h : i < n) : decide ((i : Int) < (n : Int)) = true := by simp; omega
theorem dnlt {n : Nat} : decide ((n : Int) < (n : Int)) = false := by simp
theorem dle {i n : Nat} (h : i ≤ n) : decide ((i : Int) ≤ (n : Int)) = true := by simp; omega
theorem i_Matrix_at_eq {A C i k : Nat} {L : List F} (r : Int) (h : Mat A C L) (hi : i < A) (hk : k < C) : i_Matrix_at r (C : Int) L (i : Int) (k : Int) = some (gm none L C i k) := by
  obtain ⟨e1, e2⟩ := idx_w h.A1 h.C1 hi hk
  unfold i_Matrix_at
  rw [e1, olet_eq, e2, olet_eq, at?_n none (h.lt hi hk), obind_eq]
theorem s_l02At_eq {A C i k : Nat} {L : List F} (r : Int) (h : Mat A C L) (hi : i < A) (hk : k < C) : s_l02At r (C : Int) L (i : Int) (k : Int) = some (gm none L C i k) := by
  obtain ⟨e1, e2⟩ := idx_w h.A1 h.C1 hi hk
  unfold s_l02At
  rw [e1, olet_eq, e2, olet_eq, at?_n none (h.lt hi hk), obind_eq]
theorem i_Matrix_set_02o_eq {A C i k : Nat} {L : List F} (r : Int) (h : Mat A C L) (hi : i < A) (hk : k < C) (x : F) : i_Matrix_set_02o r (C : Int) (i : Int) (k : Int) x L = some (sm L C i k x) := by
  obtain ⟨e1, e2⟩ := idx_w h.A1 h.C1 hi hk
  unfold i_Matrix_set_02o
  rw [e1, olet_eq, e2, olet_eq, setAt?_n x (h.lt hi hk), obind_eq]
theorem i_mul_eq (a b : F) : i_mul a b = some (fop .mul .f32 a b) := rfl
theorem getD_of_lt {α : Type} {l : List α} {n : Nat} (d : α) (h : n < l.length) : l[n]? = some (l.getD n d) := by simp [List.getD, h]
theorem fin_all {L : List F} : L.all fin32 = true ↔ ∀ n, n < L.length → fin32 (L.getD n none) = true := by
  rw [List.all_eq_true]
  constructor
  · intro h n hn; exact h _ (List.mem_of_getElem? (getD_of_lt none hn))
  · intro h c hc
    obtain ⟨n, hn, e⟩ := List.mem_iff_getElem.1 hc
    have := h n hn
    simpa [List.getD, hn, e] using this
theorem fin_not {A C : Nat} {L : List F} (h : Mat A C L) {i c : Nat} (hi : i < A) (hc : c < C) (hx : fin32 (gm none L C i c) = false) : L.all fin32 = false := by
  cases e : L.all fin32 with
  | false => rfl
  | true => have := fin_all.1 e _ (h.lt hi hc); rw [hx] at this; cases this
theorem s_l02Square_eq (a0 a1 : Int) {a2 : List F} (g2 : FOks a2) (s2 : a2.length ≤ 1048576) : s_l02Square a0 a1 a2 = some (validM a0 a1 a2 && decide (a0 = a1)) := by
  unfold s_l02Square
  rw [s_l02Is_eq a0 a1 g2 s2, obind_eq]
  cases validM a0 a1 a2 <;> rfl
theorem i_isSquare_eq (a0 a1 : Int) {a2 : List F} (g2 : FOks a2) (s2 : a2.length ≤ 1048576) : i_isSquare a0 a1 a2 = some (validM a0 a1 a2 && decide (a0 = a1)) := by
  unfold i_isSquare
  rw [i_ValidMatrix_eq a0 a1 g2 s2, obind_eq]
  cases validM a0 a1 a2 <;> rfl
theorem valid_mat {a0 a1 : Int} {a2 : List F} (h : validM a0 a1 a2 = true) : ∃ A C : Nat, a0 = (A : Int) ∧ a1 = (C : Int) ∧ 0 < A ∧ 0 < C ∧ Mat A C a2 ∧ a2.all fin32 = true := by
  simp only [validM, Bool.and_eq_true, decide_eq_true_eq] at h
  obtain ⟨⟨⟨v1, v2⟩, v3⟩, v4⟩ := h
  obtain ⟨A, rfl, A0, A1⟩ := side_nat v1
  obtain ⟨C, rfl, C0, C1⟩ := side_nat v2
  have hAC := small_mul A1 C1
  rw [← Int.natCast_mul, wn (by omega)] at v3
  exact ⟨A, C, rfl, rfl, A0, C0, ⟨A1, C1, by omega⟩, v4⟩
theorem mat_valid {A C : Nat} {L : List F} (h : Mat A C L) (hA : 0 < A) (hC : 0 < C) : validM (A : Int) (C : Int) L = L.all fin32 := by
  unfold validM side
  have hAC := small_mul h.A1 h.C1
  have h1 := h.A1
  have h2 := h.C1
  rw [← Int.natCast_mul, wn (by omega), h.len]
  have e1 : decide ((1 : Int) ≤ (A : Int)) = true := by simp; omega
  have e2 : decide ((A : Int) ≤ 12) = true := by simp; omega
  have e3 : decide ((1 : Int) ≤ (C : Int)) = true := by simp; omega
  have e4 : decide ((C : Int) ≤ 12) = true := by simp; omega
  rw [e1, e2, e3, e4]
  simp
theorem i_Matrix_clone_eq (a0 a1 : Int) {L : List F} (h : L.length ≤ 1048576) : i_Matrix_clone a0 a1 L = some (a0, a1, L) := by
  have ap : apok 4 0 L.length = true := by simp [apok]; omega
  unfold i_Matrix_clone x_slices_Clone_float32_float32; rw [ap]; rfl
theorem ford_zero {x : F} (h : FOk .f32 x) (hf : fin32 x = true) : ∃ o, ford .f32 x (some 0) = some o := by
  cases x with
  | none => cases hf
  | some b =>
    have hn := h.some.2
    rcases read_cases (f := Ieee.single) (fmt_ok .f32) hn with ⟨g1, _⟩ | ⟨_, g2⟩
    · exact ⟨_, order_zero g1⟩
    · have : (Ieee.single.read b).isInfinity = true := by rw [g2]; rfl
      simp only [fin32, this] at hf
      cases hf
theorem i_RootNumber_eq {y : F} (h : FOk .f32 y) : i_RootNumber y = some (rootN y) := by
  unfold i_RootNumber x_math_Sqrt
  rw [olet_eq, olet_eq, obind_eq, root_narrow h]; rfl
theorem s_l01Sqrt_eq {y : F} (h : FOk .f32 y) : s_l01Sqrt y = some (rootN y) := by
  unfold s_l01Sqrt x_math_Sqrt s_l01Narrow
  rw [olet_eq, olet_eq, obind_eq, root_narrow h]; rfl
abbrev RRes := Int × Int × Bool × List F
def rFail : RRes := (0, 0, false, [])
def rDot (n i k : Nat) (R : List F) (j : Nat) (y : F) : F := fop .sub .f32 y (fop .mul .f32 (gm none R n i j) (gm none R n k j))
def rPick (n i k : Nat) (R : List F) (y : F) : List F ⊕ RRes := bif decide (k < i) then .inl (sm R n i k (fop .quo .f32 y (gm none R n k k))) else bif flt .f32 (some 0) y then .inl (sm R n i k (rootN y)) else .inr rFail
def rCol (A : Nat → Nat → F) (n i k : Nat) (R : List F) : List F ⊕ RRes := rPick n i k R (run (rDot n i k R) 0 k (A i k))
def rRow (A : Nat → Nat → F) (n i : Nat) (R : List F) : List F ⊕ RRes := runE (rCol A n i) 0 (i + 1) R
def rAll (A : Nat → Nat → F) (n : Nat) : List F ⊕ RRes := runE (rRow A n) 0 n (List.replicate (n * n) (some 0))
def rEnd (n : Nat) : List F ⊕ RRes → RRes
  | .inl R => bif R.all fin32 then ((n : Int), (n : Int), true, R) else rFail
  | .inr r => r
theorem rEnd_inl {n : Nat} {R : List F} : rEnd n (.inl R) = bif R.all fin32 then ((n : Int), (n : Int), true, R) else rFail := rfl
theorem rDot_ok {n i k : Nat} {R : List F} {y : F} (hy : FOk .f32 y) (m : Nat) : FOk .f32 (run (rDot n i k R) 0 m y) := run_inv (fun _ y => FOk .f32 y) m 0 y hy fun _ _ _ _ _ => fop_fok _ _ _
theorem rPick_inv {n i k : Nat} {R R' : List F} {y : F} (m : Mat n n R) (g : FOks R) (hy : FOk .f32 y) (e : rPick n i k R y = .inl R') : Mat n n R' ∧ FOks R' := by
  unfold rPick at e
  cases hk : decide (k < i) with
  | true => rw [hk, cond_true] at e; cases e; exact ⟨m.set _ _ _, g.set (fop_fok _ _ _)⟩
  | false =>
    rw [hk, cond_false] at e
    cases hp : flt .f32 (some 0) y with
    | true => rw [hp, cond_true] at e; cases e; exact ⟨m.set _ _ _, g.set (rootN_ok hy)⟩
    | false => rw [hp, cond_false] at e; cases e
theorem rPick_ret {n i k : Nat} {R : List F} {y : F} {r : RRes} (e : rPick n i k R y = .inr r) : r = rFail := by
  unfold rPick at e
  cases hk : decide (k < i) with
  | true => rw [hk, cond_true] at e; cases e
  | false =>
    rw [hk, cond_false] at e
    cases hp : flt .f32 (some 0) y with
    | true => rw [hp, cond_true] at e; cases e
    | false => rw [hp, cond_false] at e; cases e; rfl
structure RInv (n : Nat) (R : List F) : Prop where
  m : Mat n n R
  g : FOks R
theorem rRow_inv {A : Nat → Nat → F} {n i : Nat} {R R' : List F} (hA : ∀ i k, FOk .f32 (A i k)) (h : RInv n R) (e : rRow A n i R = .inl R') : RInv n R' :=
  runE_inv (fun _ R => RInv n R) (i + 1) 0 R h (fun k s s' _ _ hI he => by
    have := rPick_inv hI.m hI.g (rDot_ok (hA i k) k) he
    exact ⟨this.1, this.2⟩) R' e
theorem rRow_ret {A : Nat → Nat → F} {n i : Nat} {R : List F} {r : RRes} (e : rRow A n i R = .inr r) : r = rFail := runE_ret (P := fun r => r = rFail) (fun _ _ _ h => rPick_ret h) e
theorem rAll_ret {A : Nat → Nat → F} {n : Nat} {r : RRes} (e : rAll A n = .inr r) : r = rFail := runE_ret (P := fun r => r = rFail) (fun _ _ _ h => rRow_ret h) e
theorem zeros_mat {n : Nat} (hn : n ≤ 12) : RInv n (List.replicate (n * n) (some 0)) := ⟨⟨hn, hn, by simp⟩, fun c hc => by rw [(List.mem_replicate.1 hc).2]; exact ⟨0, rfl, by decide, rfl⟩⟩
theorem rRow_congr {A B : Nat → Nat → F} {n i : Nat} {R : List F} (h : ∀ i k, i < n → k < n → A i k = B i k) (hi : i < n) : rRow A n i R = rRow B n i R :=
  runE_congr (fun _ _ => True) (i + 1) 0 R trivial fun k s _ hk _ => ⟨by unfold rCol; rw [h i k hi (by omega)], fun _ _ => trivial⟩
theorem rAll_congr {A B : Nat → Nat → F} {n : Nat} (h : ∀ i k, i < n → k < n → A i k = B i k) : rAll A n = rAll B n :=
  runE_congr (fun _ _ => True) n 0 _ trivial fun i s _ hi _ => ⟨rRow_congr h (by omega), fun _ _ => trivial⟩
theorem rDot_inf {n i k : Nat} {R : List F} {y : F} (hy : fin32 y = false) (m : Nat) : fin32 (run (rDot n i k R) 0 m y) = false := run_inv (fun _ y => fin32 y = false) m 0 y hy fun _ _ _ _ h => sub_not_fin h
theorem rRow_inf {A : Nat → Nat → F} {n i : Nat} {R R' : List F} (hn : i < n) (hA : ∀ i k, FOk .f32 (A i k)) (h : RInv n R) (hf : fin32 (A i i) = false) (e : rRow A n i R = .inl R') : fin32 (gm none R' n i i) = false := by
  unfold rRow at e
  have h1 : ∀ (m i0 : Nat) (s : List F), RInv n s → i0 + m = i → ∀ s', runE (rCol A n i) i0 (m + 1) s = .inl s' → fin32 (gm none s' n i i) = false := by
    intro m
    induction m with
    | zero =>
      intro i0 s hI hi s' e
      have hi0 : i0 = i := by omega
      subst hi0
      simp only [runE] at e
      cases e1 : rCol A n i0 i0 s with
      | inr r => rw [e1] at e; cases e
      | inl s2 =>
        rw [e1] at e
        cases e
        unfold rCol rPick at e1
        rw [show decide (i0 < i0) = false by simp, cond_false] at e1
        cases hp : flt .f32 (some 0) (run (rDot n i0 i0 s) 0 i0 (A i0 i0)) with
        | false => rw [hp, cond_false] at e1; cases e1
        | true =>
          rw [hp, cond_true] at e1
          cases e1
          rw [gm_set hI.m hn hn hn, if_pos ⟨rfl, rfl⟩]
          exact rootN_inf (rDot_ok (hA _ _) _) hp (rDot_inf hf _)
    | succ m ih =>
      intro i0 s hI hi s' e
      simp only [runE] at e ih
      cases e1 : rCol A n i i0 s with
      | inr r => rw [e1] at e; cases e
      | inl s2 =>
        rw [e1] at e
        have hI2 := rPick_inv hI.m hI.g (rDot_ok (hA i i0) i0) e1
        exact ih (i0 + 1) s2 ⟨hI2.1, hI2.2⟩ (by omega) s' e
  exact h1 i 0 R h (by omega) R' e
theorem rRow_keep {A : Nat → Nat → F} {n i d : Nat} {R R' : List F} (hn : i < n) (hd : d < n) (hne : i ≠ d) (hA : ∀ i k, FOk .f32 (A i k)) (h : RInv n R) (e : rRow A n i R = .inl R') : gm none R' n d d = gm none R n d d := by
  have := runE_inv (f := rCol A n i) (fun _ s => RInv n s ∧ gm none s n d d = gm none R n d d) (i + 1) 0 R ⟨h, rfl⟩ (fun k s s' _ hk hI he => by
    have hI2 := rPick_inv hI.1.m hI.1.g (rDot_ok (hA i k) k) he
    refine ⟨⟨hI2.1, hI2.2⟩, ?_⟩
    rw [← hI.2]
    unfold rCol rPick at he
    generalize run (rDot n i k s) 0 k (A i k) = y at he
    cases hk2 : decide (k < i) with
    | true =>
      rw [hk2, cond_true] at he; cases he
      rw [gm_set hI.1.m hn (by omega) hd, if_neg (fun e => hne e.1)]
    | false =>
      rw [hk2, cond_false] at he
      cases hp : flt .f32 (some 0) y with
      | true => rw [hp, cond_true] at he; cases he; rw [gm_set hI.1.m hn (by omega) hd, if_neg (fun e => hne e.1)]
      | false => rw [hp, cond_false] at he; cases he) R' e
  exact this.2
theorem rEnd_inf {A : Nat → Nat → F} {n d : Nat} (hn : n ≤ 12) (hA : ∀ i k, FOk .f32 (A i k)) (hd : d < n) (hf : fin32 (A d d) = false) : rEnd n (rAll A n) = rFail := by
  cases e : rAll A n with
  | inr r => exact rAll_ret e
  | inl R =>
    have := runE_inv (f := rRow A n) (fun i s => RInv n s ∧ (d < i → fin32 (gm none s n d d) = false)) n 0 _ ⟨zeros_mat hn, fun h => by omega⟩ (fun i s s' _ hi hI he => by
      refine ⟨rRow_inv hA hI.1 he, fun hlt => ?_⟩
      by_cases hid : i = d
      · subst hid; exact rRow_inf (by omega) hA hI.1 hf he
      · rw [rRow_keep (by omega) hd hid hA hI.1 he]; exact hI.2 (by omega)) R e
    have hz := fin_not this.1.m hd hd (this.2 (by omega))
    rw [rEnd_inl, hz]; rfl
def rsA (n : Nat) (a : List F) (sh : F) (i k : Nat) : F := bif decide (i = k) then fop .add .f32 (gm none a n i k) sh else gm none a n i k
theorem rsA_ok {n : Nat} {a : List F} {sh : F} (g : FOks a) (i k : Nat) : FOk .f32 (rsA n a sh i k) := by
  unfold rsA
  cases decide (i = k)
  · exact g.getD _
  · exact fop_fok _ _ _
theorem s_l03Root_dot {n i k : Nat} {R : List F} {y : F} (m : Mat n n R) (hi : i < n) (hk : k < n) : loopM (s_l03Root_s12 (n : Int) (n : Int) (i : Int) R (k : Int)) (y, 0) = some (.inl (run (rDot n i k R) 0 k y)) := by
  have hn := m.A1
  exact (loop_run (step := s_l03Root_s12 (n : Int) (n : Int) (i : Int) R (k : Int)) (fun (j : Nat) (y : F) => (y, (j : Int))) (rDot n i k R) (fun y => y) (fun _ _ => True) (lo := 0) (n := k) (Nat.zero_le _) (s0 := y) trivial
    (fun j y h1 h2 _ => by
      refine ⟨?_, trivial⟩
      show s_l03Root_b12 _ _ _ _ _ _ _ = _
      unfold s_l03Root_b12
      rw [dlt h2, bsel_true, s_l02At_eq _ m hi (by omega), obind_eq, s_l02At_eq _ m hk (by omega), obind_eq, olet_eq, olet_eq, wsucc (by omega)]
      rfl)
    (fun y _ => by
      show s_l03Root_b12 _ _ _ _ _ _ _ = _
      unfold s_l03Root_b12
      rw [dnlt, bsel_false])).1
theorem i_RootOfSquare_dot {n i k : Nat} {R : List F} {y : F} (m : Mat n n R) (hi : i < n) (hk : k < n) : loopM (i_RootOfSquare_s8 (n : Int) (n : Int) (i : Int) R (k : Int)) (y, 0) = some (.inl (run (rDot n i k R) 0 k y)) := by
  have hn := m.A1
  exact (loop_run (step := i_RootOfSquare_s8 (n : Int) (n : Int) (i : Int) R (k : Int)) (fun (j : Nat) (y : F) => (y, (j : Int))) (rDot n i k R) (fun y => y) (fun _ _ => True) (lo := 0) (n := k) (Nat.zero_le _) (s0 := y) trivial
    (fun j y h1 h2 _ => by
      refine ⟨?_, trivial⟩
      show i_RootOfSquare_b8 _ _ _ _ _ _ _ = _
      unfold i_RootOfSquare_b8
      rw [dlt h2, bsel_true, i_Matrix_at_eq _ m hi (by omega), obind_eq, i_Matrix_at_eq _ m hk (by omega), obind_eq, i_mul_eq, obind_eq, olet_eq, wsucc (by omega)]
      rfl)
    (fun y _ => by
      show i_RootOfSquare_b8 _ _ _ _ _ _ _ = _
      unfold i_RootOfSquare_b8
      rw [dnlt, bsel_false])).1
theorem dle_self {i k : Nat} : decide ((k : Int) ≤ (i : Int)) = decide (k ≤ i) := by simp
theorem s_l03Root_col {n i k : Nat} {a R : List F} {sh : F} (ma : Mat n n a) (ga : FOks a) (m : Mat n n R) (hi : i < n) (hk : k ≤ i) :
    s_l03Root_b14 (n : Int) (n : Int) a sh (n : Int) (n : Int) (i : Int) R (k : Int) = match rCol (rsA n a sh) n i k R with | .inl R' => some (.next (R', ((k + 1 : Nat) : Int))) | .inr r => some (.ret r) := by
  have hn := m.A1
  have hkn : k < n := by omega
  have fin : ∀ y, FOk .f32 y → s_l03Root_k11 (n : Int) (n : Int) (n : Int) (i : Int) R (k : Int) y = match rPick n i k R (run (rDot n i k R) 0 k y) with | .inl R' => some (.next (R', ((k + 1 : Nat) : Int))) | .inr r => some (.ret r) := by
    intro y hy
    unfold s_l03Root_k11
    rw [s_l03Root_dot m hi hkn, obind_eq, osum_inl]
    have hz := rDot_ok (n := n) (i := i) (k := k) (R := R) hy k
    generalize run (rDot n i k R) 0 k y = z at hz
    unfold s_l03Root_k12 rPick
    obtain ⟨e1, e2⟩ := idx_w m.A1 m.C1 hi hkn
    have hset : ∀ x, s_l03Root_k13 (n : Int) (i : Int) R (k : Int) x = some (.next (sm R n i k x, ((k + 1 : Nat) : Int))) := by
      intro x
      unfold s_l03Root_k13
      rw [e1, olet_eq, e2, olet_eq, setAt?_n _ (m.lt hi hkn), obind_eq, wsucc (by omega)]; rfl
    rcases Nat.lt_or_eq_of_le hk with hlt | heq
    · rw [dlt hlt, bsel_true, s_l02At_eq _ m hkn hkn, obind_eq, olet_eq, hset, show decide (k < i) = true by simp; omega]; rfl
    · subst heq
      rw [dnlt, bsel_false, show decide (k < k) = false by simp]
      cases hp : flt .f32 (some 0) z with
      | true => rw [bsel_true, s_l01Sqrt_eq hz, obind_eq, hset]; rfl
      | false => rfl
  unfold s_l03Root_b14 rCol rsA
  rw [dle hk, bsel_true, s_l02At_eq _ ma hi hkn, obind_eq]
  by_cases hik : i = k
  · subst hik
    rw [show decide ((i : Int) = (i : Int)) = true by simp, bsel_true, olet_eq, fin _ (fop_fok _ _ _), show decide (i = i) = true by simp]; rfl
  · rw [show decide ((i : Int) = (k : Int)) = false by simp; omega, bsel_false, fin _ (ga.getD _), show decide (i = k) = false by simp [hik]]; rfl
theorem i_RootOfSquare_col {n i k : Nat} {a R r4 : List F} (ma : Mat n n a) (ga : FOks a) (m : Mat n n R) (h4 : r4.length = n * n) (hi : i < n) (hk : k ≤ i) :
    i_RootOfSquare_b10 (n : Int) (n : Int) a (n : Int) (n : Int) r4 (i : Int) ((i + 1 : Nat) : Int) R (k : Int) = match rCol (gm none a n) n i k R with | .inl R' => some (.next (R', ((k + 1 : Nat) : Int))) | .inr r => some (.ret r) := by
  have hn := m.A1
  have hkn : k < n := by omega
  unfold i_RootOfSquare_b10 rCol
  rw [dlt (show k < i + 1 by omega), bsel_true, i_Matrix_at_eq _ ma hi hkn, obind_eq, i_RootOfSquare_dot m hi hkn, obind_eq, osum_inl]
  have hz := rDot_ok (n := n) (i := i) (k := k) (R := R) (ga.getD (i * n + k)) k
  generalize run (rDot n i k R) 0 k (gm none a n i k) = z at hz
  unfold i_RootOfSquare_k8 rPick
  have hl : ∀ x, decide ((sm R n i k x).length = r4.length) = true := fun x => by simp [m.len, h4]
  have hend : ∀ L, i_RootOfSquare_k9 (k : Int) L = some (.next (L, ((k + 1 : Nat) : Int))) := by
    intro L; unfold i_RootOfSquare_k9; rw [wsucc (by omega)]; rfl
  rcases Nat.lt_or_eq_of_le hk with hlt | heq
  · rw [dlt hlt, bsel_true, i_Matrix_at_eq _ m hkn hkn, obind_eq, olet_eq, i_Matrix_set_02o_eq _ m hi hkn, obind_eq, hl, need_true, hend, show decide (k < i) = true by simp; omega]; rfl
  · subst heq
    rw [dnlt, bsel_false, show decide (k < k) = false by simp]
    cases hp : flt .f32 (some 0) z with
    | true => rw [bsel_true, i_RootNumber_eq hz, obind_eq, i_Matrix_set_02o_eq _ m hi hkn, obind_eq, hl, need_true, hend]; rfl
    | false => rfl
theorem s_l03Root_row {n i : Nat} {a R : List F} {sh : F} (ma : Mat n n a) (ga : FOks a) (h : RInv n R) (hi : i < n) :
    s_l03Root_b15 (n : Int) (n : Int) a sh (n : Int) (n : Int) R (i : Int) = match rRow (rsA n a sh) n i R with | .inl R' => some (.next (R', ((i + 1 : Nat) : Int))) | .inr r => some (.ret r) := by
  have hn := h.m.A1
  unfold s_l03Root_b15
  obtain ⟨e, _⟩ := loop_endE (step := s_l03Root_s14 (n : Int) (n : Int) a sh (n : Int) (n : Int) (i : Int)) (fun (k : Nat) (R : List F) => (R, (k : Int))) (rCol (rsA n a sh) n i) (fun R => R) (fun _ R => RInv n R) (lo := 0) (n := i + 1) (Nat.zero_le _) (s0 := R) h
    (fun k s _ hk hI => by
      have := s_l03Root_col (sh := sh) ma ga hI.m hi (show k ≤ i by omega)
      cases hc : rCol (rsA n a sh) n i k s with
      | inl s' =>
        rw [hc] at this
        have h2 := rPick_inv hI.m hI.g (rDot_ok (rsA_ok ga i k) k) hc
        exact .inl ⟨s', rfl, this, ⟨h2.1, h2.2⟩⟩
      | inr r => rw [hc] at this; exact .inr ⟨r, rfl, this⟩)
    (fun s _ => by
      show s_l03Root_b14 _ _ _ _ _ _ _ _ _ = _
      unfold s_l03Root_b14
      rw [dle_self, show decide (i + 1 ≤ i) = false by simp, bsel_false])
  replace e : loopM (s_l03Root_s14 (n : Int) (n : Int) a sh (n : Int) (n : Int) (i : Int)) (R, 0) = some (endE (fun R => R) (rRow (rsA n a sh) n i R)) := e
  rw [dlt hi, bsel_true, e, obind_eq]
  cases rRow (rsA n a sh) n i R with
  | inl R' =>
    show s_l03Root_k14 _ _ = _
    unfold s_l03Root_k14
    rw [wsucc (by omega)]; rfl
  | inr r => rfl
theorem i_RootOfSquare_row {n i : Nat} {a R r4 : List F} (ma : Mat n n a) (ga : FOks a) (h : RInv n R) (h4 : r4.length = n * n) (hi : i < n) :
    i_RootOfSquare_b11 (n : Int) (n : Int) a (n : Int) (n : Int) r4 R (i : Int) = match rRow (gm none a n) n i R with | .inl R' => some (.next (R', ((i + 1 : Nat) : Int))) | .inr r => some (.ret r) := by
  have hn := h.m.A1
  unfold i_RootOfSquare_b11
  obtain ⟨e, _⟩ := loop_endE (step := i_RootOfSquare_s10 (n : Int) (n : Int) a (n : Int) (n : Int) r4 (i : Int) ((i + 1 : Nat) : Int)) (fun (k : Nat) (R : List F) => (R, (k : Int))) (rCol (gm none a n) n i) (fun R => R) (fun _ R => RInv n R) (lo := 0) (n := i + 1) (Nat.zero_le _) (s0 := R) h
    (fun k s _ hk hI => by
      have := i_RootOfSquare_col ma ga hI.m h4 hi (show k ≤ i by omega)
      cases hc : rCol (gm none a n) n i k s with
      | inl s' =>
        rw [hc] at this
        have h2 := rPick_inv hI.m hI.g (rDot_ok (ga.getD (i * n + k)) k) hc
        exact .inl ⟨s', rfl, this, ⟨h2.1, h2.2⟩⟩
      | inr r => rw [hc] at this; exact .inr ⟨r, rfl, this⟩)
    (fun s _ => by
      show i_RootOfSquare_b10 _ _ _ _ _ _ _ _ _ _ = _
      unfold i_RootOfSquare_b10
      rw [dnlt, bsel_false])
  replace e : loopM (i_RootOfSquare_s10 (n : Int) (n : Int) a (n : Int) (n : Int) r4 (i : Int) ((i + 1 : Nat) : Int)) (R, 0) = some (endE (fun R => R) (rRow (gm none a n) n i R)) := e
  rw [dlt hi, bsel_true, wsucc (by omega), olet_eq, e, obind_eq]
  cases rRow (gm none a n) n i R with
  | inl R' =>
    show i_RootOfSquare_k10 _ _ = _
    unfold i_RootOfSquare_k10
    rw [wsucc (by omega)]; rfl
  | inr r => rfl
theorem s_l02Zero_eq {A C : Nat} (hA : A ≤ 12) (hC : C ≤ 12) : s_l02Zero (A : Int) (C : Int) = some ((A : Int), (C : Int), List.replicate (A * C) (some 0)) := by
  have hAC := small_mul hA hC
  unfold s_l02Zero
  have mk : mkok 4 ((A * C : Nat) : Int) = true := by simp [mkok]; omega
  rw [← Int.natCast_mul, wn (by omega), olet_eq, mk]; rfl
theorem i_newMatrix_eq {A C : Nat} (hA : A ≤ 12) (hC : C ≤ 12) : i_newMatrix (A : Int) (C : Int) = some ((A : Int), (C : Int), List.replicate (A * C) (some 0)) := by
  have hAC := small_mul hA hC
  unfold i_newMatrix
  have mk : mkok 4 ((A * C : Nat) : Int) = true := by simp [mkok]; omega
  rw [← Int.natCast_mul, wn (by omega), olet_eq, mk]; rfl
theorem s_l03Root_eq {n : Nat} {a : List F} {sh : F} (ma : Mat n n a) (ga : FOks a) (h0 : 0 < n) : s_l03Root (n : Int) (n : Int) a sh = some (rEnd n (rAll (rsA n a sh) n)) := by
  have hn := ma.A1
  unfold s_l03Root
  obtain ⟨e, hI⟩ := loop_endE (step := s_l03Root_s15 (n : Int) (n : Int) a sh (n : Int) (n : Int)) (fun (k : Nat) (R : List F) => (R, (k : Int))) (rRow (rsA n a sh) n) (fun R => R) (fun _ R => RInv n R) (lo := 0) (n := n) (Nat.zero_le _) (s0 := List.replicate (n * n) (some 0)) (zeros_mat hn)
    (fun i s _ hi hI => by
      have := s_l03Root_row (sh := sh) ma ga hI hi
      cases hc : rRow (rsA n a sh) n i s with
      | inl s' => rw [hc] at this; exact .inl ⟨s', rfl, this, rRow_inv (fun i k => rsA_ok ga i k) hI hc⟩
      | inr r => rw [hc] at this; exact .inr ⟨r, rfl, this⟩)
    (fun s _ => by
      show s_l03Root_b15 _ _ _ _ _ _ _ _ = _
      unfold s_l03Root_b15
      rw [dnlt, bsel_false])
  replace e : loopM (s_l03Root_s15 (n : Int) (n : Int) a sh (n : Int) (n : Int)) (List.replicate (n * n) (some 0), 0) = some (endE (fun R => R) (rAll (rsA n a sh) n)) := e
  rw [s_l02Zero_eq hn hn, obind3_eq, e, obind_eq]
  cases hr : rAll (rsA n a sh) n with
  | inr r => rfl
  | inl R =>
    have h2 := hI R hr
    show s_l03Root_k15 _ _ _ R = _
    rw [rEnd_inl]
    unfold s_l03Root_k15 s_l02Give_02o
    have hl : decide (R.length = (List.replicate (n * n) (some 0 : F)).length) = true := by simp [h2.m.len]
    rw [s_l02Is_eq _ _ h2.g h2.m.le, mat_valid h2.m h0 h0, obind_eq]
    cases R.all fin32 with
    | true => rw [bsel_true, obind_eq, osum_inl, obind4_eq, hl, need_true]; rfl
    | false => rw [bsel_false, obind_eq, osum_inr, obind5_eq, hl, need_true]; rfl
theorem i_RootOfSquare_eq {n : Nat} {a : List F} (ma : Mat n n a) (ga : FOks a) (h0 : 0 < n) : i_RootOfSquare (n : Int) (n : Int) a = some (bif a.all fin32 then rEnd n (rAll (gm none a n) n) else rFail) := by
  have hn := ma.A1
  unfold i_RootOfSquare
  rw [i_isSquare_eq _ _ ga ma.le, mat_valid ma h0 h0, obind_eq]
  cases a.all fin32 with
  | false => rfl
  | true =>
  rw [show (true && decide ((n : Int) = (n : Int))) = true by simp, bsel_true, cond_true]
  obtain ⟨e, hI⟩ := loop_endE (step := i_RootOfSquare_s11 (n : Int) (n : Int) a (n : Int) (n : Int) (List.replicate (n * n) (some 0))) (fun (k : Nat) (R : List F) => (R, (k : Int))) (rRow (gm none a n) n) (fun R => R) (fun _ R => RInv n R) (lo := 0) (n := n) (Nat.zero_le _) (s0 := List.replicate (n * n) (some 0)) (zeros_mat hn)
    (fun i s _ hi hI => by
      have := i_RootOfSquare_row ma ga hI (r4 := List.replicate (n * n) (some 0)) (by simp) hi
      cases hc : rRow (gm none a n) n i s with
      | inl s' => rw [hc] at this; exact .inl ⟨s', rfl, this, rRow_inv (fun i k => ga.getD _) hI hc⟩
      | inr r => rw [hc] at this; exact .inr ⟨r, rfl, this⟩)
    (fun s _ => by
      show i_RootOfSquare_b11 _ _ _ _ _ _ _ _ = _
      unfold i_RootOfSquare_b11
      rw [dnlt, bsel_false])
  replace e : loopM (i_RootOfSquare_s11 (n : Int) (n : Int) a (n : Int) (n : Int) (List.replicate (n * n) (some 0))) (List.replicate (n * n) (some 0), 0) = some (endE (fun R => R) (rAll (gm none a n) n)) := e
  rw [i_newMatrix_eq hn hn, obind3_eq, e, obind_eq]
  cases hr : rAll (gm none a n) n with
  | inr r => rfl
  | inl R =>
    have h2 := hI R hr
    show i_RootOfSquare_k11 _ _ _ R = _
    rw [rEnd_inl]
    unfold i_RootOfSquare_k11 i_Matrix_valid_02o
    have hl : decide (R.length = (List.replicate (n * n) (some 0 : F)).length) = true := by simp [h2.m.len]
    rw [i_ValidMatrix_eq _ _ h2.g h2.m.le, mat_valid h2.m h0 h0, obind_eq]
    cases R.all fin32 with
    | true => rw [bsel_true, obind_eq, osum_inl, obind4_eq, hl, need_true]; rfl
    | false => rw [bsel_false, obind_eq, osum_inr, obind5_eq, hl, need_true]; rfl
def shE (n : Nat) (a : List F) (sh : F) (i : Nat) (L : List F) : List F := sm L n i i (fop .add .f32 (gm none a n i i) sh)
def shP (n : Nat) (a : List F) (sh : F) : List F := run (shE n a sh) 0 n a
theorem shP_spec {n : Nat} {a : List F} {sh : F} (m : Mat n n a) (g : FOks a) : Mat n n (shP n a sh) ∧ FOks (shP n a sh) ∧ ∀ i k, i < n → k < n → gm none (shP n a sh) n i k = rsA n a sh i k := by
  have := run_inv (f := shE n a sh) (fun d L => Mat n n L ∧ FOks L ∧ ∀ i k, i < n → k < n → gm none L n i k = bif decide (i < d) then rsA n a sh i k else gm none a n i k) n 0 a ⟨m, g, fun i k _ _ => by simp⟩ (fun d L _ hd ⟨h1, h2, h3⟩ => by
    refine ⟨h1.set _ _ _, h2.set (fop_fok _ _ _), fun i k hi hk => ?_⟩
    unfold shE
    rw [gm_set h1 (by omega) (by omega) hk]
    by_cases e : d = i ∧ d = k
    · obtain ⟨rfl, rfl⟩ := e
      rw [if_pos ⟨rfl, rfl⟩, show decide (d < d + 1) = true by simp]
      simp [rsA]
    · rw [if_neg e, h3 i k hi hk]
      by_cases hdi : i < d
      · rw [show decide (i < d) = true by simp [hdi], show decide (i < d + 1) = true by simp; omega]
      · rw [show decide (i < d) = false by simp [hdi]]
        by_cases hid : i = d
        · subst hid
          have hne : ¬ i = k := fun h => e ⟨rfl, h⟩
          rw [show decide (i < i + 1) = true by simp]
          simp [rsA, hne]
        · rw [show decide (i < d + 1) = false by simp; omega])
  refine ⟨this.1, this.2.1, fun i k hi hk => ?_⟩
  have h := this.2.2 i k hi hk
  rw [show decide (i < 0 + n) = true by simp; omega] at h
  exact h
theorem i_RootShifted_shift {n : Nat} {a : List F} {sh : F} (m : Mat n n a) : loopM (i_RootShifted_s3 (n : Int) (n : Int) a sh (n : Int) (n : Int) a) (a, 0) = some (.inl (shP n a sh)) := by
  have hn := m.A1
  exact (loop_run (step := i_RootShifted_s3 (n : Int) (n : Int) a sh (n : Int) (n : Int) a) (fun (i : Nat) (L : List F) => (L, (i : Int))) (shE n a sh) (fun L => L) (fun _ L => Mat n n L) (lo := 0) (n := n) (Nat.zero_le _) (s0 := a) m
    (fun i L _ hi h => by
      refine ⟨?_, h.set _ _ _⟩
      show i_RootShifted_b3 _ _ _ _ _ _ _ _ _ = _
      unfold i_RootShifted_b3
      have l1 : decide ((sm L n i i (fop .add .f32 (gm none a n i i) sh)).length = a.length) = true := by simp [h.len, m.len]
      rw [dlt hi, bsel_true, i_Matrix_at_eq _ m hi hi, obind_eq, olet_eq, i_Matrix_set_02o_eq _ h hi hi, obind_eq, l1, need_true, wsucc (by omega)]
      rfl)
    (fun L _ => by
      show i_RootShifted_b3 _ _ _ _ _ _ _ _ _ = _
      unfold i_RootShifted_b3
      rw [dnlt, bsel_false])).1
theorem shifted_root {n : Nat} {a : List F} {sh : F} (m : Mat n n a) (g : FOks a) (hf : a.all fin32 = true) (h0 : 0 < n) : i_RootOfSquare (n : Int) (n : Int) (shP n a sh) = some (rEnd n (rAll (rsA n a sh) n)) := by
  obtain ⟨h1, h2, h3⟩ := shP_spec (sh := sh) m g
  rw [i_RootOfSquare_eq h1 h2 h0, rAll_congr h3]
  cases hs : (shP n a sh).all fin32 with
  | true => rfl
  | false =>
    have : ∃ d, d < n ∧ fin32 (rsA n a sh d d) = false := by
      refine Classical.byContradiction fun hno => ?_
      have hall : (shP n a sh).all fin32 = true := by
        rw [fin_all]
        intro q hq
        rw [h1.len] at hq
        have hq1 : q / n < n := (Nat.div_lt_iff_lt_mul h0).2 hq
        have hq2 : q % n < n := Nat.mod_lt _ h0
        have hq3 : q / n * n + q % n = q := by rw [Nat.mul_comm]; exact Nat.div_add_mod q n
        have := h3 (q / n) (q % n) hq1 hq2
        unfold gm at this
        rw [hq3] at this
        rw [this]
        by_cases e : q / n = q % n
        · cases hx : fin32 (rsA n a sh (q / n) (q % n)) with
          | true => rfl
          | false => exact absurd ⟨q / n, hq1, by rw [← hx]; congr 1; rw [← e]⟩ hno
        · unfold rsA
          rw [show decide (q / n = q % n) = false by simp [e]]
          exact fin_all.1 hf _ (m.lt hq1 hq2)
      rw [hs] at hall; cases hall
    obtain ⟨d, hd, hd2⟩ := this
    rw [rEnd_inf m.A1 (fun i k => rsA_ok g i k) hd hd2]; rfl
abbrev SRes := Int × Int × F × Bool × List F
def sFail : SRes := (0, 0, some 0, false, [])
def rsGo (n : Nat) (a : List F) (start : F) : Nat → Nat → F → SRes
  | 0, _, _ => sFail
  | m + 1, k, y =>
    let q := rEnd n (rAll (rsA n a y) n)
    bif q.2.2.1 then (q.1, q.2.1, y, true, q.2.2.2) else
      let y' := bif decide (k = 0) then start else fop .mul .f32 (some 1073741824) y
      bif fin32 y' then rsGo n a start m (k + 1) y' else sFail
def zres : Unit ⊕ SRes → SRes
  | .inl _ => sFail
  | .inr r => r
theorem dlt24 {k : Nat} : decide ((k : Int) < 24) = decide (k < 24) := by
  by_cases h : k < 24
  · rw [decide_eq_true h, decide_eq_true (by omega)]
  · rw [decide_eq_false h, decide_eq_false (by omega)]
theorem deq0 {k : Nat} : decide ((k : Int) = 0) = decide (k = 0) := by
  by_cases h : k = 0
  · rw [decide_eq_true h, decide_eq_true (by omega)]
  · rw [decide_eq_false h, decide_eq_false (by omega)]
theorem s_RootShifted_go {n : Nat} {a : List F} {start : F} (ma : Mat n n a) (ga : FOks a) (h0 : 0 < n) (hs : FOk .f32 start) : ∀ (m k : Nat) (y : F), k + m = 24 → ∃ z, loopM (s_RootShifted_s3 (n : Int) (n : Int) a start) (y, (k : Int)) = some z ∧ zres z = rsGo n a start m k y
  | 0, k, y, hk => by
    refine ⟨.inl (), loopM_out ?_, rfl⟩
    show s_RootShifted_b3 _ _ _ _ _ _ = _
    unfold s_RootShifted_b3
    rw [dlt24, show decide (k < 24) = false by simp; omega, bsel_false]
  | m + 1, k, y, hk => by
    have hb : s_RootShifted_s3 (n : Int) (n : Int) a start (y, (k : Int)) = bsel (rEnd n (rAll (rsA n a y) n)).2.2.1 (some (.ret ((rEnd n (rAll (rsA n a y) n)).1, (rEnd n (rAll (rsA n a y) n)).2.1, y, true, (rEnd n (rAll (rsA n a y) n)).2.2.2)))
        (bsel (fin32 (bif decide (k = 0) then start else fop .mul .f32 (some 1073741824) y)) (some (.next (bif decide (k = 0) then start else fop .mul .f32 (some 1073741824) y, ((k + 1 : Nat) : Int)))) (some (.ret sFail))) := by
      show s_RootShifted_b3 _ _ _ _ _ _ = _
      unfold s_RootShifted_b3
      rw [dlt24, show decide (k < 24) = true by simp; omega, bsel_true, s_l03Root_eq ma ga h0]
      generalize rEnd n (rAll (rsA n a y) n) = q
      obtain ⟨q1, q2, q3, q4⟩ := q
      rw [obind4_eq]
      cases q3 with
      | true => rfl
      | false =>
        rw [bsel_false, bsel_false, deq0]
        unfold s_RootShifted_k2
        cases decide (k = 0) with
        | true => rw [bsel_true, s_l01Finite_eq hs, obind_eq, wsucc (by omega)]; rfl
        | false => rw [bsel_false, olet_eq, s_l01Finite_eq (fop_fok _ _ _), obind_eq, wsucc (by omega)]; rfl
    unfold rsGo
    dsimp only
    cases hq : (rEnd n (rAll (rsA n a y) n)).2.2.1 with
    | true => exact ⟨_, loopM_ret (by rw [hb, hq, bsel_true]), rfl⟩
    | false =>
      rw [hq, bsel_false] at hb
      rw [cond_false]
      cases hf : fin32 (bif decide (k = 0) then start else fop .mul .f32 (some 1073741824) y) with
      | false => exact ⟨_, loopM_ret (by rw [hb, hf, bsel_false]), rfl⟩
      | true =>
        rw [hf, bsel_true] at hb
        rw [loopM_next hb]
        exact s_RootShifted_go ma ga h0 hs m (k + 1) _ (by omega)
theorem i_RootShifted_go {n : Nat} {a : List F} {start : F} (ma : Mat n n a) (ga : FOks a) (hfa : a.all fin32 = true) (h0 : 0 < n) (hs : FOk .f32 start) : ∀ (m k : Nat) (y : F), k + m = 24 → FOk .f32 y → fin32 y = true → ∃ z, loopM (i_RootShifted_s5 (n : Int) (n : Int) a start) (y, (k : Int)) = some z ∧ zres z = rsGo n a start m k y
  | 0, k, y, hk, _, _ => by
    refine ⟨.inl (), loopM_out ?_, rfl⟩
    show i_RootShifted_b5 _ _ _ _ _ _ = _
    unfold i_RootShifted_b5
    rw [dlt24, show decide (k < 24) = false by simp; omega, bsel_false]
  | m + 1, k, y, hk, hy, hfy => by
    have hb : i_RootShifted_s5 (n : Int) (n : Int) a start (y, (k : Int)) = bsel (rEnd n (rAll (rsA n a y) n)).2.2.1 (some (.ret ((rEnd n (rAll (rsA n a y) n)).1, (rEnd n (rAll (rsA n a y) n)).2.1, y, true, (rEnd n (rAll (rsA n a y) n)).2.2.2)))
        (some (.next (bif decide (k = 0) then start else fop .mul .f32 (some 1073741824) y, ((k + 1 : Nat) : Int)))) := by
      show i_RootShifted_b5 _ _ _ _ _ _ = _
      unfold i_RootShifted_b5
      rw [dlt24, show decide (k < 24) = true by simp; omega, bsel_true, i_IsFinite_eq hy, hfy, obind_eq, bsel_true, i_Matrix_clone_eq _ _ ma.le, obind3_eq, i_RootShifted_shift ma, obind_eq, osum_inl]
      unfold i_RootShifted_k3
      rw [shifted_root ma ga hfa h0]
      generalize rEnd n (rAll (rsA n a y) n) = q
      obtain ⟨q1, q2, q3, q4⟩ := q
      rw [obind4_eq]
      cases q3 with
      | true => rfl
      | false =>
        rw [bsel_false, bsel_false, deq0, i_mul_eq, obind_eq]
        unfold i_RootShifted_k4
        cases decide (k = 0) with
        | true => rw [bsel_true, wsucc (by omega)]; rfl
        | false => rw [bsel_false, wsucc (by omega)]; rfl
    unfold rsGo
    dsimp only
    cases hq : (rEnd n (rAll (rsA n a y) n)).2.2.1 with
    | true => exact ⟨_, loopM_ret (by rw [hb, hq, bsel_true]), rfl⟩
    | false =>
      rw [hq, bsel_false] at hb
      rw [cond_false, loopM_next hb]
      have hy' : FOk .f32 (bif decide (k = 0) then start else fop .mul .f32 (some 1073741824) y) := by
        cases decide (k = 0)
        · exact fop_fok _ _ _
        · exact hs
      cases hf : fin32 (bif decide (k = 0) then start else fop .mul .f32 (some 1073741824) y) with
      | false =>
        refine ⟨.inl (), loopM_out ?_, rfl⟩
        show i_RootShifted_b5 _ _ _ _ _ _ = _
        unfold i_RootShifted_b5
        rw [i_IsFinite_eq hy', hf, obind_eq, bsel_false]
        cases decide (((k + 1 : Nat) : Int) < 24) <;> rfl
      | true => exact i_RootShifted_go ma ga hfa h0 hs m (k + 1) _ (by omega) hy' hf
theorem rEnd_len {n : Nat} {A : Nat → Nat → F} (hn : n ≤ 12) (hA : ∀ i k, FOk .f32 (A i k)) : (rEnd n (rAll A n)).2.2.2.length ≤ 1048576 := by
  cases e : rAll A n with
  | inr r => rw [rAll_ret e]; simp [rEnd, rFail]
  | inl R =>
    have := runE_inv (f := rRow A n) (fun i s => RInv n s) n 0 _ (zeros_mat hn) (fun i s s' _ hi hI he => rRow_inv hA hI he) R e
    rw [rEnd_inl]
    cases R.all fin32 with
    | true => exact this.m.le
    | false => simp [rFail]
theorem rsGo_len {n : Nat} {a : List F} {start : F} (hn : n ≤ 12) (g : FOks a) : ∀ (m k : Nat) (y : F), (rsGo n a start m k y).2.2.2.2.length ≤ 1048576
  | 0, _, _ => by simp [rsGo, sFail]
  | m + 1, k, y => by
    unfold rsGo
    dsimp only
    cases (rEnd n (rAll (rsA n a y) n)).2.2.1 with
    | true => exact rEnd_len hn fun i k => rsA_ok g i k
    | false =>
      rw [cond_false]
      cases fin32 (bif decide (k = 0) then start else fop .mul .f32 (some 1073741824) y) with
      | true => exact rsGo_len hn g m (k + 1) _
      | false => simp [sFail]
theorem above_eq {x : F} (h : FOk .f32 x) (hf : fin32 x = true) : flt .f32 (some 0) x = !fle .f32 x (some 0) := by
  obtain ⟨o, ho⟩ := ford_zero h hf
  unfold fle flt
  rw [ford_swap (a := x) (b := some 0), ho]
  cases o <;> rfl
theorem s_l02Above_eq {x : F} (h : FOk .f32 x) : s_l02Above x = some (fin32 x && !fle .f32 x (some 0)) := by
  unfold s_l02Above
  rw [s_l01Finite_eq h, obind_eq]
  cases hf : fin32 x with
  | false => rfl
  | true => rw [bsel_true, above_eq h hf]; rfl
theorem RootShifted_eq (a0 a1 : Int) (a2 : List F) (a3 : F) (g : FOks a2) (g3 : FOk .f32 a3) (s2 : a2.length ≤ 1048576) : ∃ x y z b L, s_RootShifted a0 a1 a2 a3 = some (x, y, z, b, L) ∧ i_RootShifted a0 a1 a2 a3 = some (x, y, z, b, L) ∧ L.length ≤ 1048576 := by
  unfold s_RootShifted i_RootShifted
  rw [s_l02Square_eq a0 a1 g s2, i_isSquare_eq a0 a1 g s2, obind_eq, obind_eq]
  cases hv : validM a0 a1 a2 && decide (a0 = a1) with
  | false => exact ⟨_, _, _, _, _, rfl, rfl, by simp⟩
  | true =>
    rw [bsel_true, bsel_true, s_l02Above_eq g3, i_IsFinite_eq g3, obind_eq, obind_eq]
    cases hf : fin32 a3 with
    | false => exact ⟨_, _, _, _, _, rfl, rfl, by simp⟩
    | true =>
      rw [bsel_true, Bool.true_and]
      cases hl : fle .f32 a3 (some 0) with
      | true => exact ⟨_, _, _, _, _, rfl, rfl, by simp⟩
      | false =>
        rw [Bool.not_false, bsel_true, bsel_false]
        simp only [Bool.and_eq_true, decide_eq_true_eq] at hv
        obtain ⟨A, C, rfl, rfl, A0, C0, m, f⟩ := valid_mat hv.1
        have : A = C := by omega
        subst this
        obtain ⟨z, e1, e2⟩ := s_RootShifted_go m g A0 g3 24 0 (some 0) rfl
        obtain ⟨z', e3, e4⟩ := i_RootShifted_go m g f A0 g3 24 0 (some 0) rfl ⟨0, rfl, by decide, rfl⟩ rfl
        have hlen := rsGo_len (start := a3) m.A1 g 24 0 (some 0)
        replace e1 : loopM (s_RootShifted_s3 (A : Int) (A : Int) a2 a3) (some 0, 0) = some z := e1
        replace e3 : loopM (i_RootShifted_s5 (A : Int) (A : Int) a2 a3) (some 0, 0) = some z' := e3
        have hs : (obind (some z) fun z => osum z (fun _ => s_RootShifted_k3) (fun r => some r)) = some (rsGo A a2 a3 24 0 (some 0)) := by rw [← e2]; cases z <;> rfl
        have hi : (obind (some z') fun z => osum z (fun _ => i_RootShifted_k5) (fun r => some r)) = some (rsGo A a2 a3 24 0 (some 0)) := by rw [← e4]; cases z' <;> rfl
        rw [e1, e3, hs, hi]
        generalize rsGo A a2 a3 24 0 (some 0) = q at hlen
        obtain ⟨q1, q2, q3, q4, q5⟩ := q
        exact ⟨_, _, _, _, _, rfl, rfl, hlen⟩
theorem w_FnExactRootShifted_true (a0 : Int) (a1 : Int) (a2 : List F) (a3 : F) (s_a2 : Small a2) (g_a2 : FOks a2) (g_a3 : FOk .f32 a3) : w_FnExactRootShifted a0 a1 a2 a3 = some true := by
  obtain ⟨l0, e0, h0⟩ := w_szFloat32S_ex a2 1048576 s_a2 (by omega) (by omega)
  rcases Int.lt_or_le l0 0 with c0 | c0
  · simp [w_FnExactRootShifted, w_eqMatrix, w_heldMatrix, w_markMatrix_02o, w_szMatrix, w_toMatrix, e0, c0]
  have d0 : decide (l0 < 0) = false := by simp; omega
  have t0 := h0 c0
  have t_a2 : a2.length ≤ 1048576 := by omega
  have f1 : w_toFloat32S a2 = some a2 := w_toFloat32S_eq a2 t_a2
  obtain ⟨z0, z1, z2, z3, z4, p1, p2, b_z4⟩ := RootShifted_eq a0 a1 a2 a3 g_a2 g_a3 t_a2
  have f2 : w_eqFloat32S z4 z4 = some true := w_eqFloat32S_refl z4 b_z4
  have f3 : w_sameFloat (fwiden z2) (fwiden z2) = some true := w_sameFloat_refl (fwiden z2)
  have f4 : (!(z3 == z3)) = false := by cases z3 <;> rfl
  have f5 : w_eqFloat32S a2 a2 = some true := w_eqFloat32S_refl a2 t_a2
  have f6 : w_markFloat32S_0o 1 a2 = some ((1 + (a2.length : Int)), marks 1 a2.length) := w_markFloat32S_0o_eq 1 a2 (by omega) (by omega) t_a2
  have f7 : decide ((1 + (a2.length : Int)) < 0) = false := by simp <;> omega
  have f8 : w_markFloat32S_0o 1 z4 = some ((1 + (z4.length : Int)), marks 1 z4.length) := w_markFloat32S_0o_eq 1 z4 (by omega) (by omega) b_z4
  have f9 : w_heldFloat32S (marks 1 z4.length) 1 = some (1 + (z4.length : Int)) := w_heldFloat32S_eq 1 z4.length (by omega) (by omega) b_z4
  have f10 : decide ((1 + (z4.length : Int)) < 0) = false := by simp <;> omega
  simp only [w_FnExactRootShifted, w_eqMatrix, w_heldMatrix, w_markMatrix_02o, w_szMatrix, w_toMatrix, e0, d0, f1, p1, p2, f2, f3, f4, f5, f6, f7, f8, f9, f10, obind_eq, obind2_eq, obind3_eq, obind4_eq, obind5_eq, obind6_eq, obind7_eq, obind8_eq, bsel_true, bsel_false, need_true, olet_eq, marks_len, marksI_len, decide_true, Bool.not_true, Bool.not_false]

end Go.Proofs.Ytjbifkimffmhpaa
