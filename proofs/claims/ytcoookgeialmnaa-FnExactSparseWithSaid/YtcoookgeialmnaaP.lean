/- The plain law of FnExactSparseWith. -/
import Derived.Test.YtcoookgeialmnaaG3
namespace Go.Proofs.Ytcoookgeialmnaa
set_option linter.unusedSimpArgs false
set_option linter.unusedVariables false
open Go Go.AM
def Small {α : Type} (l : List α) : Prop := l.length ≤ 9223372036854775807
theorem sz_one (n : Nat) (a : Int) (hn : n ≤ 9223372036854775807) (h0 : 0 ≤ a) (h1 : a ≤ 1048576) :
    ∃ r, olet (IntKind.i64.wrap (a - (n : Int))) (fun x1 => bsel (decide (x1 < 0)) (some (-1)) (some x1)) = some r ∧ (0 ≤ r → (n : Int) ≤ a ∧ r ≤ a) := by
  rw [wrap_i64 (by omega) (by omega)]
  simp only [olet_eq, bsel_if, decide_eq_true_eq]
  split
  · exact ⟨_, rfl, fun h => by omega⟩
  · exact ⟨_, rfl, fun h => by omega⟩
theorem w_szFloat32S_ex (l : List F) (a : Int) (hn : Small l) (h0 : 0 ≤ a) (h1 : a ≤ 1048576) : ∃ r, w_szFloat32S l a = some r ∧ (0 ≤ r → (l.length : Int) ≤ a ∧ r ≤ a) := sz_one l.length a hn h0 h1
theorem w_szInt64S_ex (l : List Int) (a : Int) (hn : Small l) (h0 : 0 ≤ a) (h1 : a ≤ 1048576) : ∃ r, w_szInt64S l a = some r ∧ (0 ≤ r → (l.length : Int) ≤ a ∧ r ≤ a) := sz_one l.length a hn h0 h1
theorem w_toFloat32S_eq (a : List F) (h : a.length ≤ 1048576) : w_toFloat32S a = some a := by
  unfold w_toFloat32S
  have hm : mkok 4 (a.length : Int) = true := by simp [mkok]; omega
  rw [hm, need_true, loop_copy (a := a) (ρ := List F) ?_ ?_ _ (by simp)]
  · rfl
  · intro L v x h0 hv hx hL
    show w_toFloat32S_b1 a L v = _
    unfold w_toFloat32S_b1
    have hs := setAt?_of (l := L) (x := x) h0 (by omega)
    simp [bsel_if, hv, at?_of h0 hx, hs, wrap_succ h0 hv (by omega : a.length ≤ 9223372036854775807)]
  · intro L hL
    show w_toFloat32S_b1 a L (a.length : Int) = _
    unfold w_toFloat32S_b1
    simp [bsel_if]
theorem w_toInt64S_eq (a : List Int) (h : a.length ≤ 1048576) : w_toInt64S a = some a := by
  unfold w_toInt64S
  have hm : mkok 8 (a.length : Int) = true := by simp [mkok]; omega
  rw [hm, need_true, loop_copy (a := a) (ρ := List Int) ?_ ?_ _ (by simp)]
  · rfl
  · intro L v x h0 hv hx hL
    show w_toInt64S_b1 a L v = _
    unfold w_toInt64S_b1
    have hs := setAt?_of (l := L) (x := x) h0 (by omega)
    simp [bsel_if, hv, at?_of h0 hx, hs, wrap_succ h0 hv (by omega : a.length ≤ 9223372036854775807)]
  · intro L hL
    show w_toInt64S_b1 a L (a.length : Int) = _
    unfold w_toInt64S_b1
    simp [bsel_if]
theorem w_sameFloat_refl (c : F) : w_sameFloat c c = some true := by
  unfold w_sameFloat
  cases h : feq .f64 c c <;> simp [w_sameFloat_k1, h, bsel_if]
theorem w_eqFloat32S_refl (a : List F) (h : a.length ≤ 1048576) : w_eqFloat32S a a = some true := by
  unfold w_eqFloat32S
  rw [loop_eq (l := a) (m := a) rfl ?_ ?_]
  · simp [bsel_if, w_eqFloat32S_k1]
  · intro v x y h0 hv hx hy
    rw [hx] at hy; cases hy
    show w_eqFloat32S_b1 a a v = _
    unfold w_eqFloat32S_b1
    rw [at?_of h0 hx, wrap_succ h0 hv (by omega)]
    simp [bsel_if, hv, w_sameFloat_refl]
  · show w_eqFloat32S_b1 a a (a.length : Int) = _
    unfold w_eqFloat32S_b1
    simp [bsel_if]
theorem w_eqInt64S_refl (a : List Int) (h : a.length ≤ 1048576) : w_eqInt64S a a = some true := by
  unfold w_eqInt64S
  rw [loop_eq (l := a) (m := a) rfl ?_ ?_]
  · simp [bsel_if, w_eqInt64S_k1]
  · intro v x y h0 hv hx hy
    rw [hx] at hy; cases hy
    show w_eqInt64S_b1 a a v = _
    unfold w_eqInt64S_b1
    rw [at?_of h0 hx, wrap_succ h0 hv (by omega)]
    simp [bsel_if, hv]
  · show w_eqInt64S_b1 a a (a.length : Int) = _
    unfold w_eqInt64S_b1
    simp [bsel_if]
def FOks (l : List F) : Prop := ∀ c ∈ l, FOk .f32 c
theorem FOks.at {l : List F} (h : FOks l) {i : Nat} {c : F} (e : l[i]? = some c) : FOk .f32 c := h c (List.mem_of_getElem? e)
theorem s_l00In_eq (n lo hi : Int) : s_l00In n lo hi = some (decide (lo ≤ n) && decide (n ≤ hi)) := by
  unfold s_l00In; cases decide (lo ≤ n) <;> rfl
theorem i_inRange_eq (n lo hi : Int) : i_inRange n lo hi = some (decide (lo ≤ n) && decide (n ≤ hi)) := by
  unfold i_inRange; cases decide (lo ≤ n) <;> rfl
theorem s_l01Finite_eq {c : F} (h : FOk .f32 c) : s_l01Finite c = some (fin32 c) := by
  unfold s_l01Finite; rw [olet_eq, sub_self h]
theorem s_l02Finite_eq {a : List F} (ha : FOks a) (sa : a.length ≤ 1048576) : s_l02Finite a = some (a.all fin32) := by
  unfold s_l02Finite
  rw [loop_all (l := a) (p := fin32) false ?_ ?_]
  · cases h : a.all fin32 <;> simp [s_l02Finite_k1]
  · intro v x h0 hv hx
    show s_l02Finite_b1 a v = _
    unfold s_l02Finite_b1
    rw [at?_of h0 hx, wrap_succ h0 hv (by omega)]
    simp [bsel_if, hv, s_l01Finite_eq (ha.at hx)]
  · show s_l02Finite_b1 a (a.length : Int) = _
    unfold s_l02Finite_b1
    simp [bsel_if]
theorem i_IsFinite_eq {c : F} (h : FOk .f32 c) : i_IsFinite c = some (fin32 c) := by
  unfold i_IsFinite i_isFinite64 x_math_IsNaN x_math_IsInf x_math_Abs x_math_IsInf_k1
  cases c with
  | none => simp [fwiden, fin32]
  | some b =>
    have hw := feq_refl (k := .f64) (b := FloatKind.f64.encode (FloatKind.f32.decode b)) (fwiden_ok h)
    have hw' : feq .f64 (fwiden (some b)) (fwiden (some b)) = true := hw
    have hm := fabs_max h (by simp)
    simp only [olet_eq, obind_eq, hw', Bool.not_true, bsel_false, decide_true, bsel_true, hm, Bool.not_not]
theorem i_areFinite_1_eq {c : F} (h : FOk .f32 c) : i_areFinite_1 c = some (!fin32 c) := by
  unfold i_areFinite_1; rw [i_IsFinite_eq h]; rfl
theorem any_not {α : Type} (l : List α) (p : α → Bool) : l.any (fun x => !p x) = !l.all p := by
  induction l with
  | nil => rfl
  | cons a l ih => simp [ih]
theorem i_areFinite_eq {a : List F} (ha : FOks a) (sa : a.length ≤ 1048576) : i_areFinite a = some (a.all fin32) := by
  unfold i_areFinite x_slices_ContainsFunc_float32_float32_1Fi_areFinite_1 x_slices_IndexFunc_float32_float32_1Fi_areFinite_1
  obtain ⟨r, h1, h2⟩ := loop_find (l := a) (p := fun c => !fin32 c) (step := x_slices_IndexFunc_float32_float32_1Fi_areFinite_1_s1 a) (by
    intro v x h0 hv hx
    show x_slices_IndexFunc_float32_float32_1Fi_areFinite_1_b1 a v = _
    unfold x_slices_IndexFunc_float32_float32_1Fi_areFinite_1_b1
    rw [at?_of h0 hx, wrap_succ h0 hv (by omega)]
    simp [bsel_if, hv, i_areFinite_1_eq (ha.at hx)]) (by
    show x_slices_IndexFunc_float32_float32_1Fi_areFinite_1_b1 a (a.length : Int) = _
    unfold x_slices_IndexFunc_float32_float32_1Fi_areFinite_1_b1
    simp [bsel_if])
  rw [h1, any_not]
  cases h : a.all fin32 <;> simp [x_slices_IndexFunc_float32_float32_1Fi_areFinite_1_k1, h2]
def inR (lo hi n : Int) : Bool := decide (lo ≤ n) && decide (n ≤ hi)
theorem i_allIn_eq {a : List Int} (sa : a.length ≤ 1048576) (lo hi : Int) : i_allIn a lo hi = some (a.all (inR lo hi)) := by
  unfold i_allIn x_slices_ContainsFunc_int64_int64_1Fi_allIn_1 x_slices_IndexFunc_int64_int64_1Fi_allIn_1
  obtain ⟨r, h1, h2⟩ := loop_find (l := a) (p := fun c => !inR lo hi c) (step := x_slices_IndexFunc_int64_int64_1Fi_allIn_1_s1 a lo hi) (by
    intro v x h0 hv hx
    show x_slices_IndexFunc_int64_int64_1Fi_allIn_1_b1 a lo hi v = _
    unfold x_slices_IndexFunc_int64_int64_1Fi_allIn_1_b1
    rw [at?_of h0 hx, wrap_succ h0 hv (by omega)]
    simp only [obind_eq, olet_eq, i_allIn_1, i_inRange_eq, hv, decide_true, bsel_if]
    rfl) (by
    show x_slices_IndexFunc_int64_int64_1Fi_allIn_1_b1 a lo hi (a.length : Int) = _
    unfold x_slices_IndexFunc_int64_int64_1Fi_allIn_1_b1
    simp [bsel_if])
  rw [h1, any_not]
  cases h : a.all (inR lo hi) <;> simp [x_slices_IndexFunc_int64_int64_1Fi_allIn_1_k1, h2]
theorem fint_ok (n : Int) : FOk .f32 (fint .f32 n) := ⟨_, encode_FR .f32 (d := .number (n < 0) n.natAbs 0) rfl⟩
theorem feq_fint (n : Int) : feq .f32 (fint .f32 n) (fint .f32 n) = true := feq_refl (fint_ok n)
def marks (k : Int) (n : Nat) : List F := (List.range n).map fun (i : Nat) => fint .f32 (k + (i : Int))
def marksI (k : Int) (n : Nat) : List Int := (List.range n).map fun (i : Nat) => k + (i : Int)
theorem marks_len (k : Int) (n : Nat) : (marks k n).length = n := by simp [marks]
theorem marksI_len (k : Int) (n : Nat) : (marksI k n).length = n := by simp [marksI]
theorem loop_mark {α ρ : Type} (mk : Int → α) (k : Int) (n : Nat) {step : List α × Int × Int → Option (LR (List α × Int × Int) (List α × Int) ρ)}
    (hstep : ∀ (L : List α) (i : Nat), i < n → L.length = n → step (L, k + (i : Int), (i : Int)) = some (.next (L.set i (mk (k + (i : Int))), k + ((i + 1 : Nat) : Int), ((i + 1 : Nat) : Int))))
    (hend : ∀ L : List α, L.length = n → step (L, k + (n : Int), (n : Int)) = some (.out (L, k + (n : Int)))) (a : List α) (ha : a.length = n) :
    loopM step (a, k, 0) = some (.inl ((List.range n).map (fun (i : Nat) => mk (k + (i : Int))), k + (n : Int))) := by
  have key : ∀ (m i : Nat) (L : List α), m + i = n → L.length = n → L.take i = (List.range i).map (fun (i : Nat) => mk (k + (i : Int))) → loopM step (L, k + (i : Int), (i : Int)) = some (.inl ((List.range n).map (fun (i : Nat) => mk (k + (i : Int))), k + (n : Int))) := by
    intro m
    induction m with
    | zero =>
      intro i L hi hL ht
      have : i = n := by omega
      subst this
      rw [loopM_out (hend L hL), ← ht, ← hL, List.take_length]
    | succ m ih =>
      intro i L hi hL ht
      rw [loopM_next (hstep L i (by omega) hL)]
      refine ih (i + 1) _ (by omega) (by simpa using hL) ?_
      rw [List.take_succ_eq_append_getElem (by simp; omega), List.take_set_of_le (Nat.le_refl _), ht, List.range_succ, List.map_append]
      simp
  have := key n 0 a (by omega) ha (by simp)
  simpa using this
theorem w_markFloat32S_0o_eq (k : Int) (a : List F) (h0 : -1000000000 ≤ k) (h1 : k ≤ 1000000000) (ha : a.length ≤ 1048576) : w_markFloat32S_0o k a = some (k + (a.length : Int), marks k a.length) := by
  unfold w_markFloat32S_0o
  rw [loop_mark (fun n => fint .f32 n) k a.length (step := w_markFloat32S_0o_s1 a) ?_ ?_ a rfl]
  · rfl
  · intro L i hi hL
    show w_markFloat32S_0o_b1 a L (k + (i : Int)) (i : Int) = _
    unfold w_markFloat32S_0o_b1
    have hs := setAt?_of (l := L) (v := (i : Int)) (x := fint .f32 (k + (i : Int))) (by omega) (by omega)
    have e1 : IntKind.i64.wrap (k + (i : Int) + 1) = k + ((i + 1 : Nat) : Int) := by rw [wrap_i64 (by omega) (by omega)]; omega
    have e2 : IntKind.i64.wrap ((i : Int) + 1) = ((i + 1 : Nat) : Int) := by rw [wrap_i64 (by omega) (by omega)]; omega
    simp only [olet_eq, hs, obind_eq, e1, e2, bsel_if, decide_eq_true_eq]
    rw [if_pos (by omega)]
    rfl
  · intro L hL
    show w_markFloat32S_0o_b1 a L (k + (a.length : Int)) (a.length : Int) = _
    unfold w_markFloat32S_0o_b1
    simp [bsel_if]
theorem w_markInt64S_0o_eq (k : Int) (a : List Int) (h0 : -1000000000 ≤ k) (h1 : k ≤ 1000000000) (ha : a.length ≤ 1048576) : w_markInt64S_0o k a = some (k + (a.length : Int), marksI k a.length) := by
  unfold w_markInt64S_0o
  rw [loop_mark (fun n => n) k a.length (step := w_markInt64S_0o_s1 a) ?_ ?_ a rfl]
  · rfl
  · intro L i hi hL
    show w_markInt64S_0o_b1 a L (k + (i : Int)) (i : Int) = _
    unfold w_markInt64S_0o_b1
    have hs := setAt?_of (l := L) (v := (i : Int)) (x := k + (i : Int)) (by omega) (by omega)
    have e1 : IntKind.i64.wrap (k + (i : Int) + 1) = k + ((i + 1 : Nat) : Int) := by rw [wrap_i64 (by omega) (by omega)]; omega
    have e2 : IntKind.i64.wrap ((i : Int) + 1) = ((i + 1 : Nat) : Int) := by rw [wrap_i64 (by omega) (by omega)]; omega
    simp only [olet_eq, hs, obind_eq, e1, e2, bsel_if, decide_eq_true_eq]
    rw [if_pos (by omega)]
    rfl
  · intro L hL
    show w_markInt64S_0o_b1 a L (k + (a.length : Int)) (a.length : Int) = _
    unfold w_markInt64S_0o_b1
    simp [bsel_if]
theorem loop_held {k : Int} {n : Nat} {step : Int × Int → Option (LR (Int × Int) Int Int)}
    (hstep : ∀ i : Nat, i < n → step (k + (i : Int), (i : Int)) = some (.next (k + ((i + 1 : Nat) : Int), ((i + 1 : Nat) : Int)))) (hend : step (k + (n : Int), (n : Int)) = some (.out (k + (n : Int)))) :
    loopM step (k, 0) = some (.inl (k + (n : Int))) := by
  have key : ∀ (m i : Nat), m + i = n → loopM step (k + (i : Int), (i : Int)) = some (.inl (k + (n : Int))) := by
    intro m
    induction m with
    | zero => intro i hi; have : i = n := by omega
              subst this; exact loopM_out hend
    | succ m ih => intro i hi; rw [loopM_next (hstep i (by omega))]; exact ih (i + 1) (by omega)
  have := key n 0 (by omega)
  simpa using this
theorem w_heldFloat32S_eq (k : Int) (n : Nat) (h0 : -1000000000 ≤ k) (h1 : k ≤ 1000000000) (hn : n ≤ 1048576) : w_heldFloat32S (marks k n) k = some (k + (n : Int)) := by
  unfold w_heldFloat32S
  rw [loop_held (k := k) (n := n) (step := w_heldFloat32S_s1 (marks k n)) ?_ ?_]
  · rfl
  · intro i hi
    show w_heldFloat32S_b1 (marks k n) (k + (i : Int)) (i : Int) = _
    unfold w_heldFloat32S_b1
    have hx : (marks k n)[(i : Int).toNat]? = some (fint .f32 (k + (i : Int))) := by simp [marks, hi]
    have e1 : IntKind.i64.wrap (k + (i : Int) + 1) = k + ((i + 1 : Nat) : Int) := by rw [wrap_i64 (by omega) (by omega)]; omega
    have e2 : IntKind.i64.wrap ((i : Int) + 1) = ((i + 1 : Nat) : Int) := by rw [wrap_i64 (by omega) (by omega)]; omega
    rw [at?_of (by omega) hx]
    simp only [olet_eq, obind_eq, e1, e2, bsel_if, decide_eq_true_eq, marks_len, feq_fint]
    rw [if_pos (by omega)]
    simp
  · show w_heldFloat32S_b1 (marks k n) (k + (n : Int)) (n : Int) = _
    unfold w_heldFloat32S_b1
    simp [bsel_if, marks_len]
abbrev q1 : List F := [some 1073741824, some 1065353216, some 1065353216, some 1073741824]
abbrev q2 : List F := [some 1065353216, some 0]
abbrev q3 : List F := [some 1073741824, some 1073741824]
theorem FOks.getD {l : List F} (h : FOks l) (n : Nat) : FOk .f32 (l.getD n none) := by
  simp only [List.getD]
  cases e : l[n]? with
  | none => exact fok_none _
  | some c => exact h.at e
theorem FOks.set {l : List F} (h : FOks l) {n : Nat} {x : F} (hx : FOk .f32 x) : FOks (l.set n x) := by
  intro c hc
  rcases List.mem_or_eq_of_mem_set hc with h1 | h1
  · exact h c h1
  · exact h1 ▸ hx
theorem wsucc {i : Nat} (h : i ≤ 1000000000) : IntKind.i64.wrap ((i : Int) + 1) = ((i + 1 : Nat) : Int) := by
  rw [wrap_i64 (by omega) (by omega)]; omega
theorem dlt {i n : Nat} (h : i < n) : decide ((i : Int) < (n : Int)) = true := by simp; omega
theorem dnlt {n : Nat} : decide ((n : Int) < (n : Int)) = false := by simp
theorem i_mul_eq (a b : F) : i_mul a b = some (fop .mul .f32 a b) := rfl
theorem getD_of_lt {α : Type} {l : List α} {n : Nat} (d : α) (h : n < l.length) : l[n]? = some (l.getD n d) := by simp [List.getD, h]
theorem fin_all {L : List F} : L.all fin32 = true ↔ ∀ n, n < L.length → fin32 (L.getD n none) = true := by
  rw [List.all_eq_true]
  constructor
  · intro h n hn; exact h _ (List.mem_of_getElem? (getD_of_lt none hn))
  · intro h c hc
    obtain ⟨n, hn, e⟩ := List.mem_iff_getElem.1 hc
    have := h n hn
    simpa [List.getD, hn, e] using this
theorem ford_zero {x : F} (h : FOk .f32 x) (hf : fin32 x = true) : ∃ o, ford .f32 x (some 0) = some o := by
  cases x with
  | none => cases hf
  | some b =>
    have hn := h.some.2
    rcases read_cases (f := Ieee.single) (fmt_ok .f32) hn with ⟨g1, _⟩ | ⟨_, g2⟩
    · exact ⟨_, order_zero g1⟩
    · have : (Ieee.single.read b).isInfinity = true := by rw [g2]; rfl
      simp only [fin32, this] at hf
      cases hf
theorem least_eq {x : F} (h : FOk .f32 x) (hf : fin32 x = true) : fle .f32 (some 0) x = !flt .f32 x (some 0) := by
  obtain ⟨o, ho⟩ := ford_zero h hf
  unfold fle flt
  rw [ford_swap (a := x) (b := some 0), ho]
  cases o <;> rfl
theorem s_l02Least_eq {x : F} (h : FOk .f32 x) : s_l02Least x = some (fin32 x && !flt .f32 x (some 0)) := by
  unfold s_l02Least
  rw [s_l01Finite_eq h, obind_eq]
  cases hf : fin32 x with
  | false => rfl
  | true => rw [bsel_true, least_eq h hf]; rfl
theorem i_RootNumber_eq {y : F} (h : FOk .f32 y) : i_RootNumber y = some (rootN y) := by
  unfold i_RootNumber x_math_Sqrt
  rw [olet_eq, olet_eq, obind_eq, root_narrow h]; rfl
theorem s_l01Sqrt_eq {y : F} (h : FOk .f32 y) : s_l01Sqrt y = some (rootN y) := by
  unfold s_l01Sqrt x_math_Sqrt s_l01Narrow
  rw [olet_eq, olet_eq, obind_eq, root_narrow h]; rfl
theorem above_eq {x : F} (h : FOk .f32 x) (hf : fin32 x = true) : flt .f32 (some 0) x = !fle .f32 x (some 0) := by
  obtain ⟨o, ho⟩ := ford_zero h hf
  unfold fle flt
  rw [ford_swap (a := x) (b := some 0), ho]
  cases o <;> rfl
theorem run_map {α : Type} (f : Nat → α) : ∀ n : Nat, run (fun i (l : List α) => l ++ [f i]) 0 n [] = (List.range n).map f
  | 0 => rfl
  | n + 1 => by rw [run_last, run_map f n]; simp [List.range_succ]
def dotE (f g : Nat → F) (i : Nat) (y : F) : F := fop .add .f32 y (fop .mul .f32 (f i) (g i))
def dotN (f g : Nat → F) (n : Nat) : F := run (dotE f g) 0 n (some 0)
theorem zero_ok : FOk .f32 (some 0) := ⟨0, rfl, by decide, rfl⟩
theorem dotN_ok (f g : Nat → F) (n : Nat) : FOk .f32 (dotN f g n) := run_inv (fun _ y => FOk .f32 y) n 0 (some 0) zero_ok fun _ _ _ _ _ => fop_fok _ _ _
theorem i_dot_eq {l m : List F} (hl : l.length ≤ m.length) (hs : l.length ≤ 1000000) : i_dot l m = some (dotN (fun i => l.getD i none) (fun i => m.getD i none) l.length) := by
  obtain ⟨e, _⟩ := loop_run (step := i_dot_s1 l m) (fun (i : Nat) (y : F) => (y, (i : Int))) (dotE (fun i => l.getD i none) (fun i => m.getD i none)) (fun y => y) (fun _ _ => True) (lo := 0) (n := l.length) (Nat.zero_le _) (s0 := some 0) trivial
    (fun i y _ hi _ => by
      refine ⟨?_, trivial⟩
      show i_dot_b1 _ _ _ _ = _
      unfold i_dot_b1
      rw [dlt hi, bsel_true, at?_n none hi, obind_eq, at?_n none (by omega), obind_eq, i_mul_eq, obind_eq, olet_eq, wsucc (by omega)]
      rfl)
    (fun y _ => by
      show i_dot_b1 _ _ _ _ = _
      unfold i_dot_b1
      rw [dnlt, bsel_false])
  unfold i_dot
  replace e : loopM (i_dot_s1 l m) (some 0, 0) = some (.inl (run (dotE (fun i => l.getD i none) (fun i => m.getD i none)) 0 (l.length - 0) (some 0))) := e
  rw [e]; rfl
def allP (p : Nat → Bool) : Nat → Nat → Bool
  | _, 0 => true
  | i, m + 1 => p i && allP p (i + 1) m
theorem allP_iff {p : Nat → Bool} : ∀ (m i : Nat), allP p i m = true ↔ ∀ j, i ≤ j → j < i + m → p j = true
  | 0, i => ⟨fun _ j h1 h2 => by omega, fun _ => rfl⟩
  | m + 1, i => by
    simp only [allP, Bool.and_eq_true, allP_iff m (i + 1)]
    constructor
    · rintro ⟨h1, h2⟩ j h3 h4
      by_cases e : j = i
      · rw [e]; exact h1
      · exact h2 j (by omega) (by omega)
    · intro h
      exact ⟨h i (by omega) (by omega), fun j h1 h2 => h j (by omega) (by omega)⟩
theorem loop_test {S : Type} {step : S → Option (LR S Unit Bool)} (mk : Nat → S) (p : Nat → Bool) (Inv : Nat → Prop) {lo n : Nat} (hlo : lo ≤ n) (h0 : Inv lo)
    (hs : ∀ i, lo ≤ i → i < n → Inv i → step (mk i) = some (bif p i then .next (mk (i + 1)) else .ret false) ∧ (p i = true → Inv (i + 1))) (he : Inv n → step (mk n) = some (.out ())) :
    loopM step (mk lo) = some (bif allP p lo (n - lo) then .inl () else .inr false) := by
  have key : ∀ (m i : Nat), i + m = n → lo ≤ i → Inv i → loopM step (mk i) = some (bif allP p i m then .inl () else .inr false) := by
    intro m
    induction m with
    | zero =>
      intro i hi _ hI
      have : i = n := by omega
      subst this
      exact loopM_out (he hI)
    | succ m ih =>
      intro i hi hl hI
      obtain ⟨h1, h2⟩ := hs i hl (by omega) hI
      cases hp : p i with
      | true =>
        rw [hp, cond_true] at h1
        rw [loopM_next h1, ih (i + 1) (by omega) (by omega) (h2 hp)]
        simp only [allP, hp, Bool.true_and]
      | false =>
        rw [hp, cond_false] at h1
        rw [loopM_ret h1]
        simp only [allP, hp, Bool.false_and]; rfl
  exact key (n - lo) lo (by omega) (Nat.le_refl _) h0
abbrev gI (l : List Int) (i : Nat) : Int := l.getD i 0
structure SpIn (S : Nat) (a1 a2 : List Int) : Prop where
  S1 : 1 ≤ S
  S2 : S ≤ 32
  l1 : a1.length = S + 1
  l2 : a2.length ≤ 512
  z : gI a1 0 = 0
  e : gI a1 S = (a2.length : Int)
structure SpGood (S : Nat) (a1 a2 : List Int) : Prop where
  s : ∀ i, i < S → gI a1 i ≤ gI a1 (i + 1)
  c : ∀ k, k < a2.length → 0 ≤ gI a2 k ∧ gI a2 k ≤ (S : Int) - 1
  o : ∀ i, i < S → ∀ k : Nat, gI a1 i < (k : Int) → (k : Int) < gI a1 (i + 1) → gI a2 (k - 1) < gI a2 k
theorem SpGood.mono {S : Nat} {a1 a2 : List Int} (h : SpGood S a1 a2) : ∀ (d i : Nat), i + d ≤ S → gI a1 i ≤ gI a1 (i + d)
  | 0, i, _ => Int.le_refl _
  | d + 1, i, hd => Int.le_trans (h.mono d i (by omega)) (h.s (i + d) (by omega))
theorem SpGood.lo {S : Nat} {a1 a2 : List Int} (h : SpGood S a1 a2) (i0 : SpIn S a1 a2) {i : Nat} (hi : i ≤ S) : 0 ≤ gI a1 i ∧ gI a1 i ≤ (a2.length : Int) := by
  have h1 := h.mono i 0 (by omega)
  have h2 := h.mono (S - i) i (by omega)
  rw [Nat.zero_add, i0.z] at h1
  rw [show i + (S - i) = S by omega, i0.e] at h2
  exact ⟨h1, h2⟩
def spK (S : Nat) (a1 a2 : List Int) (i k : Nat) : Bool := inR 0 ((S : Int) - 1) (gI a2 k) && (bif decide (gI a1 i < (k : Int)) then !decide (gI a2 k ≤ gI a2 (k - 1)) else true)
def spRow (S : Nat) (a1 a2 : List Int) (i : Nat) : Bool := !decide (gI a1 (i + 1) < gI a1 i) && (!decide ((a2.length : Int) < gI a1 (i + 1)) && allP (spK S a1 a2 i) (gI a1 i).toNat ((gI a1 (i + 1)).toNat - (gI a1 i).toNat))
theorem s_l05Is_inner {S : Nat} {a1 a2 : List Int} (h : SpIn S a1 a2) {i : Nat} (hi : i < S) (h0 : 0 ≤ gI a1 i) (h1 : gI a1 i ≤ gI a1 (i + 1)) (h2 : gI a1 (i + 1) ≤ (a2.length : Int)) :
    loopM (s_l05Is_s6 (S : Int) a1 a2 (i : Int)) (gI a1 i) = some (bif allP (spK S a1 a2 i) (gI a1 i).toNat ((gI a1 (i + 1)).toNat - (gI a1 i).toNat) then .inl () else .inr false) := by
  have l1 := h.l1
  have l2 := h.l2
  have S2 := h.S2
  have S1 := h.S1
  have e := loop_test (step := s_l05Is_s6 (S : Int) a1 a2 (i : Int)) (fun (k : Nat) => (k : Int)) (spK S a1 a2 i) (fun _ => True) (lo := (gI a1 i).toNat) (n := (gI a1 (i + 1)).toNat) (by omega) trivial
    (fun k hk1 hk2 _ => by
      refine ⟨?_, fun _ => trivial⟩
      show s_l05Is_b6 _ _ _ _ _ = _
      unfold s_l05Is_b6
      have hkl : k < a2.length := by omega
      have hd : decide ((k : Int) < gI a1 (i + 1)) = true := decide_eq_true (by omega)
      have hw : IntKind.i64.wrap ((S : Int) - 1) = (S : Int) - 1 := wrap_i64 (by omega) (by omega)
      rw [wsucc (by omega), olet_eq, at?_n 0 (by omega), obind_eq, hd, bsel_true, at?_n 0 hkl, obind_eq, hw, olet_eq, s_l00In_eq, obind_eq]
      unfold spK inR
      cases hin : decide (0 ≤ gI a2 k) && decide (gI a2 k ≤ (S : Int) - 1) with
      | false => rfl
      | true =>
        rw [bsel_true, at?_n 0 (by omega), obind_eq, Bool.true_and]
        cases hlt : decide (gI a1 i < (k : Int)) with
        | false =>
          rw [bsel_false, cond_false, cond_true]
          unfold s_l05Is_k5
          rw [wsucc (by omega)]; rfl
        | true =>
          have hlt' : gI a1 i < (k : Int) := of_decide_eq_true hlt
          have hw2 : IntKind.i64.wrap ((k : Int) - 1) = ((k - 1 : Nat) : Int) := by rw [wrap_i64 (by omega) (by omega)]; omega
          rw [bsel_true, cond_true, obind_eq, hw2, olet_eq, at?_n 0 (by omega), obind_eq]
          unfold s_l05Is_k5
          rw [wsucc (by omega)]
          cases decide (gI a2 k ≤ gI a2 (k - 1)) <;> rfl)
    (fun _ => by
      show s_l05Is_b6 _ _ _ _ _ = _
      unfold s_l05Is_b6
      have hd : decide ((((gI a1 (i + 1)).toNat : Nat) : Int) < gI a1 (i + 1)) = false := decide_eq_false (by omega)
      rw [wsucc (by omega), olet_eq, at?_n 0 (by omega), obind_eq, hd, bsel_false])
  have hz : (((gI a1 i).toNat : Nat) : Int) = gI a1 i := by omega
  rw [hz] at e
  exact e
theorem s_l05Is_rows {S : Nat} {a1 a2 : List Int} (h : SpIn S a1 a2) : loopM (s_l05Is_s7 (S : Int) a1 a2) 0 = some (bif allP (spRow S a1 a2) 0 S then .inl () else .inr false) := by
  have l1 := h.l1
  have S2 := h.S2
  exact loop_test (step := s_l05Is_s7 (S : Int) a1 a2) (fun (i : Nat) => (i : Int)) (spRow S a1 a2) (fun i => 0 ≤ gI a1 i) (lo := 0) (n := S) (Nat.zero_le _) (by have := h.z; omega)
    (fun i _ hi h0 => by
      show s_l05Is_b7 _ _ _ _ = _ ∧ _
      unfold s_l05Is_b7 spRow
      rw [dlt hi, bsel_true, wsucc (by omega), olet_eq, at?_n 0 (by omega), obind_eq, at?_n 0 (by omega), obind_eq]
      cases h1 : decide (gI a1 (i + 1) < gI a1 i) with
      | true => exact ⟨rfl, fun e => by cases e⟩
      | false =>
        have h1' : gI a1 i ≤ gI a1 (i + 1) := by simpa using h1
        rw [bsel_false, olet_eq, at?_n 0 (by omega), obind_eq]
        cases h2 : decide ((a2.length : Int) < gI a1 (i + 1)) with
        | true => exact ⟨rfl, fun e => by cases e⟩
        | false =>
          have h2' : gI a1 (i + 1) ≤ (a2.length : Int) := by simpa using h2
          refine ⟨?_, fun _ => by omega⟩
          rw [bsel_false, obind_eq, s_l05Is_inner h hi h0 h1' h2', obind_eq]
          cases allP (spK S a1 a2 i) (gI a1 i).toNat ((gI a1 (i + 1)).toNat - (gI a1 i).toNat) with
          | false => rfl
          | true =>
            rw [cond_true, osum_inl]
            unfold s_l05Is_k6
            rw [wsucc (by omega)]; rfl)
    (fun _ => by
      show s_l05Is_b7 _ _ _ _ = _
      unfold s_l05Is_b7
      rw [dnlt, bsel_false])
theorem sp_cover {S : Nat} {a1 a2 : List Int} (h : SpIn S a1 a2) {k : Nat} (hk : k < a2.length) : ∀ n, n ≤ S → (k : Int) < gI a1 n → ∃ i, i < n ∧ gI a1 i ≤ (k : Int) ∧ (k : Int) < gI a1 (i + 1)
  | 0, _, h1 => by have := h.z; omega
  | n + 1, hn, h1 => by
    by_cases h2 : gI a1 n ≤ (k : Int)
    · exact ⟨n, by omega, h2, h1⟩
    · obtain ⟨i, hi, e⟩ := sp_cover h hk n (by omega) (by omega)
      exact ⟨i, by omega, e⟩
theorem spRows_iff {S : Nat} {a1 a2 : List Int} (h : SpIn S a1 a2) : allP (spRow S a1 a2) 0 S = true ↔ SpGood S a1 a2 := by
  have S1 := h.S1
  rw [allP_iff]
  constructor
  · intro H
    have row : ∀ i, i < S → gI a1 i ≤ gI a1 (i + 1) ∧ ∀ k : Nat, (gI a1 i).toNat ≤ k → k < (gI a1 i).toNat + ((gI a1 (i + 1)).toNat - (gI a1 i).toNat) → spK S a1 a2 i k = true := by
      intro i hi
      have := H i (by omega) (by omega)
      unfold spRow at this
      simp only [Bool.and_eq_true, Bool.not_eq_true', decide_eq_false_iff_not, allP_iff] at this
      exact ⟨by omega, this.2.2⟩
    have lo : ∀ i, i ≤ S → 0 ≤ gI a1 i := by
      intro i
      induction i with
      | zero => intro _; have := h.z; omega
      | succ i ih => intro hi; have := ih (by omega); have := (row i (by omega)).1; omega
    refine ⟨fun i hi => (row i hi).1, fun k hk => ?_, fun i hi k h1 h2 => ?_⟩
    · obtain ⟨i, hi, h1, h2⟩ := sp_cover h hk S (Nat.le_refl _) (by have := h.e; omega)
      have h0 := lo i (by omega)
      have := (row i hi).2 k (by omega) (by omega)
      unfold spK inR at this
      simp only [Bool.and_eq_true, decide_eq_true_eq] at this
      exact this.1
    · have h0 := lo i (by omega)
      have := (row i hi).2 k (by omega) (by omega)
      unfold spK at this
      simp only [Bool.and_eq_true] at this
      have h3 := this.2
      rw [decide_eq_true h1, cond_true] at h3
      simp at h3
      exact h3
  · intro G i _ hi
    have hi' : i < S := by omega
    have b1 := G.lo h (i := i) (by omega)
    have b2 := G.lo h (i := i + 1) (by omega)
    have b3 := G.s i hi'
    unfold spRow
    simp only [Bool.and_eq_true, Bool.not_eq_true', decide_eq_false_iff_not, allP_iff]
    refine ⟨by omega, by omega, fun k h1 h2 => ?_⟩
    have hk := G.c k (by omega)
    unfold spK inR
    simp only [Bool.and_eq_true, decide_eq_true_eq]
    refine ⟨hk, ?_⟩
    cases h3 : decide (gI a1 i < (k : Int)) with
    | false => rfl
    | true =>
      have := G.o i hi' k (of_decide_eq_true h3) (by omega)
      simp; exact this
def soJ (a1 : List Int) (j : Nat) : Bool := !decide (gI a1 (a1.length - 1 - j) < gI a1 (a1.length - 1 - j - 1))
theorem x_slices_IsSorted_int64_int64_rows {a1 : List Int} (h1 : 1 ≤ a1.length) (h2 : a1.length ≤ 1000) : x_slices_IsSorted_int64_int64 a1 = some (allP (soJ a1) 0 (a1.length - 1)) := by
  have e := loop_test (step := x_slices_IsSorted_int64_int64_s1 a1) (fun (j : Nat) => ((a1.length - 1 - j : Nat) : Int)) (soJ a1) (fun _ => True) (lo := 0) (n := a1.length - 1) (Nat.zero_le _) trivial
    (fun j _ hj _ => by
      refine ⟨?_, fun _ => trivial⟩
      show x_slices_IsSorted_int64_int64_b1 _ _ = _
      unfold x_slices_IsSorted_int64_int64_b1
      have hd : decide ((0 : Int) < ((a1.length - 1 - j : Nat) : Int)) = true := decide_eq_true (by omega)
      have hw : IntKind.i64.wrap (((a1.length - 1 - j : Nat) : Int) - 1) = ((a1.length - 1 - j - 1 : Nat) : Int) := by rw [wrap_i64 (by omega) (by omega)]; omega
      have hw2 : a1.length - 1 - j - 1 = a1.length - 1 - (j + 1) := by omega
      rw [hd, bsel_true, at?_n 0 (by omega), obind_eq, hw, olet_eq, at?_n 0 (by omega), obind_eq]
      unfold x_cmp_Less_int64 x_cmp_isNaN_int64 soJ
      have hs : ∀ x : Int, (!decide (x = x)) = false := fun x => by simp
      rw [hs, obind_eq, bsel_false, obind_eq, olet_eq, hw2]
      cases decide (gI a1 (a1.length - 1 - j) < gI a1 (a1.length - 1 - (j + 1))) <;> rfl)
    (fun _ => by
      show x_slices_IsSorted_int64_int64_b1 _ _ = _
      unfold x_slices_IsSorted_int64_int64_b1
      have hd : decide ((0 : Int) < ((a1.length - 1 - (a1.length - 1) : Nat) : Int)) = false := by simp
      rw [hd, bsel_false])
  unfold x_slices_IsSorted_int64_int64
  have hw : IntKind.i64.wrap ((a1.length : Int) - 1) = ((a1.length - 1 - 0 : Nat) : Int) := by rw [wrap_i64 (by omega) (by omega)]; omega
  rw [hw, olet_eq, e, obind_eq, Nat.sub_zero]
  cases allP (soJ a1) 0 (a1.length - 1) <;> rfl
def imK (a2 : List Int) (k : Nat) : Bool := !decide (gI a2 k ≤ gI a2 (k - 1))
def imRow (a1 a2 : List Int) (i : Nat) : Bool := allP (imK a2) ((gI a1 i).toNat + 1) ((gI a1 (i + 1)).toNat - ((gI a1 i).toNat + 1))
theorem i_ValidSparse_inner {S : Nat} {a1 a2 : List Int} (h : SpIn S a1 a2) {i : Nat} (hi : i < S) (h0 : 0 ≤ gI a1 i) (h1 : gI a1 i ≤ gI a1 (i + 1)) (h2 : gI a1 (i + 1) ≤ (a2.length : Int)) :
    loopM (i_ValidSparse_s2 a1 a2 (i : Int)) (gI a1 i + 1) = some (bif imRow a1 a2 i then .inl () else .inr false) := by
  have l1 := h.l1
  have l2 := h.l2
  have S2 := h.S2
  have hz : (((gI a1 i).toNat + 1 : Nat) : Int) = gI a1 i + 1 := by omega
  by_cases hlt : gI a1 i < gI a1 (i + 1)
  · have e := loop_test (step := i_ValidSparse_s2 a1 a2 (i : Int)) (fun (k : Nat) => (k : Int)) (imK a2) (fun _ => True) (lo := (gI a1 i).toNat + 1) (n := (gI a1 (i + 1)).toNat) (by omega) trivial
      (fun k hk1 hk2 _ => by
        refine ⟨?_, fun _ => trivial⟩
        show i_ValidSparse_b2 _ _ _ _ = _
        unfold i_ValidSparse_b2 imK
        have hkl : k < a2.length := by omega
        have hd : decide ((k : Int) < gI a1 (i + 1)) = true := decide_eq_true (by omega)
        have hw2 : IntKind.i64.wrap ((k : Int) - 1) = ((k - 1 : Nat) : Int) := by rw [wrap_i64 (by omega) (by omega)]; omega
        rw [wsucc (by omega), olet_eq, at?_n 0 (by omega), obind_eq, hd, bsel_true, hw2, olet_eq, at?_n 0 (by omega), obind_eq, at?_n 0 hkl, obind_eq, wsucc (by omega)]
        cases decide (gI a2 k ≤ gI a2 (k - 1)) <;> rfl)
      (fun _ => by
        show i_ValidSparse_b2 _ _ _ _ = _
        unfold i_ValidSparse_b2
        have hd : decide ((((gI a1 (i + 1)).toNat : Nat) : Int) < gI a1 (i + 1)) = false := decide_eq_false (by omega)
        rw [wsucc (by omega), olet_eq, at?_n 0 (by omega), obind_eq, hd, bsel_false])
    rw [hz] at e
    exact e
  · have hd : decide (gI a1 i + 1 < gI a1 (i + 1)) = false := decide_eq_false (by omega)
    have hq : (gI a1 (i + 1)).toNat - ((gI a1 i).toNat + 1) = 0 := by omega
    unfold imRow
    rw [hq]
    refine loopM_out ?_
    show i_ValidSparse_b2 _ _ _ _ = _
    unfold i_ValidSparse_b2
    rw [wsucc (by omega), olet_eq, at?_n 0 (by omega), obind_eq, hd, bsel_false]
theorem i_ValidSparse_rows {S : Nat} {a1 a2 : List Int} (h : SpIn S a1 a2) (hs : ∀ i, i < S → gI a1 i ≤ gI a1 (i + 1)) : loopM (i_ValidSparse_s3 (S : Int) a1 a2) 0 = some (bif allP (imRow a1 a2) 0 S then .inl () else .inr false) := by
  have l1 := h.l1
  have l2 := h.l2
  have S2 := h.S2
  have mono : ∀ (d i : Nat), i + d ≤ S → gI a1 i ≤ gI a1 (i + d) := by
    intro d
    induction d with
    | zero => intro i _; exact Int.le_refl _
    | succ d ih => intro i hd; exact Int.le_trans (ih i (by omega)) (hs (i + d) (by omega))
  have lo : ∀ i, i ≤ S → 0 ≤ gI a1 i ∧ gI a1 i ≤ (a2.length : Int) := by
    intro i hi
    have h1 := mono i 0 (by omega)
    have h2 := mono (S - i) i (by omega)
    rw [Nat.zero_add, h.z] at h1
    rw [show i + (S - i) = S by omega, h.e] at h2
    exact ⟨h1, h2⟩
  exact loop_test (step := i_ValidSparse_s3 (S : Int) a1 a2) (fun (i : Nat) => (i : Int)) (imRow a1 a2) (fun _ => True) (lo := 0) (n := S) (Nat.zero_le _) trivial
    (fun i _ hi _ => by
      refine ⟨?_, fun _ => trivial⟩
      show i_ValidSparse_b3 _ _ _ _ = _
      unfold i_ValidSparse_b3
      have b1 := lo i (by omega)
      have b2 := lo (i + 1) (by omega)
      have hw : IntKind.i64.wrap (gI a1 i + 1) = gI a1 i + 1 := wrap_i64 (by omega) (by omega)
      rw [dlt hi, bsel_true, at?_n 0 (by omega), obind_eq, hw, olet_eq, i_ValidSparse_inner h hi b1.1 (hs i hi) b2.2, obind_eq]
      cases imRow a1 a2 i with
      | false => rfl
      | true =>
        rw [cond_true, osum_inl]
        unfold i_ValidSparse_k2
        rw [wsucc (by omega)]; rfl)
    (fun _ => by
      show i_ValidSparse_b3 _ _ _ _ = _
      unfold i_ValidSparse_b3
      rw [dnlt, bsel_false])
theorem so_iff {S : Nat} {a1 a2 : List Int} (h : SpIn S a1 a2) : allP (soJ a1) 0 (a1.length - 1) = true ↔ ∀ i, i < S → gI a1 i ≤ gI a1 (i + 1) := by
  have l1 := h.l1
  rw [allP_iff]
  unfold soJ
  rw [l1]
  constructor
  · intro H i hi
    have := H (S - 1 - i) (by omega) (by omega)
    rw [show S + 1 - 1 - (S - 1 - i) = i + 1 by omega, show i + 1 - 1 = i by omega] at this
    simp at this
    exact this
  · intro H j _ hj
    have := H (S - 1 - j) (by omega)
    rw [show S - 1 - j + 1 = S + 1 - 1 - j by omega] at this
    rw [show S + 1 - 1 - j - 1 = S - 1 - j by omega]
    simp; exact this
open Classical in
noncomputable def validS (a0 : Int) (a1 a2 : List Int) (a3 : List F) : Bool := decide (∃ S : Nat, a0 = (S : Int) ∧ SpIn S a1 a2 ∧ SpGood S a1 a2 ∧ a3.length = a2.length ∧ a3.all fin32 = true)
theorem validS_of {a0 : Int} {a1 a2 : List Int} {a3 : List F} (h : ∃ S : Nat, a0 = (S : Int) ∧ SpIn S a1 a2 ∧ SpGood S a1 a2 ∧ a3.length = a2.length ∧ a3.all fin32 = true) : validS a0 a1 a2 a3 = true := by
  unfold validS
  classical exact decide_eq_true h
theorem validS_spec {a0 : Int} {a1 a2 : List Int} {a3 : List F} (h : validS a0 a1 a2 a3 = true) : ∃ S : Nat, a0 = (S : Int) ∧ SpIn S a1 a2 ∧ SpGood S a1 a2 ∧ a3.length = a2.length ∧ a3.all fin32 = true := by
  unfold validS at h
  classical exact of_decide_eq_true h
theorem s_l05Is_eq (a0 : Int) (a1 a2 : List Int) {a3 : List F} (g3 : FOks a3) (s3 : a3.length ≤ 1048576) (s1 : a1.length ≤ 1048576) : s_l05Is a0 a1 a2 a3 = some (validS a0 a1 a2 a3) := by
  have no : ∀ b : Bool, b = false → (∀ S : Nat, a0 = (S : Int) → SpIn S a1 a2 → SpGood S a1 a2 → a3.length = a2.length → a3.all fin32 = true → False) → some b = some (validS a0 a1 a2 a3) := by
    intro b hb h
    rw [hb]; congr 1; symm
    unfold validS
    rw [decide_eq_false_iff_not]
    rintro ⟨S, h1, h2, h3, h4, h5⟩
    exact h S h1 h2 h3 h4 h5
  unfold s_l05Is
  rw [s_l00In_eq, obind_eq]
  cases h0 : decide (1 ≤ a0) && decide (a0 ≤ 32) with
  | false =>
    refine no _ rfl fun S e h _ _ _ => ?_
    have := h.S1; have := h.S2
    subst e
    rw [decide_eq_true (by omega), decide_eq_true (by omega)] at h0; cases h0
  | true =>
    simp only [Bool.and_eq_true, decide_eq_true_eq] at h0
    obtain ⟨S, rfl⟩ : ∃ S : Nat, a0 = (S : Int) := ⟨a0.toNat, by omega⟩
    rw [bsel_true, wsucc (by omega), olet_eq]
    cases h1 : decide ((a1.length : Int) = ((S + 1 : Nat) : Int)) with
    | false =>
      refine no _ rfl fun S' e h _ _ _ => ?_
      have := h.l1
      rw [decide_eq_true (by omega)] at h1; cases h1
    | true =>
      have l1 : a1.length = S + 1 := by have := of_decide_eq_true h1; omega
      rw [Bool.not_true, bsel_false]
      cases h2 : decide ((512 : Int) < (a2.length : Int)) with
      | true =>
        refine no _ rfl fun S' e h _ _ _ => ?_
        have := h.l2
        have := of_decide_eq_true h2; omega
      | false =>
        have l2 : a2.length ≤ 512 := by have := of_decide_eq_false h2; omega
        rw [bsel_false]
        cases h3 : decide ((a3.length : Int) = (a2.length : Int)) with
        | false =>
          refine no _ rfl fun S' e h _ l _ => ?_
          rw [decide_eq_true (by omega)] at h3; cases h3
        | true =>
          have l3 : a3.length = a2.length := by have := of_decide_eq_true h3; omega
          rw [Bool.not_true, bsel_false, s_l02Finite_eq g3 s3, obind_eq]
          cases h4 : a3.all fin32 with
          | false => exact no _ rfl fun S' e h _ l f => by rw [h4] at f; cases f
          | true =>
            rw [bsel_true, show (0 : Int) = ((0 : Nat) : Int) from rfl, at?_n 0 (by omega), obind_eq]
            cases h5 : decide (gI a1 0 = ((0 : Nat) : Int)) with
            | false =>
              refine no _ rfl fun S' e h _ l f => ?_
              have := h.z
              rw [decide_eq_true (by omega)] at h5; cases h5
            | true =>
              have z : gI a1 0 = 0 := of_decide_eq_true h5
              rw [Bool.not_true, bsel_false, at?_n 0 (by omega), obind_eq]
              cases h6 : decide (gI a1 S = (a2.length : Int)) with
              | false =>
                refine no _ rfl fun S' e h _ l f => ?_
                have h7 := h.e
                have : S = S' := by omega
                subst this
                rw [decide_eq_true h7] at h6; cases h6
              | true =>
                have hS : SpIn S a1 a2 := ⟨by omega, by omega, l1, l2, z, of_decide_eq_true h6⟩
                have e := s_l05Is_rows hS
                rw [Bool.not_true, bsel_false, show ((0 : Nat) : Int) = 0 from rfl, e, obind_eq]
                cases hb : allP (spRow S a1 a2) 0 S with
                | false =>
                  refine no _ rfl fun S' e h G l f => ?_
                  have : S = S' := by omega
                  subst this
                  rw [(spRows_iff h).2 G] at hb; cases hb
                | true =>
                  rw [cond_true, osum_inl]
                  unfold s_l05Is_k7
                  congr 1; symm
                  exact validS_of ⟨S, rfl, hS, (spRows_iff hS).1 hb, l3, h4⟩
theorem i_ValidSparse_eq (a0 : Int) (a1 a2 : List Int) {a3 : List F} (g3 : FOks a3) (s3 : a3.length ≤ 1048576) (s1 : a1.length ≤ 1048576) (s2 : a2.length ≤ 1048576) : i_ValidSparse a0 a1 a2 a3 = some (validS a0 a1 a2 a3) := by
  have no : ∀ b : Bool, b = false → (∀ S : Nat, a0 = (S : Int) → SpIn S a1 a2 → SpGood S a1 a2 → a3.length = a2.length → a3.all fin32 = true → False) → some b = some (validS a0 a1 a2 a3) := by
    intro b hb h
    rw [hb]; congr 1; symm
    unfold validS
    rw [decide_eq_false_iff_not]
    rintro ⟨S, h1, h2, h3, h4, h5⟩
    exact h S h1 h2 h3 h4 h5
  unfold i_ValidSparse i_length_int64
  rw [obind_eq, i_inRange_eq, obind_eq]
  cases h0 : decide (1 ≤ a0) && decide (a0 ≤ 32) with
  | false =>
    refine no _ rfl fun S e h _ _ _ => ?_
    have := h.S1; have := h.S2
    subst e
    rw [decide_eq_true (by omega), decide_eq_true (by omega)] at h0; cases h0
  | true =>
    simp only [Bool.and_eq_true, decide_eq_true_eq] at h0
    obtain ⟨S, rfl⟩ : ∃ S : Nat, a0 = (S : Int) := ⟨a0.toNat, by omega⟩
    rw [bsel_true, obind_eq, wsucc (by omega), olet_eq]
    cases h1 : decide ((a1.length : Int) = ((S + 1 : Nat) : Int)) with
    | false =>
      refine no _ rfl fun S' e h _ _ _ => ?_
      have := h.l1
      rw [decide_eq_true (by omega)] at h1; cases h1
    | true =>
      have l1 : a1.length = S + 1 := by have := of_decide_eq_true h1; omega
      rw [Bool.not_true, bsel_false]
      cases h2 : decide ((512 : Int) < (a2.length : Int)) with
      | true =>
        refine no _ rfl fun S' e h _ _ _ => ?_
        have := h.l2
        have := of_decide_eq_true h2; omega
      | false =>
        have l2 : a2.length ≤ 512 := by have := of_decide_eq_false h2; omega
        rw [bsel_false]
        cases h3 : decide ((a3.length : Int) = (a2.length : Int)) with
        | false =>
          refine no _ rfl fun S' e h _ l _ => ?_
          rw [decide_eq_true (by omega)] at h3; cases h3
        | true =>
          have l3 : a3.length = a2.length := by have := of_decide_eq_true h3; omega
          rw [Bool.not_true, bsel_false, show (0 : Int) = ((0 : Nat) : Int) from rfl, at?_n 0 (by omega), obind_eq]
          cases h5 : decide (gI a1 0 = ((0 : Nat) : Int)) with
          | false =>
            refine no _ rfl fun S' e h _ l f => ?_
            have := h.z
            rw [decide_eq_true (by omega)] at h5; cases h5
          | true =>
            have z : gI a1 0 = 0 := of_decide_eq_true h5
            rw [Bool.not_true, bsel_false, at?_n 0 (by omega), obind_eq]
            cases h6 : decide (gI a1 S = (a2.length : Int)) with
            | false =>
              refine no _ rfl fun S' e h _ l f => ?_
              have h7 := h.e
              have : S = S' := by omega
              subst this
              rw [decide_eq_true h7] at h6; cases h6
            | true =>
              have hS : SpIn S a1 a2 := ⟨by omega, by omega, l1, l2, z, of_decide_eq_true h6⟩
              rw [Bool.not_true, bsel_false, x_slices_IsSorted_int64_int64_rows (by omega) (by omega), obind_eq]
              cases hb : allP (soJ a1) 0 (a1.length - 1) with
              | false =>
                refine no _ rfl fun S' e h G l f => ?_
                rw [(so_iff h).2 G.s] at hb; cases hb
              | true =>
                have hs := (so_iff hS).1 hb
                have hw : IntKind.i64.wrap ((S : Int) - 1) = (S : Int) - 1 := wrap_i64 (by omega) (by omega)
                rw [bsel_true, hw, olet_eq, i_allIn_eq s2, obind_eq]
                cases hc : a2.all (inR ((0 : Nat) : Int) ((S : Int) - 1)) with
                | false =>
                  refine no _ rfl fun S' e h G l f => ?_
                  have : S = S' := by omega
                  subst this
                  rw [← Bool.not_eq_true, List.all_eq_true] at hc
                  refine hc fun x hx => ?_
                  obtain ⟨k, hk, rfl⟩ := List.mem_iff_getElem.1 hx
                  have := G.c k hk
                  simp only [gI, List.getD, List.getElem?_eq_getElem hk, Option.getD_some] at this
                  unfold inR
                  simp only [Bool.and_eq_true, decide_eq_true_eq]
                  exact ⟨this.1, this.2⟩
                | true =>
                  rw [bsel_true, i_areFinite_eq g3 s3, obind_eq]
                  cases h4 : a3.all fin32 with
                  | false => exact no _ rfl fun S' e h _ l f => by rw [h4] at f; cases f
                  | true =>
                    have e := i_ValidSparse_rows hS hs
                    rw [bsel_true, show ((0 : Nat) : Int) = 0 from rfl, e, obind_eq]
                    have im : allP (imRow a1 a2) 0 S = true ↔ ∀ i, i < S → ∀ k : Nat, gI a1 i < (k : Int) → (k : Int) < gI a1 (i + 1) → gI a2 (k - 1) < gI a2 k := by
                      have lo0 : ∀ i, i ≤ S → 0 ≤ gI a1 i := by
                        intro i
                        induction i with
                        | zero => intro _; omega
                        | succ i ih => intro hi; have := ih (by omega); have := hs i (by omega); omega
                      rw [allP_iff]
                      constructor
                      · intro H i hi k k1 k2
                        have := H i (by omega) (by omega)
                        unfold imRow at this
                        rw [allP_iff] at this
                        have b := lo0 i (by omega)
                        have := this k (by omega) (by omega)
                        unfold imK at this
                        simp at this
                        exact this
                      · intro H i _ hi
                        unfold imRow
                        rw [allP_iff]
                        intro k k1 k2
                        have b := lo0 i (by omega)
                        have := H i (by omega) k (by omega) (by omega)
                        unfold imK
                        simp; exact this
                    cases hb2 : allP (imRow a1 a2) 0 S with
                    | false =>
                      refine no _ rfl fun S' e h G l f => ?_
                      have : S = S' := by omega
                      subst this
                      rw [im.2 G.o] at hb2; cases hb2
                    | true =>
                      rw [cond_true, osum_inl]
                      unfold i_ValidSparse_k3
                      congr 1; symm
                      refine validS_of ⟨S, rfl, hS, ⟨hs, fun k hk => ?_, im.1 hb2⟩, l3, h4⟩
                      have := List.all_eq_true.1 hc _ (List.getElem_mem hk)
                      unfold inR at this
                      simp only [Bool.and_eq_true, decide_eq_true_eq] at this
                      simp only [gI, List.getD, List.getElem?_eq_getElem hk, Option.getD_some]
                      exact ⟨this.1, this.2⟩
theorem narrow_sign {c m : Nat} {e : Int} (s1 : Ieee.double.read c = .number false m e) (s2 : m ≠ 0 → e + (m.log2 : Int) ≤ 64) : ∃ b, fnarrow (some c) = some (some b) ∧ wneg Ieee.single b = false := by
  have hfn : fnarrow (some c) = if (Ieee.single.read (Ieee.single.write (.number false m e))).isInfinity then none else some (some (Ieee.single.write (.number false m e))) := by
    have : FloatKind.f64.decode c = .number false m e := s1
    simp only [fnarrow]
    rw [this]; rfl
  obtain ⟨z, hz⟩ := narrow_num s1 s2
  rw [hz] at hfn
  split at hfn
  · cases hfn
  · rw [hz, hfn]
    refine ⟨_, rfl, ?_⟩
    show wneg Ieee.single (Ieee.single.nearest false m e) = false
    have hbn : Ieee.single.binade = 8388608 := rfl
    have hi : Ieee.single.infRung = 2139095040 := rfl
    have hw : ∀ r, r < 2147483648 → wneg Ieee.single r = false := by
      intro r hr
      unfold wneg
      rw [show Ieee.single.signWeight = 2147483648 from rfl, Nat.div_eq_of_lt hr]; rfl
    by_cases hm0 : m = 0
    · subst hm0
      have : Ieee.single.nearest false 0 e = Ieee.single.word false 0 := by unfold Ieee.Format.nearest; rw [if_pos rfl]
      rw [this]; rfl
    · obtain ⟨r, n1, n2⟩ := nearest_small Ieee.single false (m := m) (p := e) (K := 190) hm0 (by
        have hl : Ieee.single.leastPlace = -149 := rfl
        have hf : Ieee.single.fractionBits = 23 := rfl
        have := s2 hm0
        rw [hl, hf]; omega) (by rw [hbn, hi]; decide)
      rw [hbn] at n2
      rw [n1, word_false]; exact hw r (by omega)
theorem rootN_sign {y : F} (h : FOk .f32 y) : rootN y = none ∨ ∃ b, rootN y = some b ∧ (wneg Ieee.single b = false ∨ wrung Ieee.single b = 0) := by
  have key : fnarrow (fsqrt (fwiden y)) = some none ∨ ∃ b, fnarrow (fsqrt (fwiden y)) = some (some b) ∧ (wneg Ieee.single b = false ∨ wrung Ieee.single b = 0) := by
    cases y with
    | none => exact .inl rfl
    | some b =>
      have hn := h.some.2
      have hw : fwiden (some b) = some (Ieee.double.write (Ieee.single.read b)) := rfl
      have hsq : ∀ R, fsqrt (some R) = ((Ieee.double.read R).root 54).map Ieee.double.write := fun _ => rfl
      rw [hw, hsq]
      rcases read_cases (f := Ieee.single) (fmt_ok .f32) hn with ⟨g1, g2⟩ | ⟨g1, g2⟩
      · obtain ⟨m, a, e1, e2⟩ := read_fin Ieee.single g1
        rw [e1]
        by_cases h0 : m = 0
        · subst h0
          have e3 : Ieee.double.write (.number (wneg Ieee.single b) 0 (Ieee.single.leastPlace + (a : Int))) = Ieee.double.word (wneg Ieee.single b) 0 := by
            show Ieee.double.nearest _ 0 _ = _
            unfold Ieee.Format.nearest; rw [if_pos rfl]
          rw [e3]
          cases wneg Ieee.single b with
          | false => exact .inr ⟨0, rfl, .inl rfl⟩
          | true => exact .inr ⟨2147483648, rfl, .inr rfl⟩
        · obtain ⟨k1, k2, k3⟩ := single_num e1
          obtain ⟨R, r1, r2, r3, r4⟩ := widen_num (s := wneg Ieee.single b) k1 k2 k3 h0
          have e3 : Ieee.double.write (.number (wneg Ieee.single b) m (Ieee.single.leastPlace + (a : Int))) = Ieee.double.word (wneg Ieee.single b) R := r1
          rw [e3, r4]
          have hlog : m.log2 < 24 := log2_lt_of h0 k1
          generalize hM : m * 2 ^ (52 - m.log2) = M
          have hM0 : M ≠ 0 := by rw [← hM]; exact Nat.mul_ne_zero h0 (Nat.ne_of_gt (Nat.two_pow_pos _))
          have hMl : M.log2 = 52 := by rw [← hM, log2_mul_pow h0]; omega
          generalize hP : Ieee.single.leastPlace + (a : Int) + (m.log2 : Int) - 52 = P
          have hP1 : P ≤ 75 := by omega
          cases hs : wneg Ieee.single b with
          | true =>
            have : Ieee.Datum.root 54 (.number true M P) = none := by
              unfold Ieee.Datum.root
              dsimp only
              rw [if_neg hM0, if_pos rfl]
            rw [this]; exact .inl rfl
          | false =>
            obtain ⟨G, Q, q1, q2, q3⟩ := root_pos hM0 hMl hP1
            rw [q1]
            obtain ⟨m', e', s1, s2⟩ := read_nearest q2 q3
            obtain ⟨b, hb1, hb2⟩ := narrow_sign (c := Ieee.double.nearest false G Q) s1 s2
            exact .inr ⟨b, hb1, .inl hb2⟩
      · rw [g2]
        cases wneg Ieee.single b with
        | false => exact .inr ⟨Ieee.single.word false Ieee.single.infRung, rfl, .inl (by decide)⟩
        | true => exact .inl rfl
  rw [root_narrow h] at key
  rcases key with k | ⟨b, k, k2⟩
  · exact .inl (Option.some.inj k)
  · exact .inr ⟨b, Option.some.inj k, k2⟩
theorem rootN_above {y near : F} (h : FOk .f32 y) (hn : FOk .f32 near) (hf : fin32 near = true) (hl : flt .f32 near (some 0) = true) : fle .f32 (rootN y) near = false := by
  have hr := rootN_ok h
  rcases rootN_sign h with e | ⟨b, e, hs⟩
  · rw [e]; rfl
  · rw [e] at hr ⊢
    cases near with
    | none => rfl
    | some c =>
      have gc : wrung Ieee.single c < Ieee.single.infRung := by
        rcases read_cases (f := Ieee.single) (fmt_ok .f32) hn.some.2 with ⟨g1, _⟩ | ⟨_, g2⟩
        · exact g1
        · simp [fin32, g2, Ieee.Datum.isInfinity] at hf
      have hl' : (Ieee.single.order c 0 == some .lt) = true := hl
      rw [order_zero gc] at hl'
      have hneg : sval (wneg Ieee.single c) (rval Ieee.single (wrung Ieee.single c)) < 0 := by
        have : compare (sval (wneg Ieee.single c) (rval Ieee.single (wrung Ieee.single c))) 0 = .lt := by simpa using hl'
        exact Int.compare_eq_lt.1 this
      show (Ieee.single.order b c == some .lt || Ieee.single.order b c == some .eq) = false
      rcases read_cases (f := Ieee.single) (fmt_ok .f32) hr.some.2 with ⟨g1, _⟩ | ⟨g1, g2⟩
      · rw [order_fin Ieee.single g1 gc]
        have hpos : 0 ≤ sval (wneg Ieee.single b) (rval Ieee.single (wrung Ieee.single b)) := by
          rcases hs with hs | hs
          · rw [hs]; simp [sval]
          · rw [hs, rval_zero]; cases wneg Ieee.single b <;> simp [sval]
        have : compare (sval (wneg Ieee.single b) (rval Ieee.single (wrung Ieee.single b))) (sval (wneg Ieee.single c) (rval Ieee.single (wrung Ieee.single c))) = .gt := Int.compare_eq_gt.2 (by omega)
        rw [this]; rfl
      · have hsg : wneg Ieee.single b = false := by
          rcases hs with hs | hs
          · exact hs
          · rw [hs] at g1; exact absurd g1 (by decide)
        rw [hsg] at g2
        obtain ⟨m, a, e1, _⟩ := read_fin Ieee.single gc
        have : Ieee.single.order b c = some .gt := by
          unfold Ieee.Format.order
          rw [g2, e1]; rfl
        rw [this]; rfl
def dotL (l m : List F) : F := dotN (fun i => l.getD i none) (fun i => m.getD i none) l.length
theorem dotL_ok (l m : List F) : FOk .f32 (dotL l m) := dotN_ok _ _ _
theorem s_l02Dot_eq {l m : List F} (hl : l.length ≤ m.length) (hs : l.length ≤ 1000000) : s_l02Dot l m = some (dotL l m) := by
  obtain ⟨e, _⟩ := loop_run (step := s_l02Dot_s1 l m) (fun (i : Nat) (y : F) => (y, (i : Int))) (dotE (fun i => l.getD i none) (fun i => m.getD i none)) (fun y => y) (fun _ _ => True) (lo := 0) (n := l.length) (Nat.zero_le _) (s0 := some 0) trivial
    (fun i y _ hi _ => by
      refine ⟨?_, trivial⟩
      show s_l02Dot_b1 _ _ _ _ = _
      unfold s_l02Dot_b1
      rw [dlt hi, bsel_true, at?_n none hi, obind_eq, at?_n none (by omega), obind_eq, olet_eq, olet_eq, wsucc (by omega)]
      rfl)
    (fun y _ => by
      show s_l02Dot_b1 _ _ _ _ = _
      unfold s_l02Dot_b1
      rw [dnlt, bsel_false])
  unfold s_l02Dot
  replace e : loopM (s_l02Dot_s1 l m) (some 0, 0) = some (.inl (run (dotE (fun i => l.getD i none) (fun i => m.getD i none)) 0 (l.length - 0) (some 0))) := e
  rw [e]; rfl
theorem i_dotL_eq {l m : List F} (hl : l.length ≤ m.length) (hs : l.length ≤ 1000000) : i_dot l m = some (dotL l m) := i_dot_eq hl hs
def normL (r : List F) : F := rootN (dotL r r)
theorem s_l05Norm_eq {r : List F} (hs : r.length ≤ 1000000) : s_l05Norm r = some (normL r) := by
  unfold s_l05Norm
  rw [s_l02Dot_eq (Nat.le_refl _) hs, obind_eq, s_l01Sqrt_eq (dotL_ok _ _), obind_eq]; rfl
theorem i_norm_eq {r : List F} (hs : r.length ≤ 1000000) : i_norm r = some (normL r) := by
  unfold i_norm
  rw [i_dotL_eq (Nat.le_refl _) hs, obind_eq, i_RootNumber_eq (dotL_ok _ _), obind_eq]; rfl
def zipW (f : F → F → F) (n : Nat) (l m : List F) : List F := (List.range n).map fun i => f (l.getD i none) (m.getD i none)
theorem zipW_len {f : F → F → F} {n : Nat} {l m : List F} : (zipW f n l m).length = n := by simp [zipW]
theorem zipW_oks {f : F → F → F} {n : Nat} {l m : List F} (h : ∀ x y, FOk .f32 (f x y)) : FOks (zipW f n l m) := by
  intro c hc
  obtain ⟨i, _, rfl⟩ := List.mem_map.1 hc
  exact h _ _
theorem run_set (g : Nat → F → F) {n : Nat} {L : List F} (h : L.length = n) : run (fun i (L : List F) => L.set i (g i (L.getD i none))) 0 n L = (List.range n).map fun i => g i (L.getD i none) := by
  have := run_inv (f := fun i (L : List F) => L.set i (g i (L.getD i none))) (fun j L' => L'.length = n ∧ ∀ i, i < n → L'.getD i none = if i < j then g i (L.getD i none) else L.getD i none) n 0 L ⟨h, fun i _ => by simp⟩ (fun j L' _ hj hI => by
    refine ⟨by simp [hI.1], fun i hi => ?_⟩
    by_cases e : j = i
    · subst e
      have hl : j < L'.length := by rw [hI.1]; exact hi
      have := hI.2 j hi
      rw [if_neg (by omega)] at this
      rw [if_pos (by omega), List.getD_eq_getElem?_getD, List.getElem?_set_self hl, Option.getD_some, this]
    · have h1 := hI.2 i hi
      rw [List.getD_eq_getElem?_getD, List.getElem?_set_ne e, ← List.getD_eq_getElem?_getD, h1]
      by_cases e2 : i < j
      · rw [if_pos e2, if_pos (by omega)]
      · rw [if_neg e2, if_neg (by omega)])
  rw [Nat.zero_add] at this
  refine List.ext_getElem (by rw [this.1]; simp) fun i h1 h2 => ?_
  have hi : i < n := by rw [← this.1]; exact h1
  have e := this.2 i hi
  rw [if_pos hi, List.getD_eq_getElem?_getD, List.getElem?_eq_getElem h1, Option.getD_some] at e
  rw [e]; simp
theorem run_two {α β : Type} (f : Nat → α → α) (g : Nat → β → β) : ∀ (m i : Nat) (a : α) (b : β), run (fun i (t : α × β) => (f i t.1, g i t.2)) i m (a, b) = (run f i m a, run g i m b)
  | 0, _, _, _ => rfl
  | m + 1, i, a, b => by rw [run_succ, run_succ, run_succ]; exact run_two f g m (i + 1) _ _
def fma (t x y : F) : F := fop .add .f32 x (fop .mul .f32 t y)
def fms (t x y : F) : F := fop .sub .f32 x (fop .mul .f32 t y)
theorem fma_ok (t x y : F) : FOk .f32 (fma t x y) := fop_fok _ _ _
theorem fms_ok (t x y : F) : FOk .f32 (fms t x y) := fop_fok _ _ _
theorem i_plusTimes_eq {a b : List F} (t : F) (hl : a.length ≤ b.length) (hs : a.length ≤ 1000000) : i_plusTimes a t b = some (zipW (fma t) a.length a b) := by
  obtain ⟨e, _⟩ := loop_run (step := i_plusTimes_s1 a t b) (fun (i : Nat) (l : List F) => (l, (i : Int))) (fun i l => l ++ [fma t (a.getD i none) (b.getD i none)]) (fun l => l) (fun i l => l.length = i) (lo := 0) (n := a.length) (Nat.zero_le _) (s0 := []) rfl
    (fun i l _ hi hI => by
      refine ⟨?_, by simp [hI]⟩
      show i_plusTimes_b1 _ _ _ _ _ = _
      unfold i_plusTimes_b1
      have ap : apok 4 l.length 1 = true := by simp [apok, hI]; omega
      rw [dlt hi, bsel_true, at?_n none hi, obind_eq, at?_n none (by omega), obind_eq, i_mul_eq, obind_eq, olet_eq, ap, need_true, wsucc (by omega)]
      rfl)
    (fun l _ => by
      show i_plusTimes_b1 _ _ _ _ _ = _
      unfold i_plusTimes_b1
      rw [dnlt, bsel_false])
  unfold i_plusTimes
  replace e : loopM (i_plusTimes_s1 a t b) ([], 0) = some (.inl (run (fun i l => l ++ [fma t (a.getD i none) (b.getD i none)]) 0 (a.length - 0) [])) := e
  rw [Nat.sub_zero, run_map] at e
  rw [e]; rfl
theorem x_slices_Clone_float32_float32_eq {a : List F} (h : a.length ≤ 1048576) : x_slices_Clone_float32_float32 a = some a := by
  unfold x_slices_Clone_float32_float32
  have ap : apok 4 0 a.length = true := by simp [apok]; omega
  rw [ap, need_true, List.nil_append]
structure SpOk (S : Nat) (a1 a2 : List Int) (a3 : List F) : Prop where
  i : SpIn S a1 a2
  g : SpGood S a1 a2
  l : a3.length = a2.length
def rowE (a2 : List Int) (a3 p : List F) (k : Nat) (y : F) : F := fop .add .f32 y (fop .mul .f32 (a3.getD k none) (p.getD (gI a2 k).toNat none))
def rowT (a1 a2 : List Int) (a3 p : List F) (i : Nat) : F := run (rowE a2 a3 p) (gI a1 i).toNat ((gI a1 (i + 1)).toNat - (gI a1 i).toNat) (some 0)
def timesL (S : Nat) (a1 a2 : List Int) (a3 p : List F) : List F := (List.range S).map (rowT a1 a2 a3 p)
theorem timesL_len {S : Nat} {a1 a2 : List Int} {a3 p : List F} : (timesL S a1 a2 a3 p).length = S := by simp [timesL]
theorem at?_i {α : Type} {L : List α} {v : Int} (d : α) (h0 : 0 ≤ v) (h : v.toNat < L.length) : at? L v = some (L.getD v.toNat d) := at?_of h0 (by simp [List.getD, h])
theorem SpOk.row {S : Nat} {a1 a2 : List Int} {a3 : List F} (h : SpOk S a1 a2 a3) {i : Nat} (hi : i < S) : 0 ≤ gI a1 i ∧ gI a1 i ≤ gI a1 (i + 1) ∧ gI a1 (i + 1) ≤ (a2.length : Int) :=
  ⟨(h.g.lo h.i (by omega)).1, h.g.s i hi, (h.g.lo h.i (i := i + 1) (by omega)).2⟩
theorem s_l05Times_row {S : Nat} {a1 a2 : List Int} {a3 p : List F} (h : SpOk S a1 a2 a3) (hp : p.length = S) {i : Nat} (hi : i < S) : loopM (s_l05Times_s2 a1 a2 a3 p (i : Int)) (some 0, gI a1 i) = some (.inl (rowT a1 a2 a3 p i)) := by
  obtain ⟨r1, r2, r3⟩ := h.row hi
  have l1 := h.i.l1
  have l2 := h.i.l2
  have S2 := h.i.S2
  have e := (loop_run (step := s_l05Times_s2 a1 a2 a3 p (i : Int)) (fun (k : Nat) (y : F) => (y, (k : Int))) (rowE a2 a3 p) (fun y => y) (fun _ _ => True) (lo := (gI a1 i).toNat) (n := (gI a1 (i + 1)).toNat) (by omega) (s0 := some 0) trivial
    (fun k y hk1 hk2 _ => by
      refine ⟨?_, trivial⟩
      show s_l05Times_b2 _ _ _ _ _ _ _ = _
      unfold s_l05Times_b2
      have hkl : k < a2.length := by omega
      have hd : decide ((k : Int) < gI a1 (i + 1)) = true := decide_eq_true (by omega)
      obtain ⟨c1, c2⟩ := h.g.c k hkl
      rw [wsucc (by omega), olet_eq, at?_n 0 (by omega), obind_eq, hd, bsel_true, at?_n none (by rw [h.l]; exact hkl), obind_eq, at?_n 0 hkl, obind_eq, at?_i none c1 (by omega), obind_eq, olet_eq, olet_eq, wsucc (by omega)]
      rfl)
    (fun y _ => by
      show s_l05Times_b2 _ _ _ _ _ _ _ = _
      unfold s_l05Times_b2
      have hd : decide ((((gI a1 (i + 1)).toNat : Nat) : Int) < gI a1 (i + 1)) = false := decide_eq_false (by omega)
      rw [wsucc (by omega), olet_eq, at?_n 0 (by omega), obind_eq, hd, bsel_false])).1
  have hz : (((gI a1 i).toNat : Nat) : Int) = gI a1 i := by omega
  rw [hz] at e
  exact e
theorem i_Sparse_each_2Fi_Sparse_times_1_2c0p0_C0_row {S : Nat} {a1 a2 : List Int} {a3 p : List F} (h : SpOk S a1 a2 a3) (hp : p.length = S) {i : Nat} (hi : i < S) (r : Int) : i_Sparse_each_2Fi_Sparse_times_1_2c0p0_C0 r a1 a2 a3 (i : Int) p (some 0) = some (rowT a1 a2 a3 p i) := by
  obtain ⟨r1, r2, r3⟩ := h.row hi
  have l1 := h.i.l1
  have l2 := h.i.l2
  have S2 := h.i.S2
  have e := (loop_run (step := i_Sparse_each_2Fi_Sparse_times_1_2c0p0_C0_s1 a1 a2 a3 (i : Int) p) (fun (k : Nat) (y : F) => (y, (k : Int))) (rowE a2 a3 p) (fun y => y) (fun _ _ => True) (lo := (gI a1 i).toNat) (n := (gI a1 (i + 1)).toNat) (by omega) (s0 := some 0) trivial
    (fun k y hk1 hk2 _ => by
      refine ⟨?_, trivial⟩
      show i_Sparse_each_2Fi_Sparse_times_1_2c0p0_C0_b1 _ _ _ _ _ _ _ = _
      unfold i_Sparse_each_2Fi_Sparse_times_1_2c0p0_C0_b1 i_Sparse_times_1_2p0_C0
      have hkl : k < a2.length := by omega
      have hd : decide ((k : Int) < gI a1 (i + 1)) = true := decide_eq_true (by omega)
      obtain ⟨c1, c2⟩ := h.g.c k hkl
      rw [wsucc (by omega), olet_eq, at?_n 0 (by omega), obind_eq, hd, bsel_true, at?_n 0 hkl, obind_eq, at?_n none (by rw [h.l]; exact hkl), obind_eq, at?_i none c1 (by omega), obind_eq, i_mul_eq, obind_eq, olet_eq, obind_eq, wsucc (by omega)]
      rfl)
    (fun y _ => by
      show i_Sparse_each_2Fi_Sparse_times_1_2c0p0_C0_b1 _ _ _ _ _ _ _ = _
      unfold i_Sparse_each_2Fi_Sparse_times_1_2c0p0_C0_b1
      have hd : decide ((((gI a1 (i + 1)).toNat : Nat) : Int) < gI a1 (i + 1)) = false := decide_eq_false (by omega)
      rw [wsucc (by omega), olet_eq, at?_n 0 (by omega), obind_eq, hd, bsel_false])).1
  have hz : (((gI a1 i).toNat : Nat) : Int) = gI a1 i := by omega
  rw [hz] at e
  unfold i_Sparse_each_2Fi_Sparse_times_1_2c0p0_C0
  rw [at?_n 0 (by omega), obind_eq, e]; rfl
theorem s_l05Times_eq {S : Nat} {a1 a2 : List Int} {a3 p : List F} (h : SpOk S a1 a2 a3) (hp : p.length = S) : s_l05Times (S : Int) a1 a2 a3 p = some (timesL S a1 a2 a3 p) := by
  have l1 := h.i.l1
  have S2 := h.i.S2
  obtain ⟨e, _⟩ := loop_run (step := s_l05Times_s3 (S : Int) a1 a2 a3 p) (fun (i : Nat) (l : List F) => (l, (i : Int))) (fun i l => l ++ [rowT a1 a2 a3 p i]) (fun l => l) (fun i l => l.length = i) (lo := 0) (n := S) (Nat.zero_le _) (s0 := []) rfl
    (fun i l _ hi hI => by
      refine ⟨?_, by simp [hI]⟩
      show s_l05Times_b3 _ _ _ _ _ _ _ = _
      unfold s_l05Times_b3
      have ap : apok 4 l.length 1 = true := by simp [apok, hI]; omega
      rw [dlt hi, bsel_true, at?_n 0 (by omega), obind_eq, s_l05Times_row h hp hi, obind_eq, osum_inl]
      unfold s_l05Times_k2
      rw [ap, need_true, wsucc (by omega)]; rfl)
    (fun l _ => by
      show s_l05Times_b3 _ _ _ _ _ _ _ = _
      unfold s_l05Times_b3
      rw [dnlt, bsel_false])
  unfold s_l05Times
  replace e : loopM (s_l05Times_s3 (S : Int) a1 a2 a3 p) ([], 0) = some (.inl (run (fun i l => l ++ [rowT a1 a2 a3 p i]) 0 (S - 0) [])) := e
  rw [Nat.sub_zero, run_map] at e
  rw [e]; rfl
theorem i_Sparse_times_eq {S : Nat} {a1 a2 : List Int} {a3 p : List F} (h : SpOk S a1 a2 a3) (hp : p.length = S) : i_Sparse_times (S : Int) a1 a2 a3 p = some (timesL S a1 a2 a3 p) := by
  have S2 := h.i.S2
  obtain ⟨e, _⟩ := loop_run (step := i_Sparse_times_s1 (S : Int) a1 a2 a3 p) (fun (i : Nat) (l : List F) => (l, (i : Int))) (fun i l => l ++ [rowT a1 a2 a3 p i]) (fun l => l) (fun i l => l.length = i) (lo := 0) (n := S) (Nat.zero_le _) (s0 := []) rfl
    (fun i l _ hi hI => by
      refine ⟨?_, by simp [hI]⟩
      show i_Sparse_times_b1 _ _ _ _ _ _ _ = _
      unfold i_Sparse_times_b1
      have ap : apok 4 l.length 1 = true := by simp [apok, hI]; omega
      rw [dlt hi, bsel_true, i_Sparse_each_2Fi_Sparse_times_1_2c0p0_C0_row h hp hi, obind_eq, ap, need_true, wsucc (by omega)]; rfl)
    (fun l _ => by
      show i_Sparse_times_b1 _ _ _ _ _ _ _ = _
      unfold i_Sparse_times_b1
      rw [dnlt, bsel_false])
  unfold i_Sparse_times
  replace e : loopM (i_Sparse_times_s1 (S : Int) a1 a2 a3 p) ([], 0) = some (.inl (run (fun i l => l ++ [rowT a1 a2 a3 p i]) 0 (S - 0) [])) := e
  rw [Nat.sub_zero, run_map] at e
  rw [e]; rfl
abbrev GrS := List F × List F × List F × F
structure GInv (S : Nat) (s : GrS) : Prop where
  lx : s.1.length = S
  lr : s.2.1.length = S
  lp : s.2.2.1.length = S
  gx : FOks s.1
  gr : FOks s.2.1
  gp : FOks s.2.2.1
  ge : FOk .f32 s.2.2.2
def gX (S : Nat) (t : F) (s : GrS) : List F := zipW (fma t) S s.1 s.2.2.1
def gR (S : Nat) (q : List F) (t : F) (s : GrS) : List F := zipW (fms t) S s.2.1 q
def gEnd (S : Nat) (x r z : List F) (s : GrS) : GrS := (x, r, zipW (fma (fop .quo .f32 (dotL r z) s.2.2.2)) S z s.2.2.1, dotL r z)
theorem gEnd_inv {S : Nat} {x r z : List F} {s : GrS} (lx : x.length = S) (lr : r.length = S) (gx : FOks x) (gr : FOks r) : GInv S (gEnd S x r z s) :=
  ⟨lx, lr, zipW_len, gx, gr, zipW_oks fun _ _ => fma_ok _ _ _, dotL_ok _ _⟩
theorem s_l05Gradient_new {S : Nat} {r p q x : List F} {t : F} (hS : S ≤ 32) (lx : x.length = S) (lr : r.length = S) (lp : p.length = S) (lq : q.length = S) :
    loopM (s_l05Gradient_s8 (S : Int) r p q t) (x, [], 0) = some (.inl (zipW (fma t) S x p, zipW (fms t) S r q)) := by
  have e := (loop_run (step := s_l05Gradient_s8 (S : Int) r p q t) (fun (i : Nat) (s : List F × List F) => (s.1, s.2, (i : Int))) (fun i s => (s.1.set i (fma t (s.1.getD i none) (p.getD i none)), s.2 ++ [fms t (r.getD i none) (q.getD i none)])) (fun s => s) (fun i s => s.1.length = S ∧ s.2.length = i) (lo := 0) (n := S) (Nat.zero_le _) (s0 := (x, [])) ⟨lx, rfl⟩
    (fun i s _ hi hI => by
      refine ⟨?_, by simp [hI.1], by simp [hI.2]⟩
      show s_l05Gradient_b8 _ _ _ _ _ _ _ _ = _
      unfold s_l05Gradient_b8
      dsimp only
      have ap : apok 4 s.2.length 1 = true := by simp [apok, hI.2]; omega
      have hd : decide ((i : Int) < (((S : Int).toNat : Nat) : Int)) = true := decide_eq_true (by omega)
      rw [hd, bsel_true, at?_n none (by omega), obind_eq, at?_n none (by omega), obind_eq, olet_eq, olet_eq, setAt?_n _ (by omega), obind_eq, at?_n none (by omega), obind_eq, at?_n none (by omega), obind_eq, olet_eq, olet_eq, ap, need_true, wsucc (by omega)]
      rfl)
    (fun s _ => by
      show s_l05Gradient_b8 _ _ _ _ _ _ _ _ = _
      unfold s_l05Gradient_b8
      dsimp only
      have hd : decide ((S : Int) < (((S : Int).toNat : Nat) : Int)) = false := decide_eq_false (by omega)
      rw [hd, bsel_false])).1
  rw [Nat.sub_zero, run_two (fun i (l : List F) => l.set i (fma t (l.getD i none) (p.getD i none))) (fun i (l : List F) => l ++ [fms t (r.getD i none) (q.getD i none)]), run_set (fun i v => fma t v (p.getD i none)) lx, run_map] at e
  exact e
theorem s_l05Gradient_way {p z : List F} {t : F} (hp : p.length ≤ 32) (h : p.length ≤ z.length) : loopM (s_l05Gradient_s10 p z t) ([], 0) = some (.inl (zipW (fma t) p.length z p)) := by
  have e := (loop_run (step := s_l05Gradient_s10 p z t) (fun (i : Nat) (l : List F) => (l, (i : Int))) (fun i l => l ++ [fma t (z.getD i none) (p.getD i none)]) (fun l => l) (fun i l => l.length = i) (lo := 0) (n := p.length) (Nat.zero_le _) (s0 := []) rfl
    (fun i l _ hi hI => by
      refine ⟨?_, by simp [hI]⟩
      show s_l05Gradient_b10 _ _ _ _ _ = _
      unfold s_l05Gradient_b10
      have ap : apok 4 l.length 1 = true := by simp [apok, hI]; omega
      rw [dlt hi, bsel_true, at?_n none (by omega), obind_eq, at?_n none hi, obind_eq, olet_eq, olet_eq, ap, need_true, wsucc (by omega)]
      rfl)
    (fun l _ => by
      show s_l05Gradient_b10 _ _ _ _ _ = _
      unfold s_l05Gradient_b10
      rw [dnlt, bsel_false])).1
  rw [Nat.sub_zero, run_map] at e
  exact e
abbrev GLR := LR GrS (List F × List F × Int) (Int × Bool × List F)
def gBad : Int × Bool × List F := (0, false, [])
def gOf (S : Nat) (x r : List F) (s : GrS) : Option (List F) → GLR
  | some z => .next (gEnd S x r z s)
  | none => .ret gBad
def gDo (S : Nat) (of : List F → Option (List F)) (q : List F) (d : F) (s : GrS) : GLR :=
  bif flt .f32 (some 0) d && (fin32 d && fin32 s.2.2.2) then gOf S (gX S (fop .quo .f32 s.2.2.2 d) s) (gR S q (fop .quo .f32 s.2.2.2 d) s) s (of (gR S q (fop .quo .f32 s.2.2.2 d) s)) else .ret gBad
def gStep (S : Nat) (a1 a2 : List Int) (a3 : List F) (of : List F → Option (List F)) (near : F) (i : Nat) (s : GrS) : GLR :=
  bif flt .f32 near (normL s.2.1) then gDo S of (timesL S a1 a2 a3 s.2.2.1) (dotL s.2.2.1 (timesL S a1 a2 a3 s.2.2.1)) s else .out (s.1, s.2.1, (i : Int))
theorem gStep_spec {S i : Nat} {a1 a2 : List Int} {a3 : List F} {of : List F → Option (List F)} {near : F} {s : GrS} (h : GInv S s) : (∀ s', gStep S a1 a2 a3 of near i s = .next s' → GInv S s') ∧ (∀ e, gStep S a1 a2 a3 of near i s = .out e → FOks e.1 ∧ FOks e.2.1 ∧ e.1.length = S ∧ e.2.1.length = S) ∧ (∀ r, gStep S a1 a2 a3 of near i s = .ret r → r = gBad) := by
  unfold gStep
  cases flt .f32 near (normL s.2.1) with
  | false => exact ⟨fun s' e => by (cases e), fun e he => by cases he; exact ⟨h.gx, h.gr, h.lx, h.lr⟩, fun r e => by (cases e)⟩
  | true =>
    rw [cond_true]
    generalize timesL S a1 a2 a3 s.2.2.1 = q
    generalize dotL s.2.2.1 q = d
    unfold gDo
    cases flt .f32 (some 0) d && (fin32 d && fin32 s.2.2.2) with
    | false => exact ⟨fun s' e => by (cases e), fun e he => by (cases he), fun r e => by cases e; rfl⟩
    | true =>
      rw [cond_true]
      generalize fop .quo .f32 s.2.2.2 d = t
      cases of (gR S q t s) with
      | none => exact ⟨fun s' e => by (cases e), fun e he => by (cases he), fun r e => by cases e; rfl⟩
      | some z => exact ⟨fun s' e => by cases e; exact gEnd_inv zipW_len zipW_len (zipW_oks fun _ _ => fma_ok _ _ _) (zipW_oks fun _ _ => fms_ok _ _ _), fun e he => by (cases he), fun r e => by (cases e)⟩
theorem i_areFinite_two {a b : F} (ha : FOk .f32 a) (hb : FOk .f32 b) : i_areFinite ([a, b] : List F) = some (fin32 a && fin32 b) := by
  rw [i_areFinite_eq (fun c hc => by
    rcases List.mem_cons.1 hc with e | hc
    · rw [e]; exact ha
    · rw [List.mem_singleton.1 hc]; exact hb) (by simp)]
  simp
def gFin (near : F) : (List F × List F × Int) ⊕ (Int × Bool × List F) → Int × Bool × List F
  | .inl e => bif fle .f32 (normL e.2.1) near && e.1.all fin32 then (e.2.2, true, e.1) else gBad
  | .inr r => r
def gRun (S : Nat) (a1 a2 : List Int) (a3 : List F) (of : List F → Option (List F)) (near : F) (most : Nat) (s : GrS) : (List F × List F × Int) ⊕ (Int × Bool × List F) := runL (gStep S a1 a2 a3 of near) (fun s => (s.1, s.2.1, (most : Int))) 0 most s
theorem gRun_post {S most : Nat} {a1 a2 : List Int} {a3 : List F} {of : List F → Option (List F)} {near : F} {s : GrS} (h : GInv S s) : (∃ e, gRun S a1 a2 a3 of near most s = .inl e ∧ FOks e.1 ∧ FOks e.2.1 ∧ e.1.length = S ∧ e.2.1.length = S) ∨ gRun S a1 a2 a3 of near most s = .inr gBad := by
  rcases runL_post (f := gStep S a1 a2 a3 of near) (fin := fun s => (s.1, s.2.1, (most : Int))) (fun _ s => GInv S s) (fun e => FOks e.1 ∧ FOks e.2.1 ∧ e.1.length = S ∧ e.2.1.length = S) (fun r => r = gBad) most 0 s h (fun j s _ _ hI => gStep_spec hI) (fun s hI => ⟨hI.gx, hI.gr, hI.lx, hI.lr⟩) with ⟨e, h1, h2⟩ | ⟨r, h1, h2⟩
  · exact .inl ⟨e, h1, h2⟩
  · subst h2; exact .inr h1
theorem gFin_len {S most : Nat} {a1 a2 : List Int} {a3 : List F} {of : List F → Option (List F)} {near : F} {s : GrS} (h : GInv S s) (hS : S ≤ 32) : (gFin near (gRun S a1 a2 a3 of near most s)).2.2.length ≤ 1048576 := by
  rcases gRun_post (most := most) (of := of) (near := near) (a1 := a1) (a2 := a2) (a3 := a3) h with ⟨e, h1, _, _, h2, _⟩ | h1
  · rw [h1]
    simp only [gFin]
    cases fle .f32 (normL e.2.1) near && e.1.all fin32 with
    | false => simp [gBad]
    | true => show e.1.length ≤ _; omega
  · rw [h1]; simp [gFin, gBad]
theorem gFin_neg {S most : Nat} {a1 a2 : List Int} {a3 : List F} {of : List F → Option (List F)} {near : F} {s : GrS} (h : GInv S s) (hn : FOk .f32 near) (hf : fin32 near = true) (hl : flt .f32 near (some 0) = true) : gFin near (gRun S a1 a2 a3 of near most s) = gBad := by
  rcases gRun_post (most := most) (of := of) (near := near) (a1 := a1) (a2 := a2) (a3 := a3) h with ⟨e, h1, _, _, h2, _⟩ | h1
  · rw [h1]
    simp only [gFin, normL]
    rw [rootN_above (dotL_ok _ _) hn hf hl]; rfl
  · rw [h1]; rfl
theorem s_l05Fits_eq (a0 : Int) (a1 a2 : List Int) {a3 b : List F} (g3 : FOks a3) (gb : FOks b) (s1 : a1.length ≤ 1048576) (s3 : a3.length ≤ 1048576) (sb : b.length ≤ 1048576) : s_l05Fits a0 a1 a2 a3 b = some (validS a0 a1 a2 a3 && (decide ((b.length : Int) = a0) && b.all fin32)) := by
  unfold s_l05Fits
  rw [s_l05Is_eq a0 a1 a2 g3 s3 s1, obind_eq]
  cases validS a0 a1 a2 a3 with
  | false => rfl
  | true =>
    rw [bsel_true, s_l02Finite_eq gb sb, obind_eq]
    cases decide ((b.length : Int) = a0) <;> rfl
theorem i_Sparse_takes_eq (a0 : Int) (a1 a2 : List Int) {a3 b : List F} (g3 : FOks a3) (gb : FOks b) (s1 : a1.length ≤ 1048576) (s2 : a2.length ≤ 1048576) (s3 : a3.length ≤ 1048576) (sb : b.length ≤ 1048576) : i_Sparse_takes a0 a1 a2 a3 b = some (validS a0 a1 a2 a3 && (decide ((b.length : Int) = a0) && b.all fin32)) := by
  unfold i_Sparse_takes i_IsVector i_length_float32
  rw [i_ValidSparse_eq a0 a1 a2 g3 s3 s1 s2, obind_eq]
  cases hv : validS a0 a1 a2 a3 with
  | false => rfl
  | true =>
    obtain ⟨S, rfl, i, g, l, f⟩ := validS_spec hv
    have S1 := i.S1
    have S2 := i.S2
    rw [bsel_true, obind_eq, i_inRange_eq, obind_eq, i_areFinite_eq gb sb, obind_eq]
    by_cases hl : (b.length : Int) = (S : Int)
    · have e1 : (decide ((1 : Int) ≤ (b.length : Int)) && decide ((b.length : Int) ≤ 256)) = true := by rw [decide_eq_true (by omega), decide_eq_true (by omega)]; rfl
      rw [e1, bsel_true, obind_eq]
      cases b.all fin32 <;> simp [obind, bsel, hl]
    · cases decide ((1 : Int) ≤ (b.length : Int)) && decide ((b.length : Int) ≤ 256) <;> cases b.all fin32 <;> simp [obind, bsel, hl]
theorem obind3_id {α β γ : Type} (x : Option (α × β × γ)) : obind3 x (fun a b c => some (a, b, c)) = x := by
  cases x with
  | none => rfl
  | some p => rfl
theorem mkok_n {S k : Nat} (hS : S ≤ 1000) (hk : k ≤ 8) : mkok k (S : Int) = true := by
  have h : k * S ≤ 8 * 1000 := Nat.mul_le_mul hk hS
  unfold mkok
  rw [decide_eq_true (by omega), decide_eq_true (by omega), decide_eq_true (by rw [← Int.natCast_mul]; omega)]; rfl
theorem gInv0 {S : Nat} {b z : List F} {e : F} (lb : b.length = S) (lz : z.length = S) (gb : FOks b) (gz : FOks z) (ge : FOk .f32 e) : GInv S (List.replicate S (some 0), b, z, e) :=
  ⟨by simp, lb, lz, fun c hc => by rw [(List.mem_replicate.1 hc).2]; exact zero_ok, gb, gz, ge⟩
noncomputable def spT (a0 : Int) (a1 a2 : List Int) (a3 b : List F) : Bool := validS a0 a1 a2 a3 && (decide ((b.length : Int) = a0) && b.all fin32)
theorem spT_spec {a0 : Int} {a1 a2 : List Int} {a3 b : List F} (h : spT a0 a1 a2 a3 b = true) : ∃ S : Nat, a0 = (S : Int) ∧ SpOk S a1 a2 a3 ∧ b.length = S ∧ b.all fin32 = true := by
  unfold spT at h
  simp only [Bool.and_eq_true, decide_eq_true_eq] at h
  obtain ⟨hv, hl, hf⟩ := h
  obtain ⟨S, rfl, i, g, l, f⟩ := validS_spec hv
  exact ⟨S, rfl, ⟨i, g, l⟩, by omega, hf⟩
theorem quo_not_fin {a b : F} (ha : fin32 a = false) : fin32 (fop .quo .f32 a b) = false := by
  cases a with
  | none => rfl
  | some x =>
    cases b with
    | none => rfl
    | some y =>
      have hx : (Ieee.single.read x).isInfinity = true := by simpa [fin32] using ha
      have e : fop .quo .f32 (some x) (some y) = Ieee.single.div x y := rfl
      rw [e]
      unfold Ieee.Format.div
      cases hdx : Ieee.single.read x with
      | number s m i => rw [hdx] at hx; cases hx
      | nan s t => rw [hdx] at hx; cases hx
      | infinity s =>
        cases hdy : Ieee.single.read y with
        | number t n j => cases s <;> cases t <;> rfl
        | nan t u => rfl
        | infinity t => cases s <;> cases t <;> decide
def loK (a1 : List Int) (i : Nat) : Nat := (gI a1 i).toNat
def laK (a1 : List Int) (i : Nat) : Nat := (gI a1 (i + 1)).toNat - 1
def lowR (a1 a2 : List Int) (a3 : List F) (i : Nat) : Bool := !decide (gI a1 (i + 1) - 1 < gI a1 i) && (decide (gI a2 (laK a1 i) = (i : Int)) && flt .f32 (some 0) (a3.getD (laK a1 i) none))
theorem lowR_s {S : Nat} {a1 a2 : List Int} {a3 : List F} (ok : SpOk S a1 a2 a3) (g3 : FOks a3) (f3 : a3.all fin32 = true) {i : Nat} (hi : i < S) :
    s_l05Lower_b1 (S : Int) a1 a2 a3 (i : Int) = some (bif lowR a1 a2 a3 i then .next ((i + 1 : Nat) : Int) else .ret false) := by
  obtain ⟨r1, r2, r3⟩ := ok.row hi
  have l1 := ok.i.l1
  have l2 := ok.i.l2
  have S2 := ok.i.S2
  have hw : IntKind.i64.wrap (gI a1 (i + 1) - 1) = gI a1 (i + 1) - 1 := wrap_i64 (by omega) (by omega)
  unfold s_l05Lower_b1 lowR
  rw [dlt hi, bsel_true, wsucc (by omega), olet_eq, at?_n 0 (by omega), obind_eq, hw, olet_eq, at?_n 0 (by omega), obind_eq]
  cases h1 : decide (gI a1 (i + 1) - 1 < gI a1 i) with
  | true => rfl
  | false =>
    have h1' : gI a1 i ≤ gI a1 (i + 1) - 1 := by simpa using h1
    have hz : gI a1 (i + 1) - 1 = ((laK a1 i : Nat) : Int) := by unfold laK; omega
    have hk : laK a1 i < a2.length := by unfold laK; omega
    rw [hz, bsel_false, at?_n 0 hk, obind_eq]
    cases h2 : decide (gI a2 (laK a1 i) = (i : Int)) with
    | false => rfl
    | true =>
      have hk3 : laK a1 i < a3.length := by rw [ok.l]; exact hk
      have hf : fin32 (a3.getD (laK a1 i) none) = true := fin_all.1 f3 _ hk3
      rw [Bool.not_true, bsel_false, at?_n none hk3, obind_eq, olet_eq, above_eq (g3.getD _) hf]
      cases fle .f32 (a3.getD (laK a1 i) none) (some 0) <;> rfl
theorem lowR_i {S : Nat} {a1 a2 : List Int} {a3 : List F} (ok : SpOk S a1 a2 a3) (g3 : FOks a3) (f3 : a3.all fin32 = true) {i : Nat} (hi : i < S) :
    i_isLowerRoot_b1 (S : Int) a1 a2 a3 (i : Int) = some (bif lowR a1 a2 a3 i then .next ((i + 1 : Nat) : Int) else .ret false) := by
  obtain ⟨r1, r2, r3⟩ := ok.row hi
  have l1 := ok.i.l1
  have l2 := ok.i.l2
  have S2 := ok.i.S2
  have hw : IntKind.i64.wrap (gI a1 (i + 1) - 1) = gI a1 (i + 1) - 1 := wrap_i64 (by omega) (by omega)
  unfold i_isLowerRoot_b1 lowR
  rw [dlt hi, bsel_true, wsucc (by omega), olet_eq, at?_n 0 (by omega), obind_eq, hw, olet_eq, at?_n 0 (by omega), obind_eq]
  cases h1 : decide (gI a1 (i + 1) - 1 < gI a1 i) with
  | true => rfl
  | false =>
    have h1' : gI a1 i ≤ gI a1 (i + 1) - 1 := by simpa using h1
    have hz : gI a1 (i + 1) - 1 = ((laK a1 i : Nat) : Int) := by unfold laK; omega
    have hk : laK a1 i < a2.length := by unfold laK; omega
    rw [hz, bsel_false, at?_n 0 hk, obind_eq]
    cases h2 : decide (gI a2 (laK a1 i) = (i : Int)) with
    | false => rfl
    | true =>
      have hk3 : laK a1 i < a3.length := by rw [ok.l]; exact hk
      have hf : fin32 (a3.getD (laK a1 i) none) = true := fin_all.1 f3 _ hk3
      rw [Bool.not_true, bsel_false, at?_n none hk3, obind_eq, olet_eq, above_eq (g3.getD _) hf]
      cases fle .f32 (a3.getD (laK a1 i) none) (some 0) <;> rfl
noncomputable def lowT (a0 : Int) (a1 a2 : List Int) (a3 : List F) : Bool := allP (lowR a1 a2 a3) 0 a0.toNat
theorem s_l05Lower_eq {S : Nat} {a1 a2 : List Int} {a3 : List F} (ok : SpOk S a1 a2 a3) (g3 : FOks a3) (f3 : a3.all fin32 = true) : s_l05Lower (S : Int) a1 a2 a3 = some (lowT (S : Int) a1 a2 a3) := by
  have e := loop_test (step := s_l05Lower_s1 (S : Int) a1 a2 a3) (fun (i : Nat) => (i : Int)) (lowR a1 a2 a3) (fun _ => True) (lo := 0) (n := S) (Nat.zero_le _) trivial
    (fun i _ hi _ => ⟨lowR_s ok g3 f3 hi, fun _ => trivial⟩)
    (fun _ => by
      show s_l05Lower_b1 _ _ _ _ _ = _
      unfold s_l05Lower_b1
      rw [dnlt, bsel_false])
  unfold s_l05Lower lowT
  rw [Int.toNat_natCast]
  replace e : loopM (s_l05Lower_s1 (S : Int) a1 a2 a3) 0 = some (bif allP (lowR a1 a2 a3) 0 S then .inl () else .inr false) := e
  rw [e, obind_eq]
  cases allP (lowR a1 a2 a3) 0 S <;> rfl
theorem i_isLowerRoot_eq {S : Nat} {a1 a2 : List Int} {a3 : List F} (ok : SpOk S a1 a2 a3) (g3 : FOks a3) (f3 : a3.all fin32 = true) (hv : validS (S : Int) a1 a2 a3 = true) (s3 : a3.length ≤ 1048576) (s1 : a1.length ≤ 1048576) (s2 : a2.length ≤ 1048576) : i_isLowerRoot (S : Int) a1 a2 a3 = some (lowT (S : Int) a1 a2 a3) := by
  have e := loop_test (step := i_isLowerRoot_s1 (S : Int) a1 a2 a3) (fun (i : Nat) => (i : Int)) (lowR a1 a2 a3) (fun _ => True) (lo := 0) (n := S) (Nat.zero_le _) trivial
    (fun i _ hi _ => ⟨lowR_i ok g3 f3 hi, fun _ => trivial⟩)
    (fun _ => by
      show i_isLowerRoot_b1 _ _ _ _ _ = _
      unfold i_isLowerRoot_b1
      rw [dnlt, bsel_false])
  unfold i_isLowerRoot lowT
  rw [Int.toNat_natCast, i_ValidSparse_eq _ a1 a2 g3 s3 s1 s2, hv, obind_eq, bsel_true]
  replace e : loopM (i_isLowerRoot_s1 (S : Int) a1 a2 a3) 0 = some (bif allP (lowR a1 a2 a3) 0 S then .inl () else .inr false) := e
  rw [e, obind_eq]
  cases allP (lowR a1 a2 a3) 0 S <;> rfl
structure Root (S : Nat) (a1 a2 : List Int) (a3 : List F) : Prop where
  ok : SpOk S a1 a2 a3
  low : ∀ i, i < S → gI a1 i ≤ gI a1 (i + 1) - 1 ∧ gI a2 (laK a1 i) = (i : Int)
theorem root_of {S : Nat} {a1 a2 : List Int} {a3 : List F} (ok : SpOk S a1 a2 a3) (h : lowT (S : Int) a1 a2 a3 = true) : Root S a1 a2 a3 := by
  refine ⟨ok, fun i hi => ?_⟩
  unfold lowT at h
  rw [Int.toNat_natCast, allP_iff] at h
  have := h i (by omega) (by omega)
  unfold lowR at this
  simp only [Bool.and_eq_true, Bool.not_eq_true', decide_eq_false_iff_not, decide_eq_true_eq] at this
  exact ⟨by omega, this.2.1⟩
theorem Root.at {S : Nat} {a1 a2 : List Int} {a3 : List F} (h : Root S a1 a2 a3) {i : Nat} (hi : i < S) : loK a1 i ≤ laK a1 i ∧ laK a1 i < a2.length ∧ ((laK a1 i : Nat) : Int) = gI a1 (i + 1) - 1 ∧ ((loK a1 i : Nat) : Int) = gI a1 i := by
  obtain ⟨r1, r2, r3⟩ := h.ok.row hi
  obtain ⟨q1, _⟩ := h.low i hi
  unfold loK laK
  omega
theorem Root.col {S : Nat} {a1 a2 : List Int} {a3 : List F} (h : Root S a1 a2 a3) {i : Nat} (hi : i < S) : ∀ (d : Nat), d < laK a1 i - loK a1 i → 0 ≤ gI a2 (laK a1 i - 1 - d) ∧ gI a2 (laK a1 i - 1 - d) < (i : Int) := by
  obtain ⟨b1, b2, b3, b4⟩ := h.at hi
  have hl := (h.low i hi).2
  intro d
  induction d with
  | zero =>
    intro hd
    have := h.ok.g.o i hi (laK a1 i) (by omega) (by omega)
    exact ⟨(h.ok.g.c _ (by omega)).1, by rw [hl] at this; exact this⟩
  | succ d ih =>
    intro hd
    have h1 := ih (by omega)
    have := h.ok.g.o i hi (laK a1 i - 1 - d) (by omega) (by omega)
    rw [show laK a1 i - 1 - d - 1 = laK a1 i - 1 - (d + 1) by omega] at this
    exact ⟨(h.ok.g.c _ (by omega)).1, by omega⟩
theorem Root.colk {S : Nat} {a1 a2 : List Int} {a3 : List F} (h : Root S a1 a2 a3) {i k : Nat} (hi : i < S) (h1 : loK a1 i ≤ k) (h2 : k < laK a1 i) : 0 ≤ gI a2 k ∧ gI a2 k < (i : Int) := by
  have := h.col hi (laK a1 i - 1 - k) (by omega)
  rwa [show laK a1 i - 1 - (laK a1 i - 1 - k) = k by omega] at this
def fwE (a2 : List Int) (a3 y : List F) (k : Nat) (s : F) : F := fop .sub .f32 s (fop .mul .f32 (a3.getD k none) (y.getD (gI a2 k).toNat none))
def fwS (a1 a2 : List Int) (a3 y : List F) (b : F) (i : Nat) : F := run (fwE a2 a3 y) (loK a1 i) (laK a1 i - loK a1 i) b
def fwN (a1 a2 : List Int) (a3 : List F) (b : F) (i : Nat) (y : List F) : F := fop .quo .f32 (fwS a1 a2 a3 y b i) (a3.getD (laK a1 i) none)
def fwL (S : Nat) (a1 a2 : List Int) (a3 b : List F) : List F := run (fun i y => y ++ [fwN a1 a2 a3 (b.getD i none) i y]) 0 S []
def bwE (a2 : List Int) (a3 : List F) (i k : Nat) (y : List F) : List F := y.set (gI a2 k).toNat (fop .sub .f32 (y.getD (gI a2 k).toNat none) (fop .mul .f32 (a3.getD k none) (y.getD i none)))
def bwR (a1 a2 : List Int) (a3 : List F) (i : Nat) (y : List F) : List F := run (bwE a2 a3 i) (loK a1 i) (laK a1 i - loK a1 i) (y.set i (fop .quo .f32 (y.getD i none) (a3.getD (laK a1 i) none)))
def bwL (S : Nat) (a1 a2 : List Int) (a3 y : List F) : List F := run (fun j y => bwR a1 a2 a3 (S - 1 - j) y) 0 S y
def solL (S : Nat) (a1 a2 : List Int) (a3 b : List F) : List F := bwL S a1 a2 a3 (fwL S a1 a2 a3 b)
theorem fwL_len {S : Nat} {a1 a2 : List Int} {a3 b : List F} : (fwL S a1 a2 a3 b).length = S := by
  have := run_inv (f := fun i y => y ++ [fwN a1 a2 a3 (b.getD i none) i y]) (fun i y => y.length = i) S 0 [] rfl fun j s _ _ h => by simp [h]
  unfold fwL; omega
theorem bwE_len {a2 : List Int} {a3 y : List F} {i k : Nat} : (bwE a2 a3 i k y).length = y.length := by simp [bwE]
theorem bwR_len {a1 a2 : List Int} {a3 y : List F} {i : Nat} : (bwR a1 a2 a3 i y).length = y.length := by
  unfold bwR
  have := run_inv (f := bwE a2 a3 i) (fun _ z => z.length = y.length) (laK a1 i - loK a1 i) (loK a1 i) (y.set i (fop .quo .f32 (y.getD i none) (a3.getD (laK a1 i) none))) (by simp) fun j s _ _ h => by rw [bwE_len]; exact h
  exact this
theorem bwL_len {S : Nat} {a1 a2 : List Int} {a3 y : List F} : (bwL S a1 a2 a3 y).length = y.length :=
  run_inv (f := fun j y => bwR a1 a2 a3 (S - 1 - j) y) (fun _ z => z.length = y.length) S 0 y rfl fun j s _ _ h => by rw [bwR_len]; exact h
theorem solL_len {S : Nat} {a1 a2 : List Int} {a3 b : List F} : (solL S a1 a2 a3 b).length = S := by unfold solL; rw [bwL_len, fwL_len]
theorem oks_snoc {y : List F} {x : F} (h : FOks y) (hx : FOk .f32 x) : FOks (y ++ [x]) := by
  intro c hc
  rcases List.mem_append.1 hc with hc | hc
  · exact h c hc
  · rw [List.mem_singleton.1 hc]; exact hx
theorem fwL_oks {S : Nat} {a1 a2 : List Int} {a3 b : List F} : FOks (fwL S a1 a2 a3 b) :=
  run_inv (f := fun i y => y ++ [fwN a1 a2 a3 (b.getD i none) i y]) (fun _ y => FOks y) S 0 [] (fun c hc => by cases hc) fun j s _ _ h => oks_snoc h (fop_fok _ _ _)
theorem bwR_oks {a1 a2 : List Int} {a3 y : List F} {i : Nat} (h : FOks y) : FOks (bwR a1 a2 a3 i y) :=
  run_inv (f := bwE a2 a3 i) (fun _ z => FOks z) _ _ _ (h.set (fop_fok _ _ _)) fun j s _ _ h => h.set (fop_fok _ _ _)
theorem solL_oks {S : Nat} {a1 a2 : List Int} {a3 b : List F} : FOks (solL S a1 a2 a3 b) :=
  run_inv (f := fun j y => bwR a1 a2 a3 (S - 1 - j) y) (fun _ z => FOks z) S 0 _ fwL_oks fun j s _ _ h => bwR_oks h
theorem fwS_not {a1 a2 : List Int} {a3 y : List F} {b : F} {i : Nat} (h : fin32 b = false) : fin32 (fwS a1 a2 a3 y b i) = false :=
  run_inv (f := fwE a2 a3 y) (fun _ s => fin32 s = false) _ _ _ h fun _ _ _ _ h => sub_not_fin h
theorem fwL_not {S q : Nat} {a1 a2 : List Int} {a3 b : List F} (hq : q < S) (h : fin32 (b.getD q none) = false) : fin32 ((fwL S a1 a2 a3 b).getD q none) = false := by
  have := run_inv (f := fun i y => y ++ [fwN a1 a2 a3 (b.getD i none) i y]) (fun i y => y.length = i ∧ (q < i → fin32 (y.getD q none) = false)) S 0 [] ⟨rfl, fun h => by omega⟩ (fun j s _ _ hI => by
    refine ⟨by simp [hI.1], fun hj => ?_⟩
    rw [List.getD_eq_getElem?_getD]
    by_cases e : q = j
    · subst e
      rw [List.getElem?_append_right (by omega), hI.1, Nat.sub_self]
      exact quo_not_fin (fwS_not h)
    · rw [List.getElem?_append_left (by omega), ← List.getD_eq_getElem?_getD]
      exact hI.2 (by omega))
  exact this.2 (by omega)
theorem set_not {y : List F} {p q : Nat} {x : F} (h : fin32 (y.getD q none) = false) (hx : p = q → fin32 x = false) : fin32 ((y.set p x).getD q none) = false := by
  rw [List.getD_eq_getElem?_getD, List.getElem?_set]
  by_cases e : p = q
  · rw [if_pos e]
    split
    · exact hx e
    · rfl
  · rw [if_neg e, ← List.getD_eq_getElem?_getD]; exact h
theorem bwR_not {a1 a2 : List Int} {a3 y : List F} {i q : Nat} (h : fin32 (y.getD q none) = false) : fin32 ((bwR a1 a2 a3 i y).getD q none) = false :=
  run_inv (f := bwE a2 a3 i) (fun _ z => fin32 (z.getD q none) = false) _ _ _ (set_not h fun e => by rw [e]; exact quo_not_fin h) fun j s _ _ h => set_not h fun e => by rw [e]; exact sub_not_fin h
theorem solL_not {S : Nat} {a1 a2 : List Int} {a3 b : List F} (lb : b.length = S) (h : b.all fin32 = false) : (solL S a1 a2 a3 b).all fin32 = false := by
  cases hs : (solL S a1 a2 a3 b).all fin32 with
  | false => rfl
  | true =>
    exfalso
    have hb : ¬ b.all fin32 = true := by rw [h]; simp
    apply hb
    rw [fin_all]
    intro q hq
    cases hc : fin32 (b.getD q none) with
    | true => rfl
    | false =>
      have h1 := fwL_not (a1 := a1) (a2 := a2) (a3 := a3) (by omega : q < S) hc
      have h2 := run_inv (f := fun j y => bwR a1 a2 a3 (S - 1 - j) y) (fun _ z => fin32 (z.getD q none) = false) S 0 _ h1 fun j s _ _ h => bwR_not h
      have h3 := fin_all.1 hs q (by rw [solL_len]; omega)
      have h4 : fin32 ((solL S a1 a2 a3 b).getD q none) = false := h2
      rw [h3] at h4; cases h4
theorem s_l05Solve_row {S i : Nat} {a1 a2 : List Int} {a3 y : List F} {b : F} (h : Root S a1 a2 a3) (hi : i < S) (ly : y.length = i) : loopM (s_l05Solve_s2 a2 a3 y ((laK a1 i : Nat) : Int)) (b, gI a1 i) = some (.inl (fwS a1 a2 a3 y b i)) := by
  obtain ⟨b1, b2, b3, b4⟩ := h.at hi
  have l2 := h.ok.i.l2
  have e := (loop_run (step := s_l05Solve_s2 a2 a3 y ((laK a1 i : Nat) : Int)) (fun (k : Nat) (s : F) => (s, (k : Int))) (fwE a2 a3 y) (fun s => s) (fun _ _ => True) (lo := loK a1 i) (n := laK a1 i) b1 (s0 := b) trivial
    (fun k s hk1 hk2 _ => by
      refine ⟨?_, trivial⟩
      show s_l05Solve_b2 _ _ _ _ _ _ = _
      unfold s_l05Solve_b2
      have hk2' : k < a2.length := by omega
      obtain ⟨c1, c2⟩ := h.colk hi hk1 hk2
      rw [dlt hk2, bsel_true, at?_n none (by rw [h.ok.l]; exact hk2'), obind_eq, at?_n 0 hk2', obind_eq, at?_i none c1 (by omega), obind_eq, olet_eq, olet_eq, wsucc (by omega)]
      rfl)
    (fun s _ => by
      show s_l05Solve_b2 _ _ _ _ _ _ = _
      unfold s_l05Solve_b2
      rw [dnlt, bsel_false])).1
  rw [b4] at e
  exact e
theorem s_l05Solve_fwd {S : Nat} {a1 a2 : List Int} {a3 b : List F} (h : Root S a1 a2 a3) (lb : b.length = S) : loopM (s_l05Solve_s3 (S : Int) a1 a2 a3 b) ([], 0) = some (.inl (fwL S a1 a2 a3 b)) := by
  have l1 := h.ok.i.l1
  have l2 := h.ok.i.l2
  have S2 := h.ok.i.S2
  exact (loop_run (step := s_l05Solve_s3 (S : Int) a1 a2 a3 b) (fun (i : Nat) (y : List F) => (y, (i : Int))) (fun i y => y ++ [fwN a1 a2 a3 (b.getD i none) i y]) (fun y => y) (fun i y => y.length = i) (lo := 0) (n := S) (Nat.zero_le _) (s0 := []) rfl
    (fun i y _ hi ly => by
      refine ⟨?_, by simp [ly]⟩
      obtain ⟨b1, b2, b3, b4⟩ := h.at hi
      obtain ⟨r1, r2, r3⟩ := h.ok.row hi
      show s_l05Solve_b3 _ _ _ _ _ _ _ = _
      unfold s_l05Solve_b3
      have hw : IntKind.i64.wrap (gI a1 (i + 1) - 1) = ((laK a1 i : Nat) : Int) := by rw [wrap_i64 (by omega) (by omega), b3]
      have ap : apok 4 y.length 1 = true := by simp [apok, ly]; omega
      rw [dlt hi, bsel_true, at?_n none (by omega), obind_eq, wsucc (by omega), olet_eq, at?_n 0 (by omega), obind_eq, hw, olet_eq, at?_n 0 (by omega), obind_eq, s_l05Solve_row h hi ly, obind_eq, osum_inl]
      unfold s_l05Solve_k2
      rw [at?_n none (by rw [h.ok.l]; exact b2), obind_eq, olet_eq, ap, need_true, wsucc (by omega)]
      rfl)
    (fun y _ => by
      show s_l05Solve_b3 _ _ _ _ _ _ _ = _
      unfold s_l05Solve_b3
      rw [dnlt, bsel_false])).1
theorem s_l05Solve_brow {S i : Nat} {a1 a2 : List Int} {a3 y : List F} (h : Root S a1 a2 a3) (hi : i < S) (ly : y.length = S) : loopM (s_l05Solve_s5 a2 a3 (i : Int) ((laK a1 i : Nat) : Int)) (y, gI a1 i) = some (.inl (run (bwE a2 a3 i) (loK a1 i) (laK a1 i - loK a1 i) y)) := by
  obtain ⟨b1, b2, b3, b4⟩ := h.at hi
  have l2 := h.ok.i.l2
  have e := (loop_run (step := s_l05Solve_s5 a2 a3 (i : Int) ((laK a1 i : Nat) : Int)) (fun (k : Nat) (y : List F) => (y, (k : Int))) (bwE a2 a3 i) (fun y => y) (fun _ y => y.length = S) (lo := loK a1 i) (n := laK a1 i) b1 (s0 := y) ly
    (fun k y hk1 hk2 ly => by
      refine ⟨?_, by rw [bwE_len]; exact ly⟩
      show s_l05Solve_b5 _ _ _ _ _ _ = _
      unfold s_l05Solve_b5
      dsimp only
      have hk2' : k < a2.length := by omega
      obtain ⟨c1, c2⟩ := h.colk hi hk1 hk2
      have hc : (((gI a2 k).toNat : Nat) : Int) = gI a2 k := by omega
      rw [dlt hk2, bsel_true, at?_n 0 hk2', obind_eq, obind_eq, at?_i none c1 (by omega), obind_eq, at?_n none (by rw [h.ok.l]; exact hk2'), obind_eq, at?_n none (by omega), obind_eq, olet_eq, olet_eq]
      have hs : setAt? y (gI a2 k) (fop .sub .f32 (y.getD (gI a2 k).toNat none) (fop .mul .f32 (a3.getD k none) (y.getD i none))) = some (bwE a2 a3 i k y) := by
        have := setAt?_n (L := y) (i := (gI a2 k).toNat) (fop .sub .f32 (y.getD (gI a2 k).toNat none) (fop .mul .f32 (a3.getD k none) (y.getD i none))) (by omega)
        rw [hc] at this
        exact this
      rw [hs, obind_eq, wsucc (by omega)]
      rfl)
    (fun y _ => by
      show s_l05Solve_b5 _ _ _ _ _ _ = _
      unfold s_l05Solve_b5
      rw [dnlt, bsel_false])).1
  rw [b4] at e
  exact e
theorem down_w {S j : Nat} (hS : S ≤ 32) (hj : j < S) : IntKind.i64.wrap ((S : Int) - 1 - (j : Int) - 1) = (S : Int) - 1 - ((j + 1 : Nat) : Int) := by rw [wrap_i64 (by omega) (by omega)]; omega
theorem s_l05Solve_eq {S : Nat} {a1 a2 : List Int} {a3 b : List F} (h : Root S a1 a2 a3) (lb : b.length = S) : s_l05Solve (S : Int) a1 a2 a3 b = some (solL S a1 a2 a3 b) := by
  have l1 := h.ok.i.l1
  have l2 := h.ok.i.l2
  have S1 := h.ok.i.S1
  have S2 := h.ok.i.S2
  have e := (loop_run (step := s_l05Solve_s6 a1 a2 a3) (fun (j : Nat) (y : List F) => (y, (S : Int) - 1 - (j : Int))) (fun j y => bwR a1 a2 a3 (S - 1 - j) y) (fun y => y) (fun _ y => y.length = S) (lo := 0) (n := S) (Nat.zero_le _) (s0 := fwL S a1 a2 a3 b) fwL_len
    (fun j y _ hj ly => by
      refine ⟨?_, by rw [bwR_len]; exact ly⟩
      have hi : S - 1 - j < S := by omega
      have hz : (S : Int) - 1 - (j : Int) = ((S - 1 - j : Nat) : Int) := by omega
      obtain ⟨b1, b2, b3, b4⟩ := h.at hi
      obtain ⟨r1, r2, r3⟩ := h.ok.row hi
      show s_l05Solve_b6 _ _ _ _ _ = _
      unfold s_l05Solve_b6
      dsimp only
      rw [show IntKind.i64.wrap ((S : Int) - 1 - (j : Int) + 1) = ((S - 1 - j + 1 : Nat) : Int) by rw [wrap_i64 (by omega) (by omega)]; omega]
      have hd : decide ((0 : Int) ≤ (S : Int) - 1 - (j : Int)) = true := decide_eq_true (by omega)
      have hw : IntKind.i64.wrap (gI a1 (S - 1 - j + 1) - 1) = ((laK a1 (S - 1 - j) : Nat) : Int) := by rw [wrap_i64 (by omega) (by omega), b3]
      rw [hd, bsel_true, olet_eq, at?_n 0 (by omega), obind_eq, hw, olet_eq, hz, at?_n none (by omega), obind_eq, at?_n none (by rw [h.ok.l]; exact b2), obind_eq, olet_eq, setAt?_n _ (by omega), obind_eq, at?_n 0 (by omega), obind_eq, s_l05Solve_brow h hi (by simp [ly]), obind_eq, osum_inl]
      unfold s_l05Solve_k5
      rw [← hz, down_w S2 hj]
      rfl)
    (fun y _ => by
      show s_l05Solve_b6 _ _ _ _ _ = _
      unfold s_l05Solve_b6
      rw [show decide ((0 : Int) ≤ (S : Int) - 1 - (S : Int)) = false from decide_eq_false (by omega), bsel_false])).1
  unfold s_l05Solve
  rw [s_l05Solve_fwd h lb, obind_eq, osum_inl]
  unfold s_l05Solve_k3
  have hz : (S : Int) - 1 - ((0 : Nat) : Int) = (S : Int) - 1 := by omega
  have hw : IntKind.i64.wrap ((S : Int) - 1) = (S : Int) - 1 := wrap_i64 (by omega) (by omega)
  rw [hz] at e
  rw [hw, olet_eq, e, obind_eq, osum_inl]
  rfl
def upI {σ : Type} (n : Nat) (f : Nat → σ → σ) (k : Nat) (s : σ) : σ := if k < n then f k s else s
theorem run_upI {σ : Type} (f : Nat → σ → σ) {lo n : Nat} (h : lo ≤ n) (s : σ) : run (upI n f) lo (n + 1 - lo) s = run f lo (n - lo) s := by
  rw [show n + 1 - lo = (n - lo) + 1 by omega, run_last]
  have e := run_congr (f := upI n f) (g := f) (fun _ _ => True) (n - lo) lo s trivial fun j s h1 h2 _ => ⟨by unfold upI; rw [if_pos (by omega)], trivial⟩
  rw [e]
  unfold upI
  rw [if_neg (by omega)]
theorem mid_at {y t : List F} {s : F} {i : Nat} (h : y.length = i) : (y ++ s :: t).getD i none = s := by
  rw [List.getD_eq_getElem?_getD, List.getElem?_append_right (by omega), h, Nat.sub_self]; rfl
theorem mid_low {y t : List F} {s : F} {i c : Nat} (h : y.length = i) (hc : c < i) : (y ++ s :: t).getD c none = y.getD c none := by
  rw [List.getD_eq_getElem?_getD, List.getElem?_append_left (by omega), ← List.getD_eq_getElem?_getD]
theorem mid_set {y t : List F} {s v : F} {i : Nat} (h : y.length = i) : (y ++ s :: t).set i v = y ++ v :: t := by
  rw [List.set_append_right _ _ (by omega), h, Nat.sub_self]; rfl
theorem i_each_fwd {S i : Nat} {a1 a2 : List Int} {a3 y t : List F} {b : F} (h : Root S a1 a2 a3) (hi : i < S) (ly : y.length = i) (lt : i + 1 + t.length = S) (r : Int) :
    i_Sparse_each_2Fi_SparseRootSolve_2_2c0p0_2c1p1_C0_C10o2 r a1 a2 a3 (i : Int) (i : Int) (y ++ b :: t) = some (y ++ fwS a1 a2 a3 y b i :: t) := by
  obtain ⟨b1, b2, b3, b4⟩ := h.at hi
  obtain ⟨r1, r2, r3⟩ := h.ok.row hi
  have l1 := h.ok.i.l1
  have l2 := h.ok.i.l2
  have S2 := h.ok.i.S2
  have key : ∀ l6 : List F, l6.length = S → loopM (i_Sparse_each_2Fi_SparseRootSolve_2_2c0p0_2c1p1_C0_C10o2_s1 a1 a2 a3 (i : Int) (i : Int) l6) (y ++ b :: t, gI a1 i) = some (.inl (y ++ fwS a1 a2 a3 y b i :: t)) := by
    intro l6 l6l
    have e := (loop_run (step := i_Sparse_each_2Fi_SparseRootSolve_2_2c0p0_2c1p1_C0_C10o2_s1 a1 a2 a3 (i : Int) (i : Int) l6) (fun (k : Nat) (s : F) => (y ++ s :: t, (k : Int))) (upI (laK a1 i) (fwE a2 a3 y)) (fun s => y ++ s :: t) (fun _ _ => True) (lo := loK a1 i) (n := laK a1 i + 1) (by omega) (s0 := b) trivial
      (fun k s hk1 hk2 _ => by
        refine ⟨?_, trivial⟩
        show i_Sparse_each_2Fi_SparseRootSolve_2_2c0p0_2c1p1_C0_C10o2_b1 _ _ _ _ _ _ _ _ = _
        unfold i_Sparse_each_2Fi_SparseRootSolve_2_2c0p0_2c1p1_C0_C10o2_b1 i_SparseRootSolve_2_2p0_3p1_C0_C10o2
        dsimp only
        have hk2' : k < a2.length := by omega
        have hd : decide ((k : Int) < gI a1 (i + 1)) = true := decide_eq_true (by omega)
        have ll : ∀ v : F, (y ++ v :: t).length = S := fun v => by simp; omega
        rw [wsucc (by omega), olet_eq, at?_n 0 (by omega), obind_eq, hd, bsel_true, at?_n 0 hk2', obind_eq, at?_n none (by rw [h.ok.l]; exact hk2'), obind_eq]
        by_cases e : k < laK a1 i
        · obtain ⟨c1, c2⟩ := h.colk hi hk1 e
          have hc : decide (gI a2 k < (i : Int)) = true := decide_eq_true c2
          have hl := ll s
          rw [hc, bsel_true, at?_n none (by omega), obind_eq, at?_i none c1 (by omega), obind_eq, i_mul_eq, obind_eq, olet_eq, setAt?_n _ (by omega), obind_eq, obind_eq, mid_at ly, mid_low ly (by omega), mid_set ly, ll, l6l, decide_eq_true rfl, need_true, wsucc (by omega)]
          unfold upI
          rw [if_pos e]
          rfl
        · have e' : k = laK a1 i := by omega
          have hc : decide (gI a2 k < (i : Int)) = false := by rw [e', (h.low i hi).2]; exact decide_eq_false (by omega)
          rw [hc, bsel_false, obind_eq, ll, l6l, decide_eq_true rfl, need_true, wsucc (by omega)]
          unfold upI
          rw [if_neg e]; rfl)
      (fun s _ => by
        show i_Sparse_each_2Fi_SparseRootSolve_2_2c0p0_2c1p1_C0_C10o2_b1 _ _ _ _ _ _ _ _ = _
        unfold i_Sparse_each_2Fi_SparseRootSolve_2_2c0p0_2c1p1_C0_C10o2_b1
        have hd : decide (((laK a1 i + 1 : Nat) : Int) < gI a1 (i + 1)) = false := decide_eq_false (by omega)
        rw [wsucc (by omega), olet_eq, at?_n 0 (by omega), obind_eq, hd, bsel_false])).1
    rw [run_upI _ b1, b4] at e
    exact e
  unfold i_Sparse_each_2Fi_SparseRootSolve_2_2c0p0_2c1p1_C0_C10o2
  rw [at?_n 0 (by omega), obind_eq, key _ (by simp; omega)]; rfl
theorem i_each_bwd {S i : Nat} {a1 a2 : List Int} {a3 y : List F} (h : Root S a1 a2 a3) (hi : i < S) (ly : y.length = S) (r : Int) :
    i_Sparse_each_2Fi_SparseRootSolve_3_2c0p0_2c1p1_C0_C10o2 r a1 a2 a3 (i : Int) (i : Int) y = some (run (bwE a2 a3 i) (loK a1 i) (laK a1 i - loK a1 i) y) := by
  obtain ⟨b1, b2, b3, b4⟩ := h.at hi
  obtain ⟨r1, r2, r3⟩ := h.ok.row hi
  have l1 := h.ok.i.l1
  have l2 := h.ok.i.l2
  have S2 := h.ok.i.S2
  have key : ∀ l6 : List F, l6.length = S → loopM (i_Sparse_each_2Fi_SparseRootSolve_3_2c0p0_2c1p1_C0_C10o2_s1 a1 a2 a3 (i : Int) (i : Int) l6) (y, gI a1 i) = some (.inl (run (bwE a2 a3 i) (loK a1 i) (laK a1 i - loK a1 i) y)) := by
    intro l6 l6l
    have e := (loop_run (step := i_Sparse_each_2Fi_SparseRootSolve_3_2c0p0_2c1p1_C0_C10o2_s1 a1 a2 a3 (i : Int) (i : Int) l6) (fun (k : Nat) (y : List F) => (y, (k : Int))) (upI (laK a1 i) (bwE a2 a3 i)) (fun y => y) (fun _ y => y.length = S) (lo := loK a1 i) (n := laK a1 i + 1) (by omega) (s0 := y) ly
      (fun k y hk1 hk2 ly => by
        have lu : (upI (laK a1 i) (bwE a2 a3 i) k y).length = S := by
          unfold upI
          split
          · rw [bwE_len]; exact ly
          · exact ly
        refine ⟨?_, lu⟩
        show i_Sparse_each_2Fi_SparseRootSolve_3_2c0p0_2c1p1_C0_C10o2_b1 _ _ _ _ _ _ _ _ = _
        unfold i_Sparse_each_2Fi_SparseRootSolve_3_2c0p0_2c1p1_C0_C10o2_b1 i_SparseRootSolve_3_2p0_3p1_C0_C10o2
        dsimp only
        have hk2' : k < a2.length := by omega
        have hd : decide ((k : Int) < gI a1 (i + 1)) = true := decide_eq_true (by omega)
        rw [wsucc (by omega), olet_eq, at?_n 0 (by omega), obind_eq, hd, bsel_true, at?_n 0 hk2', obind_eq, at?_n none (by rw [h.ok.l]; exact hk2'), obind_eq]
        by_cases e : k < laK a1 i
        · obtain ⟨c1, c2⟩ := h.colk hi hk1 e
          have hc : decide (gI a2 k < (i : Int)) = true := decide_eq_true c2
          have hcz : (((gI a2 k).toNat : Nat) : Int) = gI a2 k := by omega
          have hs : setAt? y (gI a2 k) (fop .sub .f32 (y.getD (gI a2 k).toNat none) (fop .mul .f32 (a3.getD k none) (y.getD i none))) = some (bwE a2 a3 i k y) := by
            have := setAt?_n (L := y) (i := (gI a2 k).toNat) (fop .sub .f32 (y.getD (gI a2 k).toNat none) (fop .mul .f32 (a3.getD k none) (y.getD i none))) (by omega)
            rw [hcz] at this
            exact this
          rw [hc, bsel_true, at?_i none c1 (by omega), obind_eq, at?_n none (by omega), obind_eq, i_mul_eq, obind_eq, olet_eq, hs, obind_eq, obind_eq, bwE_len, ly, l6l, decide_eq_true rfl, need_true, wsucc (by omega)]
          unfold upI
          rw [if_pos e]; rfl
        · have e' : k = laK a1 i := by omega
          have hc : decide (gI a2 k < (i : Int)) = false := by rw [e', (h.low i hi).2]; exact decide_eq_false (by omega)
          rw [hc, bsel_false, obind_eq, ly, l6l, decide_eq_true rfl, need_true, wsucc (by omega)]
          unfold upI
          rw [if_neg e]; rfl)
      (fun s _ => by
        show i_Sparse_each_2Fi_SparseRootSolve_3_2c0p0_2c1p1_C0_C10o2_b1 _ _ _ _ _ _ _ _ = _
        unfold i_Sparse_each_2Fi_SparseRootSolve_3_2c0p0_2c1p1_C0_C10o2_b1
        have hd : decide (((laK a1 i + 1 : Nat) : Int) < gI a1 (i + 1)) = false := decide_eq_false (by omega)
        rw [wsucc (by omega), olet_eq, at?_n 0 (by omega), obind_eq, hd, bsel_false])).1
    rw [run_upI _ b1, b4] at e
    exact e
  unfold i_Sparse_each_2Fi_SparseRootSolve_3_2c0p0_2c1p1_C0_C10o2
  rw [at?_n 0 (by omega), obind_eq, key _ ly]; rfl
theorem i_SparseRootSolve_mid {S i : Nat} {a1 a2 : List Int} {a3 : List F} (h : Root S a1 a2 a3) (hi : i < S) (r : Int) : i_SparseRootSolve_1 (i : Int) r a1 a2 a3 = some (a3.getD (laK a1 i) none) := by
  obtain ⟨b1, b2, b3, b4⟩ := h.at hi
  obtain ⟨r1, r2, r3⟩ := h.ok.row hi
  have l1 := h.ok.i.l1
  have l2 := h.ok.i.l2
  have S2 := h.ok.i.S2
  have hw : IntKind.i64.wrap (gI a1 (i + 1) - 1) = ((laK a1 i : Nat) : Int) := by rw [wrap_i64 (by omega) (by omega), b3]
  unfold i_SparseRootSolve_1
  rw [wsucc (by omega), olet_eq, at?_n 0 (by omega), obind_eq, hw, olet_eq, at?_n none (by rw [h.ok.l]; exact b2), obind_eq]
theorem i_SparseRootSolve_fwd {S : Nat} {a1 a2 : List Int} {a3 b : List F} (h : Root S a1 a2 a3) (lb : b.length = S) : loopM (i_SparseRootSolve_s1 (S : Int) a1 a2 a3 b) (b, 0) = some (.inl (fwL S a1 a2 a3 b)) := by
  have S2 := h.ok.i.S2
  have e := (loop_run (step := i_SparseRootSolve_s1 (S : Int) a1 a2 a3 b) (fun (i : Nat) (y : List F) => (y ++ b.drop i, (i : Int))) (fun i y => y ++ [fwN a1 a2 a3 (b.getD i none) i y]) (fun y => y ++ b.drop S) (fun i y => y.length = i) (lo := 0) (n := S) (Nat.zero_le _) (s0 := []) rfl
    (fun i y _ hi ly => by
      refine ⟨?_, by simp [ly]⟩
      show i_SparseRootSolve_b1 _ _ _ _ _ _ _ = _
      unfold i_SparseRootSolve_b1
      dsimp only
      have hdrop : b.drop i = b.getD i none :: b.drop (i + 1) := by
        rw [List.drop_eq_getElem_cons (by omega), List.getD_eq_getElem?_getD, List.getElem?_eq_getElem (by omega)]; rfl
      have ll : ∀ v : F, (y ++ v :: b.drop (i + 1)).length = S := fun v => by simp; omega
      have hl := ll (fwS a1 a2 a3 y (b.getD i none) i)
      rw [dlt hi, bsel_true, hdrop, i_each_fwd h hi ly (by simp; omega), obind_eq, ll, lb, decide_eq_true rfl, need_true, at?_n none (by omega), obind_eq, i_SparseRootSolve_mid h hi, obind_eq, olet_eq, setAt?_n _ (by omega), obind_eq, mid_at ly, mid_set ly, wsucc (by omega)]
      simp [fwN])
    (fun y _ => by
      show i_SparseRootSolve_b1 _ _ _ _ _ _ _ = _
      unfold i_SparseRootSolve_b1
      rw [dnlt, bsel_false])).1
  have hd : b.drop S = [] := List.drop_of_length_le (by omega)
  simp only [Nat.sub_zero, List.drop_zero, List.nil_append] at e
  rw [hd, List.append_nil] at e
  exact e
theorem i_SparseRootSolve_bwd {S : Nat} {a1 a2 : List Int} {a3 b y : List F} (h : Root S a1 a2 a3) (lb : b.length = S) (ly : y.length = S) : loopM (i_SparseRootSolve_s2 (S : Int) a1 a2 a3 b) (y, (S : Int) - 1) = some (.inl (bwL S a1 a2 a3 y)) := by
  have S2 := h.ok.i.S2
  have e := (loop_run (step := i_SparseRootSolve_s2 (S : Int) a1 a2 a3 b) (fun (j : Nat) (y : List F) => (y, (S : Int) - 1 - (j : Int))) (fun j y => bwR a1 a2 a3 (S - 1 - j) y) (fun y => y) (fun _ y => y.length = S) (lo := 0) (n := S) (Nat.zero_le _) (s0 := y) ly
    (fun j y _ hj ly => by
      have lr : (bwR a1 a2 a3 (S - 1 - j) y).length = S := by rw [bwR_len]; exact ly
      refine ⟨?_, lr⟩
      have hi : S - 1 - j < S := by omega
      have hz : (S : Int) - 1 - (j : Int) = ((S - 1 - j : Nat) : Int) := by omega
      show i_SparseRootSolve_b2 _ _ _ _ _ _ _ = _
      unfold i_SparseRootSolve_b2
      dsimp only
      have hd : decide ((0 : Int) ≤ (S : Int) - 1 - (j : Int)) = true := decide_eq_true (by omega)
      have lr2 : (run (bwE a2 a3 (S - 1 - j)) (loK a1 (S - 1 - j)) (laK a1 (S - 1 - j) - loK a1 (S - 1 - j)) (y.set (S - 1 - j) (fop .quo .f32 (y.getD (S - 1 - j) none) (a3.getD (laK a1 (S - 1 - j)) none)))).length = S := lr
      rw [hd, bsel_true, hz, at?_n none (by omega), obind_eq, i_SparseRootSolve_mid h hi, obind_eq, olet_eq, setAt?_n _ (by omega), obind_eq, i_each_bwd h hi (by simp [ly]), obind_eq, lr2, lb, decide_eq_true rfl, need_true, ← hz, down_w S2 hj]
      rfl)
    (fun y _ => by
      show i_SparseRootSolve_b2 _ _ _ _ _ _ _ = _
      unfold i_SparseRootSolve_b2
      rw [show decide ((0 : Int) ≤ (S : Int) - 1 - (S : Int)) = false from decide_eq_false (by omega), bsel_false])).1
  have hz : (S : Int) - 1 - ((0 : Nat) : Int) = (S : Int) - 1 := by omega
  rw [hz] at e
  exact e
def ofQ (z : Option (List F)) : Bool × List F := match z with
  | some z => (true, z)
  | none => (false, [])
def ofRoot (S : Nat) (a1 a2 : List Int) (a3 r : List F) : Option (List F) := bif (solL S a1 a2 a3 r).all fin32 then some (solL S a1 a2 a3 r) else none
theorem i_SparseWith_1_eq {S : Nat} {a1 a2 : List Int} {a3 r : List F} (h : Root S a1 a2 a3) (hv : validS (S : Int) a1 a2 a3 = true) (hl : lowT (S : Int) a1 a2 a3 = true) (g3 : FOks a3) (f3 : a3.all fin32 = true) (gr : FOks r) (lr : r.length = S) (s1 : a1.length ≤ 1048576) (s2 : a2.length ≤ 1048576) (s3 : a3.length ≤ 1048576) :
    i_SparseWith_1 r (S : Int) a1 a2 a3 = some (ofQ (ofRoot S a1 a2 a3 r)) := by
  have S2 := h.ok.i.S2
  have sr : r.length ≤ 1048576 := by omega
  unfold i_SparseWith_1 i_SparseRootSolve
  rw [i_isLowerRoot_eq h.ok g3 f3 hv s3 s1 s2, hl, obind_eq, bsel_true, i_Sparse_takes_eq _ a1 a2 g3 gr s1 s2 s3 sr, hv, decide_eq_true (by omega), Bool.true_and, Bool.true_and, obind_eq]
  cases hf : r.all fin32 with
  | false =>
    unfold ofRoot
    rw [solL_not lr hf]; rfl
  | true =>
    have hw : IntKind.i64.wrap ((S : Int) - 1) = (S : Int) - 1 := wrap_i64 (by omega) (by omega)
    rw [bsel_true, x_slices_Clone_float32_float32_eq sr, obind_eq, i_SparseRootSolve_fwd h lr, obind_eq, osum_inl]
    unfold i_SparseRootSolve_k1
    rw [hw, olet_eq, i_SparseRootSolve_bwd h lr fwL_len, obind_eq, osum_inl]
    unfold i_SparseRootSolve_k2 i_allFinite_0o ofRoot
    have hs : bwL S a1 a2 a3 (fwL S a1 a2 a3 r) = solL S a1 a2 a3 r := rfl
    have ll : (solL S a1 a2 a3 r).length = r.length := by rw [solL_len, lr]
    rw [hs, i_areFinite_eq solL_oks (by rw [solL_len]; omega), obind_eq]
    cases (solL S a1 a2 a3 r).all fin32 with
    | false => simp [osum, obind, need, obind3, obind2, bsel, ofQ, ll]
    | true => simp [osum, obind, need, obind2, bsel, ofQ, ll]
theorem ofRoot_len {S : Nat} {a1 a2 : List Int} {a3 r z : List F} (h : ofRoot S a1 a2 a3 r = some z) : z.length = S := by
  unfold ofRoot at h
  cases hc : (solL S a1 a2 a3 r).all fin32 with
  | false => rw [hc] at h; cases h
  | true => rw [hc] at h; cases h; exact solL_len
theorem s_l05Gradient_stepW {S i most : Nat} {a1 a2 b1 b2 : List Int} {a3 b3 : List F} {near : F} {s : GrS} (ok : SpOk S a1 a2 a3) (hr : Root S b1 b2 b3) (hm : most ≤ 128) (h : GInv S s) (hi : i < most) :
    s_l05Gradient_b11 (S : Int) a1 a2 a3 (S : Int) b1 b2 b3 near (most : Int) true s.1 s.2.1 s.2.2.1 s.2.2.2 (i : Int) = some (lrmap (fun s => (s.1, s.2.1, s.2.2.1, s.2.2.2, ((i + 1 : Nat) : Int))) (gStep S a1 a2 a3 (ofRoot S b1 b2 b3) near i s)) := by
  have S2 := ok.i.S2
  have lx := h.lx
  have lr := h.lr
  have lp := h.lp
  unfold s_l05Gradient_b11 gStep
  rw [dlt hi, bsel_true, s_l05Norm_eq (by omega), obind_eq]
  cases flt .f32 near (normL s.2.1) with
  | false => rfl
  | true =>
    rw [bsel_true, cond_true, s_l05Times_eq ok lp, obind_eq, s_l02Dot_eq (by rw [timesL_len]; omega) (by omega), obind_eq]
    have lq : (timesL S a1 a2 a3 s.2.2.1).length = S := timesL_len
    have gd := dotL_ok s.2.2.1 (timesL S a1 a2 a3 s.2.2.1)
    generalize timesL S a1 a2 a3 s.2.2.1 = q at lq gd
    generalize dotL s.2.2.1 q = d at gd
    unfold gDo
    cases flt .f32 (some 0) d with
    | false => rfl
    | true =>
      rw [bsel_true, s_l01Finite_eq gd, obind_eq, s_l01Finite_eq h.ge, obind_eq, Bool.true_and]
      cases fin32 d with
      | false => rfl
      | true =>
        cases fin32 s.2.2.2 with
        | false => rfl
        | true =>
          rw [bsel_true, bsel_true, olet_eq, s_l05Gradient_new S2 lx lr lp lq, obind_eq, osum_inl]
          have e1 : (zipW (fms (fop .quo .f32 s.2.2.2 d)) S s.2.1 q).length = S := zipW_len
          have ex : gX S (fop .quo .f32 s.2.2.2 d) s = zipW (fma (fop .quo .f32 s.2.2.2 d)) S s.1 s.2.2.1 := rfl
          have er : gR S q (fop .quo .f32 s.2.2.2 d) s = zipW (fms (fop .quo .f32 s.2.2.2 d)) S s.2.1 q := rfl
          rw [ex, er]
          dsimp only
          generalize zipW (fma (fop .quo .f32 s.2.2.2 d)) S s.1 s.2.2.1 = x'
          generalize zipW (fms (fop .quo .f32 s.2.2.2 d)) S s.2.1 q = r' at e1
          unfold s_l05Gradient_k8 ofRoot
          have lz : (solL S b1 b2 b3 r').length = S := solL_len
          rw [bsel_true, s_l05Solve_eq hr e1, obind_eq, s_l02Finite_eq solL_oks (by omega), obind_eq]
          generalize solL S b1 b2 b3 r' = z at lz
          cases z.all fin32 with
          | false => rfl
          | true =>
            unfold s_l05Gradient_k9
            rw [bsel_true, s_l02Dot_eq (by omega) (by omega), obind_eq, olet_eq, s_l05Gradient_way (by omega) (by omega), obind_eq, osum_inl]
            unfold s_l05Gradient_k10
            rw [wsucc (by omega), lp]; rfl
theorem i_gradients_4Fi_SparseWith_1_new {S : Nat} {q r r4 : List F} {t : F} (hS : S ≤ 32) (lr : r.length = S) (l4 : r4.length = S) (lq : q.length = S) : loopM (i_gradients_4Fi_SparseWith_1_s2 r4 q t) (r, 0) = some (.inl (zipW (fms t) S r q)) := by
  have e := (loop_run (step := i_gradients_4Fi_SparseWith_1_s2 r4 q t) (fun (i : Nat) (l : List F) => (l, (i : Int))) (fun i l => l.set i (fms t (l.getD i none) (q.getD i none))) (fun l => l) (fun _ l => l.length = S) (lo := 0) (n := S) (Nat.zero_le _) (s0 := r) lr
    (fun i l _ hi hI => by
      refine ⟨?_, by simp [hI]⟩
      show i_gradients_4Fi_SparseWith_1_b2 _ _ _ _ _ = _
      unfold i_gradients_4Fi_SparseWith_1_b2
      dsimp only
      have hd : decide ((i : Int) < ((r4.length : Nat) : Int)) = true := decide_eq_true (by omega)
      rw [hd, bsel_true, at?_n none (by omega), obind_eq, at?_n none (by omega), obind_eq, i_mul_eq, obind_eq, olet_eq, setAt?_n _ (by omega), obind_eq, wsucc (by omega)]
      rfl)
    (fun l _ => by
      show i_gradients_4Fi_SparseWith_1_b2 _ _ _ _ _ = _
      unfold i_gradients_4Fi_SparseWith_1_b2
      have hd : decide ((S : Int) < ((r4.length : Nat) : Int)) = false := decide_eq_false (by omega)
      rw [hd, bsel_false])).1
  rw [Nat.sub_zero, run_set (fun i v => fms t v (q.getD i none)) lr] at e
  exact e
structure RootOk (S : Nat) (a1 a2 : List Int) (a3 : List F) : Prop where
  r : Root S a1 a2 a3
  v : validS (S : Int) a1 a2 a3 = true
  l : lowT (S : Int) a1 a2 a3 = true
  g : FOks a3
  f : a3.all fin32 = true
  s1 : a1.length ≤ 1048576
  s2 : a2.length ≤ 1048576
  s3 : a3.length ≤ 1048576
theorem RootOk.of {S : Nat} {a1 a2 : List Int} {a3 r : List F} (h : RootOk S a1 a2 a3) (gr : FOks r) (lr : r.length = S) : i_SparseWith_1 r (S : Int) a1 a2 a3 = some (ofQ (ofRoot S a1 a2 a3 r)) := i_SparseWith_1_eq h.r h.v h.l h.g h.f gr lr h.s1 h.s2 h.s3
theorem i_gradients_4Fi_SparseWith_1_step {S i most : Nat} {a1 a2 b1 b2 : List Int} {a3 b3 r4 : List F} {near : F} {s : GrS} (ok : SpOk S a1 a2 a3) (hr : RootOk S b1 b2 b3) (l4 : r4.length = S) (hm : most ≤ 128) (h : GInv S s) (hi : i < most) :
    i_gradients_4Fi_SparseWith_1_b3 (S : Int) a1 a2 a3 near (most : Int) (S : Int) b1 b2 b3 r4 s.1 s.2.1 s.2.2.1 s.2.2.2 (i : Int) = some (lrmap (fun s => (s.1, s.2.1, s.2.2.1, s.2.2.2, ((i + 1 : Nat) : Int))) (gStep S a1 a2 a3 (ofRoot S b1 b2 b3) near i s)) := by
  have S2 := ok.i.S2
  have lx := h.lx
  have lr := h.lr
  have lp := h.lp
  unfold i_gradients_4Fi_SparseWith_1_b3 gStep
  rw [dlt hi, bsel_true, i_norm_eq (by omega), obind_eq]
  cases flt .f32 near (normL s.2.1) with
  | false => rfl
  | true =>
    rw [bsel_true, cond_true, i_Sparse_times_eq ok lp, obind_eq, i_dotL_eq (by rw [timesL_len]; omega) (by omega), obind_eq]
    have lq : (timesL S a1 a2 a3 s.2.2.1).length = S := timesL_len
    have gd := dotL_ok s.2.2.1 (timesL S a1 a2 a3 s.2.2.1)
    generalize timesL S a1 a2 a3 s.2.2.1 = q at lq gd
    generalize dotL s.2.2.1 q = d at gd
    unfold gDo
    cases flt .f32 (some 0) d with
    | false => rfl
    | true =>
      rw [bsel_true, i_areFinite_two gd h.ge, obind_eq, Bool.true_and]
      cases fin32 d && fin32 s.2.2.2 with
      | false => rfl
      | true =>
        have e1 : (zipW (fms (fop .quo .f32 s.2.2.2 d)) S s.2.1 q).length = S := zipW_len
        have g1 : FOks (zipW (fms (fop .quo .f32 s.2.2.2 d)) S s.2.1 q) := zipW_oks fun _ _ => fms_ok _ _ _
        have ex : gX S (fop .quo .f32 s.2.2.2 d) s = zipW (fma (fop .quo .f32 s.2.2.2 d)) S s.1 s.2.2.1 := rfl
        have er : gR S q (fop .quo .f32 s.2.2.2 d) s = zipW (fms (fop .quo .f32 s.2.2.2 d)) S s.2.1 q := rfl
        rw [bsel_true, olet_eq, i_plusTimes_eq _ (by omega) (by omega), obind_eq, i_gradients_4Fi_SparseWith_1_new S2 lr l4 lq, obind_eq, osum_inl, ex, er, lx]
        generalize zipW (fma (fop .quo .f32 s.2.2.2 d)) S s.1 s.2.2.1 = x'
        generalize zipW (fms (fop .quo .f32 s.2.2.2 d)) S s.2.1 q = r' at e1 g1
        unfold i_gradients_4Fi_SparseWith_1_k2
        rw [hr.of g1 e1]
        have hz := @ofRoot_len S b1 b2 b3 r'
        generalize ofRoot S b1 b2 b3 r' = o at hz
        cases o with
        | none => rfl
        | some z =>
          have lz := hz rfl
          unfold ofQ
          rw [obind2_eq, bsel_true, i_dotL_eq (by omega) (by omega), obind_eq, olet_eq, i_plusTimes_eq _ (by omega) (by omega), obind_eq, wsucc (by omega), lz]; rfl
theorem s_l05Gradient_loopW {S most : Nat} {a1 a2 b1 b2 : List Int} {a3 b3 : List F} {near : F} {s : GrS} (ok : SpOk S a1 a2 a3) (hr : Root S b1 b2 b3) (hm : most ≤ 128) (h : GInv S s) :
    loopM (s_l05Gradient_s11 (S : Int) a1 a2 a3 (S : Int) b1 b2 b3 near (most : Int) true) (s.1, s.2.1, s.2.2.1, s.2.2.2, 0) = some (gRun S a1 a2 a3 (ofRoot S b1 b2 b3) near most s) :=
  loop_runL (step := s_l05Gradient_s11 (S : Int) a1 a2 a3 (S : Int) b1 b2 b3 near (most : Int) true) (fun (i : Nat) (s : GrS) => (s.1, s.2.1, s.2.2.1, s.2.2.2, (i : Int))) (gStep S a1 a2 a3 (ofRoot S b1 b2 b3) near) (fun s => (s.1, s.2.1, (most : Int))) (fun _ s => GInv S s) (lo := 0) (n := most) (Nat.zero_le _) h
    (fun i s _ hi hI => ⟨s_l05Gradient_stepW ok hr hm hI hi, (gStep_spec hI).1⟩)
    (fun s _ => by
      show s_l05Gradient_b11 _ _ _ _ _ _ _ _ _ _ _ _ _ _ _ _ = _
      unfold s_l05Gradient_b11
      rw [dnlt, bsel_false])
theorem i_gradients_4Fi_SparseWith_1_loop {S most : Nat} {a1 a2 b1 b2 : List Int} {a3 b3 r4 : List F} {near : F} {s : GrS} (ok : SpOk S a1 a2 a3) (hr : RootOk S b1 b2 b3) (l4 : r4.length = S) (hm : most ≤ 128) (h : GInv S s) :
    loopM (i_gradients_4Fi_SparseWith_1_s3 (S : Int) a1 a2 a3 near (most : Int) (S : Int) b1 b2 b3 r4) (s.1, s.2.1, s.2.2.1, s.2.2.2, 0) = some (gRun S a1 a2 a3 (ofRoot S b1 b2 b3) near most s) :=
  loop_runL (step := i_gradients_4Fi_SparseWith_1_s3 (S : Int) a1 a2 a3 near (most : Int) (S : Int) b1 b2 b3 r4) (fun (i : Nat) (s : GrS) => (s.1, s.2.1, s.2.2.1, s.2.2.2, (i : Int))) (gStep S a1 a2 a3 (ofRoot S b1 b2 b3) near) (fun s => (s.1, s.2.1, (most : Int))) (fun _ s => GInv S s) (lo := 0) (n := most) (Nat.zero_le _) h
    (fun i s _ hi hI => ⟨i_gradients_4Fi_SparseWith_1_step ok hr l4 hm hI hi, (gStep_spec hI).1⟩)
    (fun s _ => by
      show i_gradients_4Fi_SparseWith_1_b3 _ _ _ _ _ _ _ _ _ _ _ _ _ _ _ _ = _
      unfold i_gradients_4Fi_SparseWith_1_b3
      rw [dnlt, bsel_false])
def gAll (S : Nat) (a1 a2 : List Int) (a3 b : List F) (near : F) (most : Nat) (of : List F → Option (List F)) : Option (List F) → Int × Bool × List F
  | none => gBad
  | some z => gFin near (gRun S a1 a2 a3 of near most (List.replicate S (some 0), b, z, dotL b z))
theorem i_gradRoot_bad {a0 b0 : Int} {a1 a2 b1 b2 : List Int} {a3 b3 b : List F} {near : F} {most : Int} (g3 : FOks a3) (gb : FOks b) (gn : FOk .f32 near) (s1 : a1.length ≤ 1048576) (s2 : a2.length ≤ 1048576) (s3 : a3.length ≤ 1048576) (sb : b.length ≤ 1048576)
    (h : (spT a0 a1 a2 a3 b && (fin32 near && (decide (0 ≤ most) && decide (most ≤ 128)))) = false) : i_gradients_4Fi_SparseWith_1 a0 a1 a2 a3 b near most b0 b1 b2 b3 = some gBad := by
  unfold i_gradients_4Fi_SparseWith_1
  rw [i_Sparse_takes_eq a0 a1 a2 g3 gb s1 s2 s3 sb, obind_eq, i_IsFinite_eq gn, obind_eq, i_inRange_eq, obind_eq]
  unfold spT at h
  generalize (validS a0 a1 a2 a3 && (decide ((b.length : Int) = a0) && b.all fin32)) = T at h ⊢
  cases T with
  | false => rfl
  | true =>
    rw [Bool.true_and] at h
    cases hn : fin32 near with
    | false => rfl
    | true =>
      rw [hn, Bool.true_and] at h
      rw [h]; rfl
theorem i_gradRoot_ok {S most : Nat} {a1 a2 b1 b2 : List Int} {a3 b3 b : List F} {near : F} {o : Option (List F)} (ok : SpOk S a1 a2 a3) (hT : spT (S : Int) a1 a2 a3 b = true) (g3 : FOks a3) (gb : FOks b) (gn : FOk .f32 near) (fn : fin32 near = true) (lb : b.length = S) (hm : most ≤ 128) (s1 : a1.length ≤ 1048576) (s2 : a2.length ≤ 1048576) (s3 : a3.length ≤ 1048576)
    (ho : i_SparseWith_1 b (S : Int) b1 b2 b3 = some (ofQ o)) (hl : ∀ z, o = some z → z.length = S ∧ FOks z ∧ RootOk S b1 b2 b3) :
    i_gradients_4Fi_SparseWith_1 (S : Int) a1 a2 a3 b near (most : Int) (S : Int) b1 b2 b3 = some (gAll S a1 a2 a3 b near most (ofRoot S b1 b2 b3) o) := by
  have S2 := ok.i.S2
  have sb : b.length ≤ 1048576 := by omega
  have tn : ((S : Int)).toNat = S := by omega
  have hr : (decide ((0 : Int) ≤ (most : Int)) && decide ((most : Int) ≤ 128)) = true := by rw [decide_eq_true (by omega), decide_eq_true (by omega)]; rfl
  unfold spT at hT
  unfold i_gradients_4Fi_SparseWith_1
  rw [i_Sparse_takes_eq _ a1 a2 g3 gb s1 s2 s3 sb, hT, obind_eq, bsel_true, i_IsFinite_eq gn, fn, obind_eq, bsel_true, i_inRange_eq, hr, obind_eq, bsel_true, mkok_n (by omega) (by omega), need_true, x_slices_Clone_float32_float32_eq sb, obind_eq, ho]
  cases o with
  | none => rfl
  | some z =>
    obtain ⟨lz, gz, hR⟩ := hl z rfl
    have hi0 := gInv0 lb lz gb gz (dotL_ok b z)
    have e := i_gradients_4Fi_SparseWith_1_loop (near := near) ok hR lb hm hi0
    unfold ofQ
    rw [obind2_eq, bsel_true, i_dotL_eq (by omega) (by omega), obind_eq, tn, e, obind_eq]
    simp only [gAll]
    rcases gRun_post (most := most) (of := ofRoot S b1 b2 b3) (near := near) (a1 := a1) (a2 := a2) (a3 := a3) hi0 with ⟨z, h1, h2, h3, h4, h5⟩ | h1
    · rw [h1, osum_inl]
      unfold i_gradients_4Fi_SparseWith_1_k3
      simp only [gFin]
      rw [i_norm_eq (by omega), obind_eq, i_areFinite_eq h2 (by omega), obind_eq]
      cases fle .f32 (normL z.2.1) near with
      | false => rfl
      | true => cases z.1.all fin32 <;> rfl
    · rw [h1]; rfl
theorem s_gradRoot_ok {S most : Nat} {a1 a2 b1 b2 : List Int} {a3 b3 b : List F} {near : F} (ok : SpOk S a1 a2 a3) (hR : Root S b1 b2 b3) (gb : FOks b) (lb : b.length = S) (hm : most ≤ 128) :
    s_l05Gradient (S : Int) a1 a2 a3 (S : Int) b1 b2 b3 b near (most : Int) true = some (gAll S a1 a2 a3 b near most (ofRoot S b1 b2 b3) (ofRoot S b1 b2 b3 b)) := by
  have S2 := ok.i.S2
  have sb : b.length ≤ 1048576 := by omega
  have tn : ((S : Int)).toNat = S := by omega
  have ap : apok 4 0 b.length = true := by simp [apok]; omega
  have lz : (solL S b1 b2 b3 b).length = S := solL_len
  have gz : FOks (solL S b1 b2 b3 b) := solL_oks
  unfold s_l05Gradient s_l05Gradient_k1 ofRoot
  rw [mkok_n (by omega) (by omega), need_true, ap, need_true, bsel_true, List.nil_append, s_l05Solve_eq hR lb, obind_eq, s_l02Finite_eq gz (by omega), obind_eq]
  generalize solL S b1 b2 b3 b = z at lz gz
  cases z.all fin32 with
  | false => rfl
  | true =>
    have hi0 := gInv0 lb lz gb gz (dotL_ok b z)
    have e := s_l05Gradient_loopW (near := near) ok hR hm hi0
    have ap2 : apok 4 0 z.length = true := by simp [apok]; omega
    rw [bsel_true, ap2, need_true, s_l02Dot_eq (by omega) (by omega), obind_eq, tn, List.nil_append, e, obind_eq, cond_true]
    unfold gAll
    have e3 : (fun r => bif (solL S b1 b2 b3 r).all fin32 then some (solL S b1 b2 b3 r) else none) = ofRoot S b1 b2 b3 := rfl
    rcases gRun_post (most := most) (of := ofRoot S b1 b2 b3) (near := near) (a1 := a1) (a2 := a2) (a3 := a3) hi0 with ⟨z, h1, h2, h3, h4, h5⟩ | h1
    · dsimp only
      rw [h1, osum_inl]
      try rw [e3, h1]
      unfold s_l05Gradient_k11
      simp only [gFin]
      rw [s_l05Norm_eq (by omega), obind_eq, s_l02Finite_eq h2 (by omega), obind_eq]
      cases fle .f32 (normL z.2.1) near with
      | false => rfl
      | true => cases z.1.all fin32 <;> rfl
    · dsimp only
      rw [h1]
      try rw [e3, h1]
      rfl
theorem i_SparseWith_1_bad {S : Nat} {a1 a2 : List Int} {a3 r : List F} (g3 : FOks a3) (gr : FOks r) (lr : r.length = S) (hS : S ≤ 32) (s1 : a1.length ≤ 1048576) (s2 : a2.length ≤ 1048576) (s3 : a3.length ≤ 1048576)
    (h : (validS (S : Int) a1 a2 a3 && lowT (S : Int) a1 a2 a3) = false) : i_SparseWith_1 r (S : Int) a1 a2 a3 = some (ofQ none) := by
  unfold i_SparseWith_1 i_SparseRootSolve
  cases hv : validS (S : Int) a1 a2 a3 with
  | false =>
    unfold i_isLowerRoot
    rw [i_ValidSparse_eq _ a1 a2 g3 s3 s1 s2, hv]; rfl
  | true =>
    obtain ⟨S', e, i, g, l, f⟩ := validS_spec hv
    have : S = S' := by omega
    subst this
    rw [hv, Bool.true_and] at h
    rw [i_isLowerRoot_eq ⟨i, g, l⟩ g3 f hv s3 s1 s2, h]; rfl
theorem gAll_len {S most : Nat} {a1 a2 : List Int} {a3 b : List F} {near : F} {of : List F → Option (List F)} {o : Option (List F)} (hS : S ≤ 32) (lb : b.length = S) (gb : FOks b) (hl : ∀ z, o = some z → z.length = S ∧ FOks z) : (gAll S a1 a2 a3 b near most of o).2.2.length ≤ 1048576 := by
  cases o with
  | none => simp [gAll, gBad]
  | some z => exact gFin_len (gInv0 lb (hl z rfl).1 gb (hl z rfl).2 (dotL_ok b z)) hS
theorem gAll_neg {S most : Nat} {a1 a2 : List Int} {a3 b : List F} {near : F} {of : List F → Option (List F)} {o : Option (List F)} (lb : b.length = S) (gb : FOks b) (hl : ∀ z, o = some z → z.length = S ∧ FOks z) (hn : FOk .f32 near) (hf : fin32 near = true) (hg : flt .f32 near (some 0) = true) : gAll S a1 a2 a3 b near most of o = gBad := by
  cases o with
  | none => rfl
  | some z => exact gFin_neg (gInv0 lb (hl z rfl).1 gb (hl z rfl).2 (dotL_ok b z)) hn hf hg
theorem ofRoot_spec {S : Nat} {a1 a2 : List Int} {a3 r : List F} : ∀ z, ofRoot S a1 a2 a3 r = some z → z.length = S ∧ FOks z := by
  intro z h
  refine ⟨ofRoot_len h, ?_⟩
  unfold ofRoot at h
  cases hc : (solL S a1 a2 a3 r).all fin32 with
  | false => rw [hc] at h; cases h
  | true => rw [hc] at h; cases h; exact solL_oks
theorem s_SparseWith_eq (a0 : Int) (a1 a2 : List Int) (a3 : List F) (b0 : Int) (b1 b2 : List Int) (b3 b : List F) (near : F) (most : Int) (g3 : FOks a3) (h3 : FOks b3) (gb : FOks b) (gn : FOk .f32 near) (s1 : a1.length ≤ 1048576) (s3 : a3.length ≤ 1048576) (t1 : b1.length ≤ 1048576) (t3 : b3.length ≤ 1048576) (sb : b.length ≤ 1048576) :
    s_SparseWith a0 a1 a2 a3 b0 b1 b2 b3 b near most = bsel (spT a0 a1 a2 a3 b && (spT b0 b1 b2 b3 b && (lowT b0 b1 b2 b3 && ((fin32 near && !flt .f32 near (some 0)) && (decide (0 ≤ most) && decide (most ≤ 128)))))) (s_l05Gradient a0 a1 a2 a3 b0 b1 b2 b3 b near most true) (some gBad) := by
  unfold s_SparseWith
  rw [s_l05Fits_eq a0 a1 a2 g3 gb s1 s3 sb, obind_eq]
  have hA : (validS a0 a1 a2 a3 && (decide ((b.length : Int) = a0) && b.all fin32)) = spT a0 a1 a2 a3 b := rfl
  have hB : (validS b0 b1 b2 b3 && (decide ((b.length : Int) = b0) && b.all fin32)) = spT b0 b1 b2 b3 b := rfl
  rw [hA]
  cases spT a0 a1 a2 a3 b with
  | false => rfl
  | true =>
    rw [bsel_true, s_l05Fits_eq b0 b1 b2 h3 gb t1 t3 sb, hB, obind_eq, Bool.true_and]
    cases hT : spT b0 b1 b2 b3 b with
    | false => rfl
    | true =>
      obtain ⟨S, rfl, ok, lb, fb⟩ := spT_spec hT
      have f3 : b3.all fin32 = true := by
        unfold spT at hT
        simp only [Bool.and_eq_true] at hT
        obtain ⟨_, _, _, _, _, f⟩ := validS_spec hT.1
        exact f
      rw [bsel_true, s_l05Lower_eq ok h3 f3, obind_eq, Bool.true_and]
      cases lowT (S : Int) b1 b2 b3 with
      | false => rfl
      | true =>
        rw [bsel_true, s_l02Least_eq gn, obind_eq, Bool.true_and]
        cases fin32 near && !flt .f32 near (some 0) with
        | false => rfl
        | true =>
          rw [bsel_true, s_l00In_eq, obind_eq, Bool.true_and]
          cases decide (0 ≤ most) && decide (most ≤ 128) with
          | false => rfl
          | true => rw [bsel_true, bsel_true, obind3_id]
theorem SparseWith_eq (a0 : Int) (a1 a2 : List Int) (a3 : List F) (a4 : Int) (a5 a6 : List Int) (a7 a8 : List F) (a9 : F) (a10 : Int) (g3 : FOks a3) (g7 : FOks a7) (g8 : FOks a8) (g9 : FOk .f32 a9) (s1 : a1.length ≤ 1048576) (s2 : a2.length ≤ 1048576) (s3 : a3.length ≤ 1048576) (s5 : a5.length ≤ 1048576) (s6 : a6.length ≤ 1048576) (s7 : a7.length ≤ 1048576) (s8 : a8.length ≤ 1048576) :
    ∃ n b l, s_SparseWith a0 a1 a2 a3 a4 a5 a6 a7 a8 a9 a10 = some (n, b, l) ∧ i_SparseWith a0 a1 a2 a3 a4 a5 a6 a7 a8 a9 a10 = some (n, b, l) ∧ l.length ≤ 1048576 := by
  rw [s_SparseWith_eq a0 a1 a2 a3 a4 a5 a6 a7 a8 a9 a10 g3 g7 g8 g9 s1 s3 s5 s7 s8]
  unfold i_SparseWith
  rw [obind3_id]
  cases hc : spT a0 a1 a2 a3 a8 && (fin32 a9 && (decide (0 ≤ a10) && decide (a10 ≤ 128))) with
  | false =>
    have hs : (spT a0 a1 a2 a3 a8 && (spT a4 a5 a6 a7 a8 && (lowT a4 a5 a6 a7 && ((fin32 a9 && !flt .f32 a9 (some 0)) && (decide (0 ≤ a10) && decide (a10 ≤ 128)))))) = false := by
      revert hc
      cases spT a0 a1 a2 a3 a8 <;> cases fin32 a9 <;> cases flt .f32 a9 (some 0) <;> cases spT a4 a5 a6 a7 a8 <;> cases lowT a4 a5 a6 a7 <;> simp
    refine ⟨0, false, [], by rw [hs]; rfl, ?_, by simp⟩
    rw [i_gradRoot_bad g3 g8 g9 s1 s2 s3 s8 hc]
    cases !decide (a4 = a0) <;> rfl
  | true =>
    simp only [Bool.and_eq_true, decide_eq_true_eq] at hc
    obtain ⟨hT, fn, hm0, hm⟩ := hc
    obtain ⟨S, rfl, ok, lb, fb⟩ := spT_spec hT
    obtain ⟨most, rfl⟩ : ∃ q : Nat, a10 = (q : Int) := ⟨a10.toNat, by omega⟩
    have S2 := ok.i.S2
    have hmm : (decide ((0 : Int) ≤ (most : Int)) && decide ((most : Int) ≤ 128)) = true := by rw [decide_eq_true hm0, decide_eq_true hm]; rfl
    rw [hT, hmm, fn, Bool.true_and, Bool.true_and, Bool.and_true]
    by_cases he : a4 = (S : Int)
    · subst he
      rw [decide_eq_true rfl, Bool.not_true, bsel_false]
      cases hv : validS (S : Int) a5 a6 a7 && lowT (S : Int) a5 a6 a7 with
      | false =>
        have ei := i_gradRoot_ok (most := most) (o := none) ok hT g3 g8 g9 fn lb (by omega) s1 s2 s3 (i_SparseWith_1_bad g7 g8 lb S2 s5 s6 s7 hv) (fun z hz => by cases hz)
        have hs : (spT (S : Int) a5 a6 a7 a8 && (lowT (S : Int) a5 a6 a7 && !flt .f32 a9 (some 0))) = false := by
          unfold spT
          revert hv
          cases validS (S : Int) a5 a6 a7 <;> cases lowT (S : Int) a5 a6 a7 <;> simp
        exact ⟨0, false, [], by rw [hs]; rfl, ei, by simp⟩
      | true =>
        simp only [Bool.and_eq_true] at hv
        obtain ⟨S', e, i, g, l, f⟩ := validS_spec hv.1
        have : S = S' := by omega
        subst this
        have hR : RootOk S a5 a6 a7 := ⟨root_of ⟨i, g, l⟩ hv.2, hv.1, hv.2, g7, f, s5, s6, s7⟩
        have ei := i_gradRoot_ok (most := most) ok hT g3 g8 g9 fn lb (by omega) s1 s2 s3 (hR.of g8 lb) (fun z hz => ⟨(ofRoot_spec z hz).1, (ofRoot_spec z hz).2, hR⟩)
        have es := s_gradRoot_ok (most := most) (near := a9) ok hR.r g8 lb (by omega)
        have hB : spT (S : Int) a5 a6 a7 a8 = true := by
          unfold spT
          rw [hv.1, decide_eq_true (by omega), fb]; rfl
        cases hl0 : flt .f32 a9 (some 0) with
        | true =>
          rw [gAll_neg lb g8 ofRoot_spec g9 fn hl0] at ei
          refine ⟨0, false, [], ?_, ei, by simp⟩
          rw [Bool.not_true, Bool.and_false, Bool.and_false]; rfl
        | false =>
          refine ⟨_, _, _, ?_, ei, gAll_len S2 lb g8 ofRoot_spec⟩
          rw [hB, hv.2, Bool.not_false, Bool.true_and, Bool.true_and, bsel_true]
          exact es
    · have hB : spT a4 a5 a6 a7 a8 = false := by
        unfold spT
        rw [decide_eq_false (by omega), Bool.false_and, Bool.and_false]
      rw [hB, decide_eq_false he, Bool.not_false, bsel_true]
      exact ⟨0, false, [], rfl, rfl, by simp⟩
def Names (n : Nat) (L : List Int) : Prop := ∀ x ∈ L, 0 ≤ x ∧ x < (n : Int)
theorem Names.at {n : Nat} {L : List Int} (h : Names n L) {j : Nat} (hj : j < L.length) : 0 ≤ L.getD j 0 ∧ L.getD j 0 < (n : Int) := by
  rw [List.getD_eq_getElem?_getD, List.getElem?_eq_getElem hj]
  exact h _ (List.getElem_mem hj)
theorem Names.set {n : Nat} {L : List Int} (h : Names n L) {j : Nat} {x : Int} (hx : 0 ≤ x ∧ x < (n : Int)) : Names n (L.set j x) := fun y hy => (List.mem_or_eq_of_mem_set hy).elim (fun k => h y k) (fun k => by rw [k]; exact hx)
theorem w_FnExactSparseWith_true (a0 : Int) (a1 : List Int) (a2 : List Int) (a3 : List F) (a4 : Int) (a5 : List Int) (a6 : List Int) (a7 : List F) (a8 : List F) (a9 : F) (a10 : Int) (s_a1 : Small a1) (s_a2 : Small a2) (s_a3 : Small a3) (s_a5 : Small a5) (s_a6 : Small a6) (s_a7 : Small a7) (s_a8 : Small a8) (g_a3 : FOks a3) (g_a7 : FOks a7) (g_a8 : FOks a8) (g_a9 : FOk .f32 a9) : w_FnExactSparseWith a0 a1 a2 a3 a4 a5 a6 a7 a8 a9 a10 = some true := by
  rcases Nat.lt_or_ge 1048576 a8.length with cb0 | t_a8
  · have db : decide ((1048576 : Int) < (a8.length : Int)) = true := decide_eq_true (by omega)
    simp [w_FnExactSparseWith, w_eqSparse, w_markSparse_01o_02o1_03o2, w_szSparse, w_toSparse, db]
  have db0 : decide ((1048576 : Int) < (a8.length : Int)) = false := decide_eq_false (by omega)
  obtain ⟨l0, e0, h0⟩ := w_szInt64S_ex a1 1048576 s_a1 (by omega) (by omega)
  rcases Int.lt_or_le l0 0 with c0 | c0
  · simp [w_FnExactSparseWith, w_eqSparse, w_markSparse_01o_02o1_03o2, w_szSparse, w_toSparse, e0, c0, db0]
  have d0 : decide (l0 < 0) = false := by simp; omega
  have t0 := h0 c0
  have t_a1 : a1.length ≤ 1048576 := by omega
  obtain ⟨l1, e1, h1⟩ := w_szInt64S_ex a2 l0 s_a2 (by omega) (by omega)
  rcases Int.lt_or_le l1 0 with c1 | c1
  · simp [w_FnExactSparseWith, w_eqSparse, w_markSparse_01o_02o1_03o2, w_szSparse, w_toSparse, e0, e1, d0, c1, db0]
  have d1 : decide (l1 < 0) = false := by simp; omega
  have t1 := h1 c1
  have t_a2 : a2.length ≤ 1048576 := by omega
  obtain ⟨l2, e2, h2⟩ := w_szFloat32S_ex a3 l1 s_a3 (by omega) (by omega)
  rcases Int.lt_or_le l2 0 with c2 | c2
  · simp [w_FnExactSparseWith, w_eqSparse, w_markSparse_01o_02o1_03o2, w_szSparse, w_toSparse, e0, e1, e2, d0, d1, c2, db0]
  have d2 : decide (l2 < 0) = false := by simp; omega
  have t2 := h2 c2
  have t_a3 : a3.length ≤ 1048576 := by omega
  obtain ⟨l3, e3, h3⟩ := w_szInt64S_ex a5 l2 s_a5 (by omega) (by omega)
  rcases Int.lt_or_le l3 0 with c3 | c3
  · simp [w_FnExactSparseWith, w_eqSparse, w_markSparse_01o_02o1_03o2, w_szSparse, w_toSparse, e0, e1, e2, e3, d0, d1, d2, c3, db0]
  have d3 : decide (l3 < 0) = false := by simp; omega
  have t3 := h3 c3
  have t_a5 : a5.length ≤ 1048576 := by omega
  obtain ⟨l4, e4, h4⟩ := w_szInt64S_ex a6 l3 s_a6 (by omega) (by omega)
  rcases Int.lt_or_le l4 0 with c4 | c4
  · simp [w_FnExactSparseWith, w_eqSparse, w_markSparse_01o_02o1_03o2, w_szSparse, w_toSparse, e0, e1, e2, e3, e4, d0, d1, d2, d3, c4, db0]
  have d4 : decide (l4 < 0) = false := by simp; omega
  have t4 := h4 c4
  have t_a6 : a6.length ≤ 1048576 := by omega
  obtain ⟨l5, e5, h5⟩ := w_szFloat32S_ex a7 l4 s_a7 (by omega) (by omega)
  rcases Int.lt_or_le l5 0 with c5 | c5
  · simp [w_FnExactSparseWith, w_eqSparse, w_markSparse_01o_02o1_03o2, w_szSparse, w_toSparse, e0, e1, e2, e3, e4, e5, d0, d1, d2, d3, d4, c5, db0]
  have d5 : decide (l5 < 0) = false := by simp; omega
  have t5 := h5 c5
  have t_a7 : a7.length ≤ 1048576 := by omega
  have f1 : w_toInt64S a1 = some a1 := w_toInt64S_eq a1 t_a1
  have f2 : w_toInt64S a2 = some a2 := w_toInt64S_eq a2 t_a2
  have f3 : w_toFloat32S a3 = some a3 := w_toFloat32S_eq a3 t_a3
  have f4 : w_toInt64S a5 = some a5 := w_toInt64S_eq a5 t_a5
  have f5 : w_toInt64S a6 = some a6 := w_toInt64S_eq a6 t_a6
  have f6 : w_toFloat32S a7 = some a7 := w_toFloat32S_eq a7 t_a7
  have f7 : w_toFloat32S a8 = some a8 := w_toFloat32S_eq a8 t_a8
  obtain ⟨z0, z1, z2, p1, p2, b_z2⟩ := SparseWith_eq a0 a1 a2 a3 a4 a5 a6 a7 a8 a9 a10 g_a3 g_a7 g_a8 g_a9 t_a1 t_a2 t_a3 t_a5 t_a6 t_a7 t_a8
  have f8 : w_eqFloat32S z2 z2 = some true := w_eqFloat32S_refl z2 b_z2
  have f9 : (!(z1 == z1)) = false := by cases z1 <;> rfl
  have f10 : w_eqInt64S a1 a1 = some true := w_eqInt64S_refl a1 t_a1
  have f11 : w_eqInt64S a2 a2 = some true := w_eqInt64S_refl a2 t_a2
  have f12 : w_eqFloat32S a3 a3 = some true := w_eqFloat32S_refl a3 t_a3
  have f13 : w_eqInt64S a5 a5 = some true := w_eqInt64S_refl a5 t_a5
  have f14 : w_eqInt64S a6 a6 = some true := w_eqInt64S_refl a6 t_a6
  have f15 : w_eqFloat32S a7 a7 = some true := w_eqFloat32S_refl a7 t_a7
  have f16 : w_eqFloat32S a8 a8 = some true := w_eqFloat32S_refl a8 t_a8
  have f17 : w_markInt64S_0o 1 a1 = some ((1 + (a1.length : Int)), marksI 1 a1.length) := w_markInt64S_0o_eq 1 a1 (by omega) (by omega) t_a1
  have f18 : w_markInt64S_0o (1 + (a1.length : Int)) a2 = some (((1 + (a1.length : Int)) + (a2.length : Int)), marksI (1 + (a1.length : Int)) a2.length) := w_markInt64S_0o_eq (1 + (a1.length : Int)) a2 (by omega) (by omega) t_a2
  have f19 : w_markFloat32S_0o ((1 + (a1.length : Int)) + (a2.length : Int)) a3 = some ((((1 + (a1.length : Int)) + (a2.length : Int)) + (a3.length : Int)), marks ((1 + (a1.length : Int)) + (a2.length : Int)) a3.length) := w_markFloat32S_0o_eq ((1 + (a1.length : Int)) + (a2.length : Int)) a3 (by omega) (by omega) t_a3
  have f20 : w_markInt64S_0o (((1 + (a1.length : Int)) + (a2.length : Int)) + (a3.length : Int)) a5 = some (((((1 + (a1.length : Int)) + (a2.length : Int)) + (a3.length : Int)) + (a5.length : Int)), marksI (((1 + (a1.length : Int)) + (a2.length : Int)) + (a3.length : Int)) a5.length) := w_markInt64S_0o_eq (((1 + (a1.length : Int)) + (a2.length : Int)) + (a3.length : Int)) a5 (by omega) (by omega) t_a5
  have f21 : w_markInt64S_0o ((((1 + (a1.length : Int)) + (a2.length : Int)) + (a3.length : Int)) + (a5.length : Int)) a6 = some ((((((1 + (a1.length : Int)) + (a2.length : Int)) + (a3.length : Int)) + (a5.length : Int)) + (a6.length : Int)), marksI ((((1 + (a1.length : Int)) + (a2.length : Int)) + (a3.length : Int)) + (a5.length : Int)) a6.length) := w_markInt64S_0o_eq ((((1 + (a1.length : Int)) + (a2.length : Int)) + (a3.length : Int)) + (a5.length : Int)) a6 (by omega) (by omega) t_a6
  have f22 : w_markFloat32S_0o (((((1 + (a1.length : Int)) + (a2.length : Int)) + (a3.length : Int)) + (a5.length : Int)) + (a6.length : Int)) a7 = some (((((((1 + (a1.length : Int)) + (a2.length : Int)) + (a3.length : Int)) + (a5.length : Int)) + (a6.length : Int)) + (a7.length : Int)), marks (((((1 + (a1.length : Int)) + (a2.length : Int)) + (a3.length : Int)) + (a5.length : Int)) + (a6.length : Int)) a7.length) := w_markFloat32S_0o_eq (((((1 + (a1.length : Int)) + (a2.length : Int)) + (a3.length : Int)) + (a5.length : Int)) + (a6.length : Int)) a7 (by omega) (by omega) t_a7
  have f23 : w_markFloat32S_0o ((((((1 + (a1.length : Int)) + (a2.length : Int)) + (a3.length : Int)) + (a5.length : Int)) + (a6.length : Int)) + (a7.length : Int)) a8 = some ((((((((1 + (a1.length : Int)) + (a2.length : Int)) + (a3.length : Int)) + (a5.length : Int)) + (a6.length : Int)) + (a7.length : Int)) + (a8.length : Int)), marks ((((((1 + (a1.length : Int)) + (a2.length : Int)) + (a3.length : Int)) + (a5.length : Int)) + (a6.length : Int)) + (a7.length : Int)) a8.length) := w_markFloat32S_0o_eq ((((((1 + (a1.length : Int)) + (a2.length : Int)) + (a3.length : Int)) + (a5.length : Int)) + (a6.length : Int)) + (a7.length : Int)) a8 (by omega) (by omega) t_a8
  have f24 : decide ((((((((1 + (a1.length : Int)) + (a2.length : Int)) + (a3.length : Int)) + (a5.length : Int)) + (a6.length : Int)) + (a7.length : Int)) + (a8.length : Int)) < 0) = false := by simp <;> omega
  have f25 : w_markFloat32S_0o 1 z2 = some ((1 + (z2.length : Int)), marks 1 z2.length) := w_markFloat32S_0o_eq 1 z2 (by omega) (by omega) b_z2
  have f26 : w_heldFloat32S (marks 1 z2.length) 1 = some (1 + (z2.length : Int)) := w_heldFloat32S_eq 1 z2.length (by omega) (by omega) b_z2
  have f27 : decide ((1 + (z2.length : Int)) < 0) = false := by simp <;> omega
  simp only [w_FnExactSparseWith, w_eqSparse, w_markSparse_01o_02o1_03o2, w_szSparse, w_toSparse, db0, e0, d0, e1, d1, e2, d2, e3, d3, e4, d4, e5, d5, f1, f2, f3, f4, f5, f6, f7, p1, p2, f8, f9, f10, f11, f12, f13, f14, f15, f16, f17, f18, f19, f20, f21, f22, f23, f24, f25, f26, f27, obind_eq, obind2_eq, obind3_eq, obind4_eq, obind5_eq, obind6_eq, obind7_eq, obind8_eq, bsel_true, bsel_false, need_true, olet_eq, marks_len, marksI_len, decide_true, Bool.not_true, Bool.not_false]

end Go.Proofs.Ytcoookgeialmnaa
