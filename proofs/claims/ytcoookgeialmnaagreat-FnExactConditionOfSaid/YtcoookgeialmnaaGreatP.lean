/- The plain law of FnExactConditionOf. -/
import Derived.Test.YtcoookgeialmnaaGreatG2
namespace Go.Proofs.YtcoookgeialmnaaGreat
set_option linter.unusedSimpArgs false
set_option linter.unusedVariables false
open Go Go.AM
def Small {α : Type} (l : List α) : Prop := l.length ≤ 9223372036854775807
theorem sz_one (n : Nat) (a : Int) (hn : n ≤ 9223372036854775807) (h0 : 0 ≤ a) (h1 : a ≤ 1048576) :
    ∃ r, olet (IntKind.i64.wrap (a - (n : Int))) (fun x1 => bsel (decide (x1 < 0)) (some (-1)) (some x1)) = some r ∧ (0 ≤ r → (n : Int) ≤ a ∧ r ≤ a) := by
  rw [wrap_i64 (by omega) (by omega)]
  simp only [olet_eq, bsel_if, decide_eq_true_eq]
  split
  · exact ⟨_, rfl, fun h => by omega⟩
  · exact ⟨_, rfl, fun h => by omega⟩
theorem w_szFloat32S_ex (l : List F) (a : Int) (hn : Small l) (h0 : 0 ≤ a) (h1 : a ≤ 1048576) : ∃ r, w_szFloat32S l a = some r ∧ (0 ≤ r → (l.length : Int) ≤ a ∧ r ≤ a) := sz_one l.length a hn h0 h1
theorem w_toFloat32S_eq (a : List F) (h : a.length ≤ 1048576) : w_toFloat32S a = some a := by
  unfold w_toFloat32S
  have hm : mkok 4 (a.length : Int) = true := by simp [mkok]; omega
  rw [hm, need_true, loop_copy (a := a) (ρ := List F) ?_ ?_ _ (by simp)]
  · rfl
  · intro L v x h0 hv hx hL
    show w_toFloat32S_b1 a L v = _
    unfold w_toFloat32S_b1
    have hs := setAt?_of (l := L) (x := x) h0 (by omega)
    simp [bsel_if, hv, at?_of h0 hx, hs, wrap_succ h0 hv (by omega : a.length ≤ 9223372036854775807)]
  · intro L hL
    show w_toFloat32S_b1 a L (a.length : Int) = _
    unfold w_toFloat32S_b1
    simp [bsel_if]
theorem w_sameFloat_refl (c : F) : w_sameFloat c c = some true := by
  unfold w_sameFloat
  cases h : feq .f64 c c <;> simp [w_sameFloat_k1, h, bsel_if]
theorem w_eqFloat32S_refl (a : List F) (h : a.length ≤ 1048576) : w_eqFloat32S a a = some true := by
  unfold w_eqFloat32S
  rw [loop_eq (l := a) (m := a) rfl ?_ ?_]
  · simp [bsel_if, w_eqFloat32S_k1]
  · intro v x y h0 hv hx hy
    rw [hx] at hy; cases hy
    show w_eqFloat32S_b1 a a v = _
    unfold w_eqFloat32S_b1
    rw [at?_of h0 hx, wrap_succ h0 hv (by omega)]
    simp [bsel_if, hv, w_sameFloat_refl]
  · show w_eqFloat32S_b1 a a (a.length : Int) = _
    unfold w_eqFloat32S_b1
    simp [bsel_if]
def FOks (l : List F) : Prop := ∀ c ∈ l, FOk .f32 c
theorem FOks.at {l : List F} (h : FOks l) {i : Nat} {c : F} (e : l[i]? = some c) : FOk .f32 c := h c (List.mem_of_getElem? e)
theorem s_l00In_eq (n lo hi : Int) : s_l00In n lo hi = some (decide (lo ≤ n) && decide (n ≤ hi)) := by
  unfold s_l00In; cases decide (lo ≤ n) <;> rfl
theorem i_inRange_eq (n lo hi : Int) : i_inRange n lo hi = some (decide (lo ≤ n) && decide (n ≤ hi)) := by
  unfold i_inRange; cases decide (lo ≤ n) <;> rfl
theorem s_l01Finite_eq {c : F} (h : FOk .f32 c) : s_l01Finite c = some (fin32 c) := by
  unfold s_l01Finite; rw [olet_eq, sub_self h]
theorem s_l02Finite_eq {a : List F} (ha : FOks a) (sa : a.length ≤ 1048576) : s_l02Finite a = some (a.all fin32) := by
  unfold s_l02Finite
  rw [loop_all (l := a) (p := fin32) false ?_ ?_]
  · cases h : a.all fin32 <;> simp [s_l02Finite_k1]
  · intro v x h0 hv hx
    show s_l02Finite_b1 a v = _
    unfold s_l02Finite_b1
    rw [at?_of h0 hx, wrap_succ h0 hv (by omega)]
    simp [bsel_if, hv, s_l01Finite_eq (ha.at hx)]
  · show s_l02Finite_b1 a (a.length : Int) = _
    unfold s_l02Finite_b1
    simp [bsel_if]
theorem i_IsFinite_eq {c : F} (h : FOk .f32 c) : i_IsFinite c = some (fin32 c) := by
  unfold i_IsFinite i_isFinite64 x_math_IsNaN x_math_IsInf x_math_Abs x_math_IsInf_k1
  cases c with
  | none => simp [fwiden, fin32]
  | some b =>
    have hw := feq_refl (k := .f64) (b := FloatKind.f64.encode (FloatKind.f32.decode b)) (fwiden_ok h)
    have hw' : feq .f64 (fwiden (some b)) (fwiden (some b)) = true := hw
    have hm := fabs_max h (by simp)
    simp only [olet_eq, obind_eq, hw', Bool.not_true, bsel_false, decide_true, bsel_true, hm, Bool.not_not]
theorem i_areFinite_1_eq {c : F} (h : FOk .f32 c) : i_areFinite_1 c = some (!fin32 c) := by
  unfold i_areFinite_1; rw [i_IsFinite_eq h]; rfl
theorem any_not {α : Type} (l : List α) (p : α → Bool) : l.any (fun x => !p x) = !l.all p := by
  induction l with
  | nil => rfl
  | cons a l ih => simp [ih]
theorem i_areFinite_eq {a : List F} (ha : FOks a) (sa : a.length ≤ 1048576) : i_areFinite a = some (a.all fin32) := by
  unfold i_areFinite x_slices_ContainsFunc_float32_float32_1Fi_areFinite_1 x_slices_IndexFunc_float32_float32_1Fi_areFinite_1
  obtain ⟨r, h1, h2⟩ := loop_find (l := a) (p := fun c => !fin32 c) (step := x_slices_IndexFunc_float32_float32_1Fi_areFinite_1_s1 a) (by
    intro v x h0 hv hx
    show x_slices_IndexFunc_float32_float32_1Fi_areFinite_1_b1 a v = _
    unfold x_slices_IndexFunc_float32_float32_1Fi_areFinite_1_b1
    rw [at?_of h0 hx, wrap_succ h0 hv (by omega)]
    simp [bsel_if, hv, i_areFinite_1_eq (ha.at hx)]) (by
    show x_slices_IndexFunc_float32_float32_1Fi_areFinite_1_b1 a (a.length : Int) = _
    unfold x_slices_IndexFunc_float32_float32_1Fi_areFinite_1_b1
    simp [bsel_if])
  rw [h1, any_not]
  cases h : a.all fin32 <;> simp [x_slices_IndexFunc_float32_float32_1Fi_areFinite_1_k1, h2]
def marks (k : Int) (n : Nat) : List F := (List.range n).map fun (i : Nat) => fint .f32 (k + (i : Int))
def marksI (k : Int) (n : Nat) : List Int := (List.range n).map fun (i : Nat) => k + (i : Int)
theorem marks_len (k : Int) (n : Nat) : (marks k n).length = n := by simp [marks]
theorem marksI_len (k : Int) (n : Nat) : (marksI k n).length = n := by simp [marksI]
abbrev q1 : List F := [some 1073741824, some 1065353216, some 1065353216, some 1073741824]
theorem small_mul {x y : Nat} (hx : x ≤ 12) (hy : y ≤ 12) : x * y ≤ 144 := Nat.mul_le_mul hx hy
def side (n : Int) : Bool := decide (1 ≤ n) && decide (n ≤ 12)
theorem s_l02Sides_eq (x y : Int) : s_l02Sides x y = some (side x && side y) := by
  unfold s_l02Sides; rw [s_l00In_eq, s_l00In_eq]; unfold side
  cases decide (1 ≤ x) <;> cases decide (x ≤ 12) <;> rfl
theorem i_isSide_eq (x : Int) : i_isSide x = some (side x) := by
  unfold i_isSide; rw [i_inRange_eq]; rfl
def validM (a0 a1 : Int) (a2 : List F) : Bool := side a0 && side a1 && decide ((a2.length : Int) = IntKind.i64.wrap (a0 * a1)) && a2.all fin32
theorem s_l02Is_eq (a0 a1 : Int) {a2 : List F} (g2 : FOks a2) (s2 : a2.length ≤ 1048576) : s_l02Is a0 a1 a2 = some (validM a0 a1 a2) := by
  unfold s_l02Is validM
  rw [s_l02Sides_eq, s_l02Finite_eq g2 s2]
  cases side a0 <;> cases side a1 <;> simp [bsel_if] <;> split <;> simp_all
theorem i_ValidMatrix_eq (a0 a1 : Int) {a2 : List F} (g2 : FOks a2) (s2 : a2.length ≤ 1048576) : i_ValidMatrix a0 a1 a2 = some (validM a0 a1 a2) := by
  unfold i_ValidMatrix i_length_float32 validM
  rw [i_isSide_eq, i_isSide_eq, i_areFinite_eq g2 s2]
  cases side a0 <;> cases side a1 <;> simp [bsel_if] <;> split <;> simp_all
theorem side_nat {n : Int} (h : side n = true) : ∃ m : Nat, n = (m : Int) ∧ 0 < m ∧ m ≤ 12 := by
  simp [side] at h
  exact ⟨n.toNat, by omega, by omega, by omega⟩
theorem FOks.getD {l : List F} (h : FOks l) (n : Nat) : FOk .f32 (l.getD n none) := by
  simp only [List.getD]
  cases e : l[n]? with
  | none => exact fok_none _
  | some c => exact h.at e
theorem FOks.set {l : List F} (h : FOks l) {n : Nat} {x : F} (hx : FOk .f32 x) : FOks (l.set n x) := by
  intro c hc
  rcases List.mem_or_eq_of_mem_set hc with h1 | h1
  · exact h c h1
  · exact h1 ▸ hx
theorem wsucc {i : Nat} (h : i ≤ 1000000000) : IntKind.i64.wrap ((i : Int) + 1) = ((i + 1 : Nat) : Int) := by
  rw [wrap_i64 (by omega) (by omega)]; omega
theorem dlt {i n : Nat} (h : i < n) : decide ((i : Int) < (n : Int)) = true := by simp; omega
theorem dnlt {n : Nat} : decide ((n : Int) < (n : Int)) = false := by simp
theorem i_Matrix_at_eq {A C i k : Nat} {L : List F} (r : Int) (h : Mat A C L) (hi : i < A) (hk : k < C) : i_Matrix_at r (C : Int) L (i : Int) (k : Int) = some (gm none L C i k) := by
  obtain ⟨e1, e2⟩ := idx_w h.A1 h.C1 hi hk
  unfold i_Matrix_at
  rw [e1, olet_eq, e2, olet_eq, at?_n none (h.lt hi hk), obind_eq]
theorem s_l02At_eq {A C i k : Nat} {L : List F} (r : Int) (h : Mat A C L) (hi : i < A) (hk : k < C) : s_l02At r (C : Int) L (i : Int) (k : Int) = some (gm none L C i k) := by
  obtain ⟨e1, e2⟩ := idx_w h.A1 h.C1 hi hk
  unfold s_l02At
  rw [e1, olet_eq, e2, olet_eq, at?_n none (h.lt hi hk), obind_eq]
theorem i_Matrix_set_02o_eq {A C i k : Nat} {L : List F} (r : Int) (h : Mat A C L) (hi : i < A) (hk : k < C) (x : F) : i_Matrix_set_02o r (C : Int) (i : Int) (k : Int) x L = some (sm L C i k x) := by
  obtain ⟨e1, e2⟩ := idx_w h.A1 h.C1 hi hk
  unfold i_Matrix_set_02o
  rw [e1, olet_eq, e2, olet_eq, setAt?_n x (h.lt hi hk), obind_eq]
theorem i_absolute_eq {c : F} (h : FOk .f32 c) : i_absolute c = some (fabs32 c) := by
  unfold i_absolute x_math_Abs
  rw [olet_eq, olet_eq, obind_eq, abs_narrow h, obind_eq]
theorem s_l02Size_eq {c : F} (h : FOk .f32 c) : s_l02Size c = some (fabs32 c) := by
  unfold s_l02Size
  rw [← size_abs h, bsel_if, olet_eq]
  split <;> rfl
theorem i_mul_eq (a b : F) : i_mul a b = some (fop .mul .f32 a b) := rfl
def findP (C k : Nat) (L : List F) (r b : Nat) : Nat := if flt .f32 (fabs32 (gm none L C b k)) (fabs32 (gm none L C r k)) = true then r else b
theorem s_l03Find_eq {n k : Nat} {L : List F} (g : FOks L) (h : Mat n n L) (hk : k < n) : s_l03Find (n : Int) (n : Int) L (k : Int) = some ((run (findP n k L) (k + 1) (n - (k + 1)) k : Nat) : Int) ∧ run (findP n k L) (k + 1) (n - (k + 1)) k < n := by
  have hn := h.A1
  obtain ⟨e, hI⟩ := loop_run (step := s_l03Find_s3 (n : Int) (n : Int) L (k : Int)) (fun (i b : Nat) => ((b : Int), (i : Int))) (findP n k L) (fun (b : Nat) => (b : Int)) (fun (_ b : Nat) => b < n) (lo := k + 1) (n := n) hk (s0 := k) hk
    (fun i b h1 h2 h4 => by
      refine ⟨?_, ?_⟩
      · show s_l03Find_b3 _ _ _ _ _ _ = _
        unfold s_l03Find_b3
        rw [dlt h2, bsel_true, s_l02At_eq _ h h2 hk, obind_eq, s_l02Size_eq (g.getD _), obind_eq, s_l02At_eq _ h h4 hk, obind_eq, s_l02Size_eq (g.getD _), obind_eq]
        unfold s_l03Find_k2
        rw [wsucc (by omega)]
        unfold findP
        cases flt .f32 (fabs32 (gm none L n b k)) (fabs32 (gm none L n i k)) <;> rfl
      · unfold findP; split <;> omega)
    (fun b _ => by
      show s_l03Find_b3 _ _ _ _ _ _ = _
      unfold s_l03Find_b3
      rw [dnlt, bsel_false])
  refine ⟨?_, hI⟩
  unfold s_l03Find
  rw [wsucc (by omega), olet_eq, e]
  rfl
theorem i_FactorRows_find {n k : Nat} {L : List F} (g : FOks L) (h : Mat n n L) (hk : k < n) : loopM (i_FactorRows_s8 (n : Int) (n : Int) (n : Int) L (k : Int)) ((k : Int), (k : Int)) = some (.inl ((run (findP n k L) (k + 1) (n - (k + 1)) k : Nat) : Int)) := by
  have hn := h.A1
  obtain ⟨e, _⟩ := loop_run (step := i_FactorRows_s8 (n : Int) (n : Int) (n : Int) L (k : Int)) (fun (i b : Nat) => ((b : Int), (i : Int))) (findP n k L) (fun (b : Nat) => (b : Int)) (fun (_ b : Nat) => b < n) (lo := k) (n := n) (Nat.le_of_lt hk) (s0 := k) hk
    (fun i b h1 h2 h4 => by
      refine ⟨?_, ?_⟩
      · show i_FactorRows_b8 _ _ _ _ _ _ _ = _
        unfold i_FactorRows_b8
        rw [dlt h2, bsel_true, i_Matrix_at_eq _ h h2 hk, obind_eq, i_absolute_eq (g.getD _), obind_eq, i_Matrix_at_eq _ h h4 hk, obind_eq, i_absolute_eq (g.getD _), obind_eq]
        unfold i_FactorRows_k7
        rw [wsucc (by omega)]
        unfold findP
        cases flt .f32 (fabs32 (gm none L n b k)) (fabs32 (gm none L n i k)) <;> rfl
      · unfold findP; split <;> omega)
    (fun b _ => by
      show i_FactorRows_b8 _ _ _ _ _ _ _ = _
      unfold i_FactorRows_b8
      rw [dnlt, bsel_false])
  rw [e, show n - k = (n - (k + 1)) + 1 by omega, run_succ]
  have : findP n k L k k = k := by unfold findP; split <;> rfl
  rw [this]
def swapP {α : Type} (d : α) (C i j c : Nat) (L : List α) : List α := sm (sm L C i c (gm d L C j c)) C j c (gm d L C i c)
theorem swapP_mat {α : Type} {d : α} {A C i j c : Nat} {L : List α} (h : Mat A C L) : Mat A C (swapP d C i j c L) := (h.set _ _ _).set _ _ _
theorem swapP_oks {C i j c : Nat} {L : List F} (h : FOks L) : FOks (swapP none C i j c L) := (h.set (h.getD _)).set (h.getD _)
theorem swapP_comm {α : Type} {d : α} {A C i j c : Nat} {L : List α} (h : Mat A C L) (hi : i < A) (hj : j < A) (hc : c < C) : swapP d C i j c L = swapP d C j i c L := by
  unfold swapP
  by_cases e : i = j
  · subst e; rfl
  · have hne : i * C + c ≠ j * C + c := fun e2 => e (idx_eq hc hc e2).1
    exact List.set_comm _ _ hne
def swapR {α : Type} (d : α) (C i j : Nat) (L : List α) : List α := run (swapP d C i j) 0 C L
theorem swapR_mat {α : Type} {d : α} {A C i j : Nat} {L : List α} (h : Mat A C L) : Mat A C (swapR d C i j L) := run_inv (fun _ L => Mat A C L) C 0 L h fun _ _ _ _ h => swapP_mat h
theorem swapR_oks {C i j : Nat} {L : List F} (h : FOks L) : FOks (swapR none C i j L) := run_inv (fun _ L => FOks L) C 0 L h fun _ _ _ _ h => swapP_oks h
theorem swapR_comm {α : Type} {d : α} {A C i j : Nat} {L : List α} (h : Mat A C L) (hi : i < A) (hj : j < A) : swapR d C i j L = swapR d C j i L :=
  run_congr (fun _ L => Mat A C L) C 0 L h fun c L _ hc hL => ⟨swapP_comm hL hi hj (by omega), swapP_mat hL⟩
theorem getD_of_lt {α : Type} {l : List α} {n : Nat} (d : α) (h : n < l.length) : l[n]? = some (l.getD n d) := by simp [List.getD, h]
theorem fin_all {L : List F} : L.all fin32 = true ↔ ∀ n, n < L.length → fin32 (L.getD n none) = true := by
  rw [List.all_eq_true]
  constructor
  · intro h n hn; exact h _ (List.mem_of_getElem? (getD_of_lt none hn))
  · intro h c hc
    obtain ⟨n, hn, e⟩ := List.mem_iff_getElem.1 hc
    have := h n hn
    simpa [List.getD, hn, e] using this
theorem fin_set {L : List F} (h : L.all fin32 = true) {n : Nat} {x : F} (hx : fin32 x = true) : (L.set n x).all fin32 = true := by
  rw [List.all_eq_true] at h ⊢
  intro c hc
  rcases List.mem_or_eq_of_mem_set hc with h1 | h1
  · exact h c h1
  · exact h1 ▸ hx
theorem swapP_fin {A C i j c : Nat} {L : List F} (m : Mat A C L) (hi : i < A) (hj : j < A) (hc : c < C) (h : L.all fin32 = true) : (swapP none C i j c L).all fin32 = true :=
  fin_set (fin_set h (fin_all.1 h _ (m.lt hj hc))) (fin_all.1 h _ (m.lt hi hc))
theorem swapR_fin {A C i j : Nat} {L : List F} (m : Mat A C L) (hi : i < A) (hj : j < A) (h : L.all fin32 = true) : (swapR none C i j L).all fin32 = true :=
  (run_inv (fun _ L => Mat A C L ∧ L.all fin32 = true) C 0 L ⟨m, h⟩ fun _ _ _ hc h => ⟨swapP_mat h.1, swapP_fin h.1 hi hj (by omega) h.2⟩).2
theorem i_Matrix_swapRows_02o_eq {A C i j : Nat} {L : List F} (h : Mat A C L) (hi : i < A) (hj : j < A) : i_Matrix_swapRows_02o (A : Int) (C : Int) (i : Int) (j : Int) L = some (swapR none C i j L) := by
  have hC := h.C1
  obtain ⟨e, _⟩ := loop_run (step := i_Matrix_swapRows_02o_s1 (A : Int) (C : Int) (i : Int) (j : Int) L) (fun c L => (L, (c : Int))) (swapP none C i j) (fun L => L) (fun _ L' => Mat A C L') (lo := 0) (n := C) (Nat.zero_le _) (s0 := L) h
    (fun c L' h1 h2 h3 => by
      refine ⟨?_, swapP_mat h3⟩
      show i_Matrix_swapRows_02o_b1 _ _ _ _ _ _ _ = _
      unfold i_Matrix_swapRows_02o_b1
      have l1 : decide ((sm L' C i c (gm none L' C j c)).length = L.length) = true := by simp [h3.len, h.len]
      have l2 : decide ((sm (sm L' C i c (gm none L' C j c)) C j c (gm none L' C i c)).length = L.length) = true := by simp [h3.len, h.len]
      rw [dlt h2, bsel_true, i_Matrix_at_eq _ h3 hi h2, obind_eq, i_Matrix_at_eq _ h3 hj h2, obind_eq, i_Matrix_set_02o_eq _ h3 hi h2, obind_eq, l1, need_true, i_Matrix_set_02o_eq _ (h3.set _ _ _) hj h2, obind_eq, l2, need_true, wsucc (by omega)]
      rfl)
    (fun L' _ => by
      show i_Matrix_swapRows_02o_b1 _ _ _ _ _ _ _ = _
      unfold i_Matrix_swapRows_02o_b1
      rw [dnlt, bsel_false])
  unfold i_Matrix_swapRows_02o
  replace e : loopM (i_Matrix_swapRows_02o_s1 (A : Int) (C : Int) (i : Int) (j : Int) L) (L, 0) = some (.inl (run (swapP none C i j) 0 (C - 0) L)) := e
  rw [e]; rfl
theorem s_l03Swap_0p0_C02o1_3o2_eq {A C i j : Nat} {L : List F} (ord : List Int) (h : Mat A C L) (hi : i < A) (hj : j < A) : s_l03Swap_0p0_C02o1_3o2 (i : Int) (j : Int) (A : Int) (C : Int) L ord = some (swapR none C i j L, ord) := by
  have hC := h.C1
  obtain ⟨e, _⟩ := loop_run (step := s_l03Swap_0p0_C02o1_3o2_s1 (i : Int) (j : Int) (C : Int)) (fun c L => (L, (c : Int))) (swapP none C i j) (fun L => L) (fun _ L' => Mat A C L') (lo := 0) (n := C) (Nat.zero_le _) (s0 := L) h
    (fun c L' h1 h2 h3 => by
      refine ⟨?_, swapP_mat h3⟩
      show s_l03Swap_0p0_C02o1_3o2_b1 _ _ _ _ _ = _
      unfold s_l03Swap_0p0_C02o1_3o2_b1
      obtain ⟨e1, e2⟩ := idx_w h.A1 h.C1 hi h2
      obtain ⟨e3, e4⟩ := idx_w h.A1 h.C1 hj h2
      rw [dlt h2, bsel_true]
      simp only [e1, e2, e3, e4, olet_eq, at?_n none (h3.lt hi h2), at?_n none (h3.lt hj h2), obind_eq, setAt?_n _ (h3.lt hi h2), setAt?_n _ ((h3.set _ _ _).lt hj h2), wsucc (show c ≤ 1000000000 by omega)]
      rfl)
    (fun L' _ => by
      show s_l03Swap_0p0_C02o1_3o2_b1 _ _ _ _ _ = _
      unfold s_l03Swap_0p0_C02o1_3o2_b1
      rw [dnlt, bsel_false])
  unfold s_l03Swap_0p0_C02o1_3o2
  replace e : loopM (s_l03Swap_0p0_C02o1_3o2_s1 (i : Int) (j : Int) (C : Int)) (L, 0) = some (.inl (run (swapP none C i j) 0 (C - 0) L)) := e
  rw [e]; rfl
def tradeP (i j : Nat) (l : List Int) : List Int := (l.set i (l.getD j 0)).set j (l.getD i 0)
theorem tradeP_len (i j : Nat) (l : List Int) : (tradeP i j l).length = l.length := by simp [tradeP]
theorem tradeP_comm (i j : Nat) (l : List Int) : tradeP i j l = tradeP j i l := by
  unfold tradeP
  by_cases e : i = j
  · subst e; rfl
  · exact List.set_comm _ _ e
theorem i_swap_0o_eq {i j : Nat} {l : List Int} (hi : i < l.length) (hj : j < l.length) : i_swap_0o (i : Int) (j : Int) l = some (tradeP i j l) := by
  unfold i_swap_0o
  rw [at?_n 0 hj, obind_eq, at?_n 0 hi, obind_eq, setAt?_n _ hi, obind_eq, setAt?_n _ (by simpa using hj)]
  rfl
theorem s_l03Trade_0o_eq {i j : Nat} {l : List Int} (hi : i < l.length) (hj : j < l.length) : s_l03Trade_0o (i : Int) (j : Int) l = some (tradeP i j l) := by
  unfold s_l03Trade_0o
  rw [at?_n 0 hi, obind_eq, at?_n 0 hj, obind_eq, setAt?_n _ hi, obind_eq, setAt?_n _ (by simpa using hj)]
  rfl
def upTo (n : Nat) : List Int := (List.range n).map fun (i : Nat) => (i : Int)
theorem upTo_len (n : Nat) : (upTo n).length = n := by simp [upTo]
theorem run_upTo : ∀ n : Nat, run (fun (i : Nat) (l : List Int) => l ++ [(i : Int)]) 0 n [] = upTo n
  | 0 => rfl
  | n + 1 => by rw [run_last, run_upTo n]; simp [upTo, List.range_succ]
theorem i_ascending_eq {n : Nat} (hn : n ≤ 12) : i_ascending (n : Int) = some (upTo n) := by
  obtain ⟨e, _⟩ := loop_run (step := i_ascending_s1 (n : Int)) (fun c L => (L, (c : Int))) (fun (i : Nat) (l : List Int) => l ++ [(i : Int)]) (fun L => L) (fun i L => L.length = i) (lo := 0) (n := n) (Nat.zero_le _) (s0 := []) rfl
    (fun c L h1 h2 h3 => by
      refine ⟨?_, by simp [h3]⟩
      show i_ascending_b1 _ _ _ = _
      unfold i_ascending_b1
      have ap : apok 8 L.length 1 = true := by simp [apok]; omega
      rw [dlt h2, bsel_true, ap, need_true, wsucc (by omega)]
      rfl)
    (fun L _ => by
      show i_ascending_b1 _ _ _ = _
      unfold i_ascending_b1
      rw [dnlt, bsel_false])
  unfold i_ascending
  replace e : loopM (i_ascending_s1 (n : Int)) ([], 0) = some (.inl (run (fun (i : Nat) (l : List Int) => l ++ [(i : Int)]) 0 (n - 0) [])) := e
  rw [e, Nat.sub_zero, run_upTo]; rfl
theorem s_l03Count_eq {n : Nat} (hn : n ≤ 12) : s_l03Count (n : Int) = some (upTo n) := by
  obtain ⟨e, _⟩ := loop_run (step := s_l03Count_s1 (n : Int)) (fun c L => (L, (c : Int))) (fun (i : Nat) (l : List Int) => l ++ [(i : Int)]) (fun L => L) (fun i L => L.length = i) (lo := 0) (n := n) (Nat.zero_le _) (s0 := []) rfl
    (fun c L h1 h2 h3 => by
      refine ⟨?_, by simp [h3]⟩
      show s_l03Count_b1 _ _ _ = _
      unfold s_l03Count_b1
      have ap : apok 8 L.length 1 = true := by simp [apok]; omega
      rw [dlt h2, bsel_true, ap, need_true, wsucc (by omega)]
      rfl)
    (fun L _ => by
      show s_l03Count_b1 _ _ _ = _
      unfold s_l03Count_b1
      rw [dnlt, bsel_false])
  unfold s_l03Count
  replace e : loopM (s_l03Count_s1 (n : Int)) ([], 0) = some (.inl (run (fun (i : Nat) (l : List Int) => l ++ [(i : Int)]) 0 (n - 0) [])) := e
  rw [e, Nat.sub_zero, run_upTo]; rfl
def elimE (C k r : Nat) (f : F) (j : Nat) (L : List F) : List F := sm L C r j (fop .sub .f32 (gm none L C r j) (fop .mul .f32 f (gm none L C k j)))
def elimRow (C k r : Nat) (L : List F) : List F := run (elimE C k r (fop .quo .f32 (gm none L C r k) (gm none L C k k))) (k + 1) (C - (k + 1)) (sm L C r k (fop .quo .f32 (gm none L C r k) (gm none L C k k)))
def elimP (A C k : Nat) (L : List F) : List F := run (elimRow C k) (k + 1) (A - (k + 1)) L
theorem elimE_mat {A C k r j : Nat} {f : F} {L : List F} (h : Mat A C L) : Mat A C (elimE C k r f j L) := h.set _ _ _
theorem elimE_oks {C k r j : Nat} {f : F} {L : List F} (h : FOks L) : FOks (elimE C k r f j L) := h.set (fop_fok _ _ _)
theorem elimRow_mat {A C k r : Nat} {L : List F} (h : Mat A C L) : Mat A C (elimRow C k r L) := run_inv (fun _ L => Mat A C L) _ _ _ (h.set _ _ _) fun _ _ _ _ h => elimE_mat h
theorem elimRow_oks {C k r : Nat} {L : List F} (h : FOks L) : FOks (elimRow C k r L) := run_inv (fun _ L => FOks L) _ _ _ (h.set (fop_fok _ _ _)) fun _ _ _ _ h => elimE_oks h
theorem elimP_mat {A C k : Nat} {L : List F} (h : Mat A C L) : Mat A C (elimP A C k L) := run_inv (fun _ L => Mat A C L) _ _ _ h fun _ _ _ _ h => elimRow_mat h
theorem elimP_oks {A C k : Nat} {L : List F} (h : FOks L) : FOks (elimP A C k L) := run_inv (fun _ L => FOks L) _ _ _ h fun _ _ _ _ h => elimRow_oks h
theorem elimE_keep {A C k r j i c : Nat} {f : F} {L : List F} (h : Mat A C L) (hr : r < A) (hj : j < C) (hc : c < C) (hne : r ≠ i ∨ c < j) : gm none (elimE C k r f j L) C i c = gm none L C i c := by
  unfold elimE
  rw [gm_set h hr hj hc, if_neg]
  rintro ⟨rfl, rfl⟩
  rcases hne with h | h
  · exact h rfl
  · omega
theorem elimRow_keep {A C k r i c : Nat} {L : List F} (h : Mat A C L) (hr : r < A) (hk : k < C) (hc : c < C) (hne : r ≠ i) : gm none (elimRow C k r L) C i c = gm none L C i c := by
  unfold elimRow
  have h1 := run_inv (f := elimE C k r (fop .quo .f32 (gm none L C r k) (gm none L C k k))) (fun _ L' => Mat A C L' ∧ gm none L' C i c = gm none L C i c) (C - (k + 1)) (k + 1) (sm L C r k (fop .quo .f32 (gm none L C r k) (gm none L C k k)))
    ⟨h.set _ _ _, by rw [gm_set h hr hk hc, if_neg (fun e => hne e.1)]⟩ (fun j L' a b hI => ⟨elimE_mat hI.1, by rw [elimE_keep hI.1 hr (by omega) hc (.inl hne)]; exact hI.2⟩)
  exact h1.2
theorem i_Matrix_eliminate_02o_eq {A C k : Nat} {L : List F} (h : Mat A C L) (hkA : k < A) (hkC : k < C) : i_Matrix_eliminate_02o (A : Int) (C : Int) (k : Int) L = some (elimP A C k L) := by
  have hC := h.C1
  have hA := h.A1
  have inner : ∀ (r : Nat) (f : F) (L' : List F), r < A → Mat A C L' → loopM (i_Matrix_eliminate_02o_s2 (A : Int) (C : Int) (k : Int) L (r : Int) f) (L', ((k + 1 : Nat) : Int)) = some (.inl (run (elimE C k r f) (k + 1) (C - (k + 1)) L')) ∧ Mat A C (run (elimE C k r f) (k + 1) (C - (k + 1)) L') := by
    intro r f L' hr hL'
    exact loop_run (step := i_Matrix_eliminate_02o_s2 (A : Int) (C : Int) (k : Int) L (r : Int) f) (fun j L => (L, (j : Int))) (elimE C k r f) (fun L => L) (fun _ L => Mat A C L) (lo := k + 1) (n := C) hkC (s0 := L') hL'
      (fun j L2 h1 h2 h3 => by
        refine ⟨?_, elimE_mat h3⟩
        show i_Matrix_eliminate_02o_b2 _ _ _ _ _ _ _ _ = _
        unfold i_Matrix_eliminate_02o_b2
        have l1 : decide ((elimE C k r f j L2).length = L.length) = true := by simp [(elimE_mat (k := k) (r := r) (j := j) (f := f) h3).len, h.len]
        unfold elimE at l1
        rw [dlt h2, bsel_true, i_Matrix_at_eq _ h3 hr h2, obind_eq, i_Matrix_at_eq _ h3 hkA h2, obind_eq, i_mul_eq, obind_eq, olet_eq, i_Matrix_set_02o_eq _ h3 hr h2, obind_eq, l1, need_true, wsucc (by omega)]
        rfl)
      (fun L2 _ => by
        show i_Matrix_eliminate_02o_b2 _ _ _ _ _ _ _ _ = _
        unfold i_Matrix_eliminate_02o_b2
        rw [dnlt, bsel_false])
  obtain ⟨e, _⟩ := loop_run (step := i_Matrix_eliminate_02o_s3 (A : Int) (C : Int) (k : Int) L) (fun j L => (L, (j : Int))) (elimRow C k) (fun L => L) (fun _ L => Mat A C L) (lo := k + 1) (n := A) hkA (s0 := L) h
    (fun r L2 h1 h2 h3 => by
      refine ⟨?_, elimRow_mat h3⟩
      show i_Matrix_eliminate_02o_b3 _ _ _ _ _ _ = _
      unfold i_Matrix_eliminate_02o_b3
      have l1 : decide ((sm L2 C r k (fop .quo .f32 (gm none L2 C r k) (gm none L2 C k k))).length = L.length) = true := by simp [h3.len, h.len]
      obtain ⟨i1, i2⟩ := inner r (fop .quo .f32 (gm none L2 C r k) (gm none L2 C k k)) _ h2 (h3.set r k (fop .quo .f32 (gm none L2 C r k) (gm none L2 C k k)))
      rw [dlt h2, bsel_true, i_Matrix_at_eq _ h3 h2 hkC, obind_eq, i_Matrix_at_eq _ h3 hkA hkC, obind_eq, olet_eq, i_Matrix_set_02o_eq _ h3 h2 hkC, obind_eq, l1, need_true, wsucc (by omega), olet_eq, i1, obind_eq, osum_inl]
      unfold i_Matrix_eliminate_02o_k2
      rw [wsucc (by omega)]
      rfl)
    (fun L2 _ => by
      show i_Matrix_eliminate_02o_b3 _ _ _ _ _ _ = _
      unfold i_Matrix_eliminate_02o_b3
      rw [dnlt, bsel_false])
  unfold i_Matrix_eliminate_02o
  rw [wsucc (by omega), olet_eq, e]
  rfl
theorem fin_not {A C : Nat} {L : List F} (h : Mat A C L) {i c : Nat} (hi : i < A) (hc : c < C) (hx : fin32 (gm none L C i c) = false) : L.all fin32 = false := by
  cases e : L.all fin32 with
  | false => rfl
  | true => have := fin_all.1 e _ (h.lt hi hc); rw [hx] at this; cases this
theorem s_l03Clear_0p0_C02o1_3o2_eq {A C k : Nat} {L : List F} (ord : List Int) (g : FOks L) (hfin : L.all fin32 = true) (h : Mat A C L) (hkA : k < A) (hkC : k < C) :
    (s_l03Clear_0p0_C02o1_3o2 (k : Int) (A : Int) (C : Int) L ord = some (true, elimP A C k L, ord) ∧ (elimP A C k L).all fin32 = true) ∨ (∃ L', s_l03Clear_0p0_C02o1_3o2 (k : Int) (A : Int) (C : Int) L ord = some (false, L', ord) ∧ L'.length = L.length ∧ (elimP A C k L).all fin32 = false) := by
  have hC := h.C1
  have hA := h.A1
  -- one row, number by number
  let fE : Nat → F → Nat → List F → List F ⊕ (Bool × List F × List Int) := fun r f j L2 => if fin32 (fop .sub .f32 (gm none L2 C r j) (fop .mul .f32 f (gm none L2 C k j))) = true then .inl (elimE C k r f j L2) else .inr (false, elimE C k r f j L2, ord)
  have inner : ∀ (r : Nat) (f : F) (L' : List F), k < r → r < A → Mat A C L' → FOks L' → L'.all fin32 = true →
      (loopM (s_l03Clear_0p0_C02o1_3o2_s2 (k : Int) (C : Int) ord (r : Int) f) (L', ((k + 1 : Nat) : Int)) = some (.inl (run (elimE C k r f) (k + 1) (C - (k + 1)) L')) ∧ (run (elimE C k r f) (k + 1) (C - (k + 1)) L').all fin32 = true) ∨
      (∃ L'', loopM (s_l03Clear_0p0_C02o1_3o2_s2 (k : Int) (C : Int) ord (r : Int) f) (L', ((k + 1 : Nat) : Int)) = some (.inr (false, L'', ord)) ∧ L''.length = L.length ∧ ∃ c, c < C ∧ fin32 (gm none (run (elimE C k r f) (k + 1) (C - (k + 1)) L') C r c) = false) := by
    intro r f L' hkr hr hL' hg' hf'
    have hstep : ∀ (j : Nat) (L2 : List F), k + 1 ≤ j → j < C → Mat A C L2 ∧ FOks L2 ∧ L2.all fin32 = true →
        (∃ s', fE r f j L2 = .inl s' ∧ s_l03Clear_0p0_C02o1_3o2_s2 (k : Int) (C : Int) ord (r : Int) f (L2, (j : Int)) = some (.next (s', ((j + 1 : Nat) : Int))) ∧ (Mat A C s' ∧ FOks s' ∧ s'.all fin32 = true)) ∨ (∃ q, fE r f j L2 = .inr q ∧ s_l03Clear_0p0_C02o1_3o2_s2 (k : Int) (C : Int) ord (r : Int) f (L2, (j : Int)) = some (.ret q)) := by
      intro j L2 h1 h2 ⟨h3, h4, h5⟩
      have hb : s_l03Clear_0p0_C02o1_3o2_s2 (k : Int) (C : Int) ord (r : Int) f (L2, (j : Int)) = bsel (fin32 (fop .sub .f32 (gm none L2 C r j) (fop .mul .f32 f (gm none L2 C k j)))) (some (.next (elimE C k r f j L2, ((j + 1 : Nat) : Int)))) (some (.ret (false, elimE C k r f j L2, ord))) := by
        show s_l03Clear_0p0_C02o1_3o2_b2 _ _ _ _ _ _ _ = _
        unfold s_l03Clear_0p0_C02o1_3o2_b2
        obtain ⟨e1, e2⟩ := idx_w h.A1 h.C1 hr h2
        obtain ⟨e3, e4⟩ := idx_w h.A1 h.C1 hkA h2
        rw [dlt h2, bsel_true]
        simp only [e1, e2, e3, e4, olet_eq, at?_n none (h3.lt hr h2), at?_n none (h3.lt hkA h2), obind_eq, setAt?_n _ (h3.lt hr h2), wsucc (show j ≤ 1000000000 by omega), s_l01Finite_eq (fop_fok .f32 _ _)]
        rfl
      cases hx : fin32 (fop .sub .f32 (gm none L2 C r j) (fop .mul .f32 f (gm none L2 C k j))) with
      | true =>
        refine .inl ⟨elimE C k r f j L2, by simp only [fE, hx, if_true], by rw [hb, hx, bsel_true], elimE_mat h3, elimE_oks h4, ?_⟩
        unfold elimE; exact fin_set h5 hx
      | false => exact .inr ⟨(false, elimE C k r f j L2, ord), by simp only [fE, hx]; rfl, by rw [hb, hx, bsel_false]⟩
    have hrun := runE_run (f := fE r f) (g := elimE C k r f) (fun _ L2 => Mat A C L2 ∧ FOks L2 ∧ L2.all fin32 = true) (fun j L2 => Mat A C L2 ∧ ∃ c, c < j ∧ c < C ∧ fin32 (gm none L2 C r c) = false) (fun q => ∃ L'', q = (false, L'', ord) ∧ L''.length = L.length) (C - (k + 1)) (k + 1) L' ⟨hL', hg', hf'⟩
      (fun j L2 h1 h2 ⟨h3, h4, h5⟩ => by
        cases hx : fin32 (fop .sub .f32 (gm none L2 C r j) (fop .mul .f32 f (gm none L2 C k j))) with
        | true =>
          refine .inl ⟨by simp only [fE, hx, if_true], elimE_mat h3, elimE_oks h4, ?_⟩
          unfold elimE; exact fin_set h5 hx
        | false =>
          refine .inr ⟨(false, elimE C k r f j L2, ord), by simp only [fE, hx]; rfl, ⟨_, rfl, by rw [(elimE_mat h3).len, h.len]⟩, elimE_mat h3, j, by omega, by omega, ?_⟩
          unfold elimE
          rw [gm_set h3 hr (by omega) (by omega), if_pos ⟨rfl, rfl⟩]; exact hx)
      (fun j L2 h1 h2 ⟨h3, c, h4, h5, h6⟩ => ⟨elimE_mat h3, c, by omega, h5, by rw [elimE_keep h3 hr (by omega) h5 (.inr h4)]; exact h6⟩)
    rcases loop_runE (step := s_l03Clear_0p0_C02o1_3o2_s2 (k : Int) (C : Int) ord (r : Int) f) (fun j L => (L, (j : Int))) (fE r f) (fun L => L) (fun _ L2 => Mat A C L2 ∧ FOks L2 ∧ L2.all fin32 = true) (lo := k + 1) (n := C) hkC (s0 := L') ⟨hL', hg', hf'⟩ hstep
      (fun L2 _ => by
        show s_l03Clear_0p0_C02o1_3o2_b2 _ _ _ _ _ _ _ = _
        unfold s_l03Clear_0p0_C02o1_3o2_b2
        rw [dnlt, bsel_false]) with ⟨s', e1, e2, e3⟩ | ⟨q, e1, e2⟩
    · rcases hrun with ⟨h1, h2⟩ | ⟨q, h1, _⟩
      · rw [e1] at h1
        have := Sum.inl.inj h1
        subst this
        exact .inl ⟨e2, h2.2.2⟩
      · rw [e1] at h1; cases h1
    · rcases hrun with ⟨h1, h2⟩ | ⟨q', h1, ⟨L'', h2, h3⟩, h4, c, _, h5, h6⟩
      · rw [e1] at h1; cases h1
      · rw [e1] at h1
        have := Sum.inr.inj h1
        subst this
        exact .inr ⟨L'', by rw [e2, h2], h3, c, h5, h6⟩
  -- row by row
  let gR : Nat → List F → List F ⊕ (Bool × List F × List Int) := fun r L2 =>
    match s_l03Clear_0p0_C02o1_3o2_s3 (k : Int) (A : Int) (C : Int) ord (L2, (r : Int)) with
    | some (.next s) => .inl s.1
    | some (.ret q) => .inr q
    | _ => .inl L2
  have hrow : ∀ (r : Nat) (L2 : List F), k + 1 ≤ r → r < A → Mat A C L2 ∧ FOks L2 ∧ L2.all fin32 = true →
      (s_l03Clear_0p0_C02o1_3o2_s3 (k : Int) (A : Int) (C : Int) ord (L2, (r : Int)) = some (.next (elimRow C k r L2, ((r + 1 : Nat) : Int))) ∧ (elimRow C k r L2).all fin32 = true) ∨
      (∃ L'', s_l03Clear_0p0_C02o1_3o2_s3 (k : Int) (A : Int) (C : Int) ord (L2, (r : Int)) = some (.ret (false, L'', ord)) ∧ L''.length = L.length ∧ ∃ c, c < C ∧ fin32 (gm none (elimRow C k r L2) C r c) = false) := by
    intro r L2 h1 h2 ⟨h3, h4, h5⟩
    obtain ⟨e1, e2⟩ := idx_w h.A1 h.C1 h2 hkC
    obtain ⟨e3, e4⟩ := idx_w h.A1 h.C1 hkA hkC
    have hb : s_l03Clear_0p0_C02o1_3o2_s3 (k : Int) (A : Int) (C : Int) ord (L2, (r : Int)) = bsel (fin32 (fop .quo .f32 (gm none L2 C r k) (gm none L2 C k k)))
        (obind (loopM (s_l03Clear_0p0_C02o1_3o2_s2 (k : Int) (C : Int) ord (r : Int) (fop .quo .f32 (gm none L2 C r k) (gm none L2 C k k))) (sm L2 C r k (fop .quo .f32 (gm none L2 C r k) (gm none L2 C k k)), ((k + 1 : Nat) : Int))) fun z => osum z (fun e => s_l03Clear_0p0_C02o1_3o2_k2 (r : Int) e) (fun r => some (LR.ret r)))
        (some (.ret (false, sm L2 C r k (fop .quo .f32 (gm none L2 C r k) (gm none L2 C k k)), ord))) := by
      show s_l03Clear_0p0_C02o1_3o2_b3 _ _ _ _ _ _ = _
      unfold s_l03Clear_0p0_C02o1_3o2_b3
      rw [dlt h2, bsel_true]
      simp only [e1, e2, e3, e4, olet_eq, at?_n none (h3.lt h2 hkC), at?_n none (h3.lt hkA hkC), obind_eq, setAt?_n _ (h3.lt h2 hkC), wsucc (show k ≤ 1000000000 by omega), s_l01Finite_eq (fop_fok .f32 _ _)]
    rw [hb]
    cases hx : fin32 (fop .quo .f32 (gm none L2 C r k) (gm none L2 C k k)) with
    | true =>
      rw [bsel_true]
      rcases inner r (fop .quo .f32 (gm none L2 C r k) (gm none L2 C k k)) (sm L2 C r k (fop .quo .f32 (gm none L2 C r k) (gm none L2 C k k))) (by omega) h2 (h3.set _ _ _) (h4.set (fop_fok _ _ _)) (fin_set h5 hx) with ⟨i1, i2⟩ | ⟨L'', i1, i2, c, i3, i4⟩
      · refine .inl ⟨?_, i2⟩
        rw [i1, obind_eq, osum_inl]
        unfold s_l03Clear_0p0_C02o1_3o2_k2
        rw [wsucc (by omega)]; rfl
      · exact .inr ⟨L'', by rw [i1]; rfl, i2, c, i3, i4⟩
    | false =>
      rw [bsel_false]
      refine .inr ⟨_, rfl, by rw [(h3.set _ _ _).len, h.len], k, hkC, ?_⟩
      unfold elimRow
      have hkeep := run_inv (f := elimE C k r (fop .quo .f32 (gm none L2 C r k) (gm none L2 C k k))) (fun j L' => Mat A C L' ∧ k < j ∧ gm none L' C r k = fop .quo .f32 (gm none L2 C r k) (gm none L2 C k k)) (C - (k + 1)) (k + 1) (sm L2 C r k (fop .quo .f32 (gm none L2 C r k) (gm none L2 C k k)))
        ⟨h3.set _ _ _, by omega, by rw [gm_set h3 h2 hkC hkC, if_pos ⟨rfl, rfl⟩]⟩ (fun j L' a b hI => ⟨elimE_mat hI.1, by omega, by rw [elimE_keep hI.1 h2 (by omega) hkC (.inr hI.2.1)]; exact hI.2.2⟩)
      rw [hkeep.2.2]; exact hx
  have hrun := runE_run (f := gR) (g := elimRow C k) (fun _ L2 => Mat A C L2 ∧ FOks L2 ∧ L2.all fin32 = true) (fun j L2 => Mat A C L2 ∧ ∃ r c, r < j ∧ r < A ∧ c < C ∧ fin32 (gm none L2 C r c) = false) (fun q => ∃ L'', q = (false, L'', ord) ∧ L''.length = L.length) (A - (k + 1)) (k + 1) L ⟨h, g, hfin⟩
    (fun r L2 h1 h2 h3 => by
      rcases hrow r L2 h1 (by omega) h3 with ⟨i1, i2⟩ | ⟨L'', i1, i2, c, i3, i4⟩
      · exact .inl ⟨by simp only [gR, i1], elimRow_mat h3.1, elimRow_oks h3.2.1, i2⟩
      · exact .inr ⟨(false, L'', ord), by simp only [gR, i1], ⟨L'', rfl, i2⟩, elimRow_mat h3.1, r, c, by omega, by omega, i3, i4⟩)
    (fun j L2 h1 h2 ⟨h3, r, c, h4, h5, h6, h7⟩ => ⟨elimRow_mat h3, r, c, by omega, h5, h6, by rw [elimRow_keep h3 (by omega) hkC h6 (by omega)]; exact h7⟩)
  have hE : k + 1 + (A - (k + 1)) = A := by omega
  rw [hE] at hrun
  rcases loop_runE (step := s_l03Clear_0p0_C02o1_3o2_s3 (k : Int) (A : Int) (C : Int) ord) (fun j L => (L, (j : Int))) gR (fun L => L) (fun _ L2 => Mat A C L2 ∧ FOks L2 ∧ L2.all fin32 = true) (lo := k + 1) (n := A) hkA (s0 := L) ⟨h, g, hfin⟩
    (fun r L2 h1 h2 h3 => by
      rcases hrow r L2 h1 h2 h3 with ⟨i1, i2⟩ | ⟨L'', i1, i2, c, i3, i4⟩
      · exact .inl ⟨elimRow C k r L2, by simp only [gR, i1], i1, elimRow_mat h3.1, elimRow_oks h3.2.1, i2⟩
      · exact .inr ⟨(false, L'', ord), by simp only [gR, i1], i1⟩)
    (fun L2 _ => by
      show s_l03Clear_0p0_C02o1_3o2_b3 _ _ _ _ _ _ = _
      unfold s_l03Clear_0p0_C02o1_3o2_b3
      rw [dnlt, bsel_false]) with ⟨s', e1, e2, e3⟩ | ⟨q, e1, e2⟩
  · rcases hrun with ⟨h1, h2⟩ | ⟨q, h1, _⟩
    · rw [e1] at h1
      have := Sum.inl.inj h1
      subst this
      refine .inl ⟨?_, h2.2.2⟩
      unfold s_l03Clear_0p0_C02o1_3o2
      rw [wsucc (by omega), olet_eq, e2]; rfl
    · rw [e1] at h1; cases h1
  · rcases hrun with ⟨h1, h2⟩ | ⟨q', h1, ⟨L'', h2, h3⟩, h4, r, c, _, h5, h6, h7⟩
    · rw [e1] at h1; cases h1
    · rw [e1] at h1
      have := Sum.inr.inj h1
      subst this
      refine .inr ⟨L'', ?_, h3, fin_not h4 h5 h6 h7⟩
      unfold s_l03Clear_0p0_C02o1_3o2
      rw [wsucc (by omega), olet_eq, e2, h2]; rfl
theorem s_l02Square_eq (a0 a1 : Int) {a2 : List F} (g2 : FOks a2) (s2 : a2.length ≤ 1048576) : s_l02Square a0 a1 a2 = some (validM a0 a1 a2 && decide (a0 = a1)) := by
  unfold s_l02Square
  rw [s_l02Is_eq a0 a1 g2 s2, obind_eq]
  cases validM a0 a1 a2 <;> rfl
theorem i_isSquare_eq (a0 a1 : Int) {a2 : List F} (g2 : FOks a2) (s2 : a2.length ≤ 1048576) : i_isSquare a0 a1 a2 = some (validM a0 a1 a2 && decide (a0 = a1)) := by
  unfold i_isSquare
  rw [i_ValidMatrix_eq a0 a1 g2 s2, obind_eq]
  cases validM a0 a1 a2 <;> rfl
theorem valid_mat {a0 a1 : Int} {a2 : List F} (h : validM a0 a1 a2 = true) : ∃ A C : Nat, a0 = (A : Int) ∧ a1 = (C : Int) ∧ 0 < A ∧ 0 < C ∧ Mat A C a2 ∧ a2.all fin32 = true := by
  simp only [validM, Bool.and_eq_true, decide_eq_true_eq] at h
  obtain ⟨⟨⟨v1, v2⟩, v3⟩, v4⟩ := h
  obtain ⟨A, rfl, A0, A1⟩ := side_nat v1
  obtain ⟨C, rfl, C0, C1⟩ := side_nat v2
  have hAC := small_mul A1 C1
  rw [← Int.natCast_mul, wn (by omega)] at v3
  exact ⟨A, C, rfl, rfl, A0, C0, ⟨A1, C1, by omega⟩, v4⟩
theorem mat_valid {A C : Nat} {L : List F} (h : Mat A C L) (hA : 0 < A) (hC : 0 < C) : validM (A : Int) (C : Int) L = L.all fin32 := by
  unfold validM side
  have hAC := small_mul h.A1 h.C1
  have h1 := h.A1
  have h2 := h.C1
  rw [← Int.natCast_mul, wn (by omega), h.len]
  have e1 : decide ((1 : Int) ≤ (A : Int)) = true := by simp; omega
  have e2 : decide ((A : Int) ≤ 12) = true := by simp; omega
  have e3 : decide ((1 : Int) ≤ (C : Int)) = true := by simp; omega
  have e4 : decide ((C : Int) ≤ 12) = true := by simp; omega
  rw [e1, e2, e3, e4]
  simp
theorem s_l02Own_eq (a0 a1 : Int) {L : List F} (h : L.length ≤ 1048576) : s_l02Own a0 a1 L = some (a0, a1, L) := by
  have ap : apok 4 0 L.length = true := by simp [apok]; omega
  unfold s_l02Own; rw [ap]; rfl
theorem i_Matrix_clone_eq (a0 a1 : Int) {L : List F} (h : L.length ≤ 1048576) : i_Matrix_clone a0 a1 L = some (a0, a1, L) := by
  have ap : apok 4 0 L.length = true := by simp [apok]; omega
  unfold i_Matrix_clone x_slices_Clone_float32_float32; rw [ap]; rfl
def frPick (n k p : Nat) (s : List F × List Int) : (List F × List Int) ⊕ (Int × Int × Bool × List F × List Int) :=
  bif feq .f32 (gm none s.1 n p k) (some 0) then .inr (0, 0, false, [], [])
  else bif (elimP n n k (swapR none n k p s.1)).all fin32 then .inl (elimP n n k (swapR none n k p s.1), tradeP k p s.2)
  else .inr (0, 0, false, [], [])
def frStep (n k : Nat) (s : List F × List Int) : (List F × List Int) ⊕ (Int × Int × Bool × List F × List Int) := frPick n k (run (findP n k s.1) (k + 1) (n - (k + 1)) k) s
structure FrInv (n : Nat) (s : List F × List Int) : Prop where
  m : Mat n n s.1
  g : FOks s.1
  f : s.1.all fin32 = true
  o : s.2.length = n
theorem s_FactorRows_step {n k : Nat} {s : List F × List Int} (r4 : List F) (r5 : List Int) (h4 : r4.length = n * n) (h5 : r5.length = n) (hk : k < n) (h : FrInv n s) :
    s_FactorRows_b1 (n : Int) (n : Int) (n : Int) r4 r5 s.1 s.2 (k : Int) = match frStep n k s with | .inl s' => some (.next (s'.1, s'.2, ((k + 1 : Nat) : Int))) | .inr q => some (.ret q) := by
  have hn := h.m.A1
  obtain ⟨p1, p2⟩ := s_l03Find_eq h.g h.m hk
  unfold s_FactorRows_b1 frStep
  rw [dlt hk, bsel_true, p1, obind_eq]
  generalize run (findP n k s.1) (k + 1) (n - (k + 1)) k = p at p2
  unfold frPick
  rw [s_l02At_eq _ h.m p2 hk, obind_eq]
  cases hz : feq .f32 (gm none s.1 n p k) (some 0) with
  | true => rfl
  | false =>
    rw [bsel_false, cond_false]
    have m1 : Mat n n (swapR none n k p s.1) := swapR_mat h.m
    have l1 : decide ((swapR none n k p s.1).length = r4.length) = true := by simp [m1.len, h4]
    have l2 : decide (s.2.length = r5.length) = true := by simp [h.o, h5]
    have l3 : decide ((tradeP k p s.2).length = r5.length) = true := by simp [tradeP_len, h.o, h5]
    have ho1 : k < s.2.length := by rw [h.o]; exact hk
    have ho2 : p < s.2.length := by rw [h.o]; exact p2
    rw [s_l03Swap_0p0_C02o1_3o2_eq _ h.m hk p2, obind2_eq, l1, need_true, l2, need_true, s_l03Trade_0o_eq ho1 ho2, obind_eq, l3, need_true]
    rcases s_l03Clear_0p0_C02o1_3o2_eq (tradeP k p s.2) (swapR_oks h.g) (swapR_fin h.m hk p2 h.f) m1 hk hk with ⟨c1, c2⟩ | ⟨L', c1, c2, c3⟩
    · have l4 : decide ((elimP n n k (swapR none n k p s.1)).length = r4.length) = true := by simp [(elimP_mat m1).len, h4]
      rw [c1, obind3_eq, l4, need_true, l3, need_true, c2, wsucc (by omega)]
      rfl
    · have l4 : decide (L'.length = r4.length) = true := by simp [c2, m1.len, h4]
      rw [c1, obind3_eq, l4, need_true, l3, need_true, c3]
      rfl
theorem i_FactorRows_step {n k : Nat} {s : List F × List Int} (r4 : List F) (r5 : List Int) (h4 : r4.length = n * n) (h5 : r5.length = n) (hk : k < n) (h : FrInv n s) :
    i_FactorRows_b9 (n : Int) (n : Int) (n : Int) r4 r5 s.1 s.2 (k : Int) = match frStep n k s with | .inl s' => some (.next (s'.1, s'.2, ((k + 1 : Nat) : Int))) | .inr q => some (.ret q) := by
  have hn := h.m.A1
  have p1 := i_FactorRows_find h.g h.m hk
  have p2 := (s_l03Find_eq h.g h.m hk).2
  unfold i_FactorRows_b9 frStep
  rw [dlt hk, bsel_true, p1, obind_eq, osum_inl]
  generalize run (findP n k s.1) (k + 1) (n - (k + 1)) k = p at p2
  unfold i_FactorRows_k8 frPick
  rw [i_Matrix_at_eq _ h.m p2 hk, obind_eq]
  cases hz : feq .f32 (gm none s.1 n p k) (some 0) with
  | true => rfl
  | false =>
    rw [bsel_false, cond_false]
    have m1 : Mat n n (swapR none n k p s.1) := swapR_mat h.m
    have l1 : decide ((swapR none n k p s.1).length = r4.length) = true := by simp [m1.len, h4]
    have l3 : decide ((tradeP k p s.2).length = r5.length) = true := by simp [tradeP_len, h.o, h5]
    have ho1 : k < s.2.length := by rw [h.o]; exact hk
    have ho2 : p < s.2.length := by rw [h.o]; exact p2
    have l4 : decide ((elimP n n k (swapR none n k p s.1)).length = r4.length) = true := by simp [(elimP_mat m1).len, h4]
    rw [i_Matrix_swapRows_02o_eq h.m p2 hk, swapR_comm h.m p2 hk, obind_eq, l1, need_true, i_swap_0o_eq ho2 ho1, tradeP_comm p k, obind_eq, l3, need_true, i_Matrix_eliminate_02o_eq m1 hk hk, obind_eq, l4, need_true,
      i_ValidMatrix_eq _ _ (elimP_oks (swapR_oks h.g)) (elimP_mat m1).le, mat_valid (elimP_mat m1) (by omega) (by omega), obind_eq, wsucc (by omega)]
    cases (elimP n n k (swapR none n k p s.1)).all fin32 <;> rfl
theorem frStep_inv {n k : Nat} {s s' : List F × List Int} (hk : k < n) (h : FrInv n s) (e : frStep n k s = .inl s') : FrInv n s' := by
  have p2 := (s_l03Find_eq h.g h.m hk).2
  unfold frStep at e
  generalize run (findP n k s.1) (k + 1) (n - (k + 1)) k = p at e p2
  unfold frPick at e
  cases hz : feq .f32 (gm none s.1 n p k) (some 0) with
  | true => rw [hz, cond_true] at e; cases e
  | false =>
    rw [hz, cond_false] at e
    cases hf : (elimP n n k (swapR none n k p s.1)).all fin32 with
    | false => rw [hf, cond_false] at e; cases e
    | true =>
      rw [hf, cond_true] at e
      cases e
      exact ⟨elimP_mat (swapR_mat h.m), elimP_oks (swapR_oks h.g), hf, by rw [tradeP_len]; exact h.o⟩
theorem FactorRows_loops {n : Nat} {L : List F} {o : List Int} (h : FrInv n (L, o)) :
    (∃ q, loopM (s_FactorRows_s1 (n : Int) (n : Int) (n : Int) L o) (L, o, 0) = some q ∧ loopM (i_FactorRows_s9 (n : Int) (n : Int) (n : Int) L o) (L, o, 0) = some q ∧ ((∃ L' o', q = .inl (L', o') ∧ L'.length ≤ 1048576 ∧ o'.length ≤ 1048576 ∧ FOks L') ∨ q = .inr (0, 0, false, [], []))) := by
  have hs : ∀ k s, 0 ≤ k → k < n → FrInv n s → (∃ s', frStep n k s = .inl s' ∧ s_FactorRows_s1 (n : Int) (n : Int) (n : Int) L o (s.1, s.2, (k : Int)) = some (.next (s'.1, s'.2, ((k + 1 : Nat) : Int))) ∧ FrInv n s') ∨ (∃ r, frStep n k s = .inr r ∧ s_FactorRows_s1 (n : Int) (n : Int) (n : Int) L o (s.1, s.2, (k : Int)) = some (.ret r)) := by
    intro k s _ hk hI
    have := s_FactorRows_step L o h.m.len h.o hk hI
    cases e : frStep n k s with
    | inl s' => rw [e] at this; exact .inl ⟨s', rfl, this, frStep_inv hk hI e⟩
    | inr r => rw [e] at this; exact .inr ⟨r, rfl, this⟩
  have hi : ∀ k s, 0 ≤ k → k < n → FrInv n s → (∃ s', frStep n k s = .inl s' ∧ i_FactorRows_s9 (n : Int) (n : Int) (n : Int) L o (s.1, s.2, (k : Int)) = some (.next (s'.1, s'.2, ((k + 1 : Nat) : Int))) ∧ FrInv n s') ∨ (∃ r, frStep n k s = .inr r ∧ i_FactorRows_s9 (n : Int) (n : Int) (n : Int) L o (s.1, s.2, (k : Int)) = some (.ret r)) := by
    intro k s _ hk hI
    have := i_FactorRows_step L o h.m.len h.o hk hI
    cases e : frStep n k s with
    | inl s' => rw [e] at this; exact .inl ⟨s', rfl, this, frStep_inv hk hI e⟩
    | inr r => rw [e] at this; exact .inr ⟨r, rfl, this⟩
  obtain ⟨e1, e2⟩ := loop_endE (step := s_FactorRows_s1 (n : Int) (n : Int) (n : Int) L o) (fun (k : Nat) (s : List F × List Int) => (s.1, s.2, (k : Int))) (frStep n) (fun s => s) (fun _ s => FrInv n s) (lo := 0) (n := n) (Nat.zero_le _) (s0 := (L, o)) h hs
    (fun s _ => by
      show s_FactorRows_b1 _ _ _ _ _ _ _ _ = _
      unfold s_FactorRows_b1
      rw [dnlt, bsel_false])
  obtain ⟨e3, _⟩ := loop_endE (step := i_FactorRows_s9 (n : Int) (n : Int) (n : Int) L o) (fun (k : Nat) (s : List F × List Int) => (s.1, s.2, (k : Int))) (frStep n) (fun s => s) (fun _ s => FrInv n s) (lo := 0) (n := n) (Nat.zero_le _) (s0 := (L, o)) h hi
    (fun s _ => by
      show i_FactorRows_b9 _ _ _ _ _ _ _ _ = _
      unfold i_FactorRows_b9
      rw [dnlt, bsel_false])
  refine ⟨_, e1, e3, ?_⟩
  have hn := h.m.A1
  cases e : runE (frStep n) 0 (n - 0) (L, o) with
  | inl s' =>
    have hI := e2 s' e
    have := hI.m.le
    have ho := hI.o
    exact .inl ⟨s'.1, s'.2, rfl, this, by omega, hI.g⟩
  | inr r =>
    right
    have hq : r = (0, 0, false, [], []) := by
      refine runE_ret (P := fun r => r = (0, 0, false, [], [])) (fun k s r e => ?_) e
      unfold frStep frPick at e
      generalize run (findP n k s.1) (k + 1) (n - (k + 1)) k = p at e
      cases hz : feq .f32 (gm none s.1 n p k) (some 0) with
      | true => rw [hz, cond_true] at e; cases e; rfl
      | false =>
        rw [hz, cond_false] at e
        cases hf : (elimP n n k (swapR none n k p s.1)).all fin32 with
        | false => rw [hf, cond_false] at e; cases e; rfl
        | true => rw [hf, cond_true] at e; cases e
    rw [hq]; rfl
theorem FactorRows_full (a0 a1 : Int) (a2 : List F) (g : FOks a2) (s2 : a2.length ≤ 1048576) : ∃ x y b L o, s_FactorRows a0 a1 a2 = some (x, y, b, L, o) ∧ i_FactorRows a0 a1 a2 = some (x, y, b, L, o) ∧ L.length ≤ 1048576 ∧ o.length ≤ 1048576 ∧ FOks L := by
  unfold s_FactorRows i_FactorRows
  rw [s_l02Square_eq a0 a1 g s2, i_isSquare_eq a0 a1 g s2, obind_eq, obind_eq]
  cases hv : validM a0 a1 a2 && decide (a0 = a1) with
  | false => exact ⟨_, _, _, _, _, rfl, rfl, by simp, by simp, fun x hx => by cases hx⟩
  | true =>
    rw [bsel_true, bsel_true]
    simp only [Bool.and_eq_true, decide_eq_true_eq] at hv
    obtain ⟨A, C, rfl, rfl, A0, C0, m, f⟩ := valid_mat hv.1
    have : A = C := by omega
    subst this
    obtain ⟨q, e1, e2, h⟩ := FactorRows_loops (o := upTo A) ⟨m, g, f, upTo_len A⟩
    rw [s_l02Own_eq _ _ s2, i_Matrix_clone_eq _ _ s2, obind3_eq, obind3_eq, s_l03Count_eq m.A1, i_ascending_eq m.A1, obind_eq, obind_eq, e1, e2, obind_eq, obind_eq]
    rcases h with ⟨L', o', rfl, h1, h2, h3⟩ | rfl
    · exact ⟨_, _, _, _, _, rfl, rfl, h1, h2, h3⟩
    · exact ⟨_, _, _, _, _, rfl, rfl, by simp, by simp, fun x hx => by cases hx⟩
theorem s_l02Zero_eq {A C : Nat} (hA : A ≤ 12) (hC : C ≤ 12) : s_l02Zero (A : Int) (C : Int) = some ((A : Int), (C : Int), List.replicate (A * C) (some 0)) := by
  have hAC := small_mul hA hC
  unfold s_l02Zero
  have mk : mkok 4 ((A * C : Nat) : Int) = true := by simp [mkok]; omega
  rw [← Int.natCast_mul, wn (by omega), olet_eq, mk]; rfl
theorem i_newMatrix_eq {A C : Nat} (hA : A ≤ 12) (hC : C ≤ 12) : i_newMatrix (A : Int) (C : Int) = some ((A : Int), (C : Int), List.replicate (A * C) (some 0)) := by
  have hAC := small_mul hA hC
  unfold i_newMatrix
  have mk : mkok 4 ((A * C : Nat) : Int) = true := by simp [mkok]; omega
  rw [← Int.natCast_mul, wn (by omega), olet_eq, mk]; rfl
theorem mat_ext {A C : Nat} {L L' : List F} (h : Mat A C L) (h' : Mat A C L') (e : ∀ i k, i < A → k < C → gm none L C i k = gm none L' C i k) : L = L' := by
  apply List.ext_getElem?
  intro q
  by_cases hq : q < A * C
  · have hC : 0 < C := by
      rcases Nat.eq_zero_or_pos C with h0 | h0
      · subst h0; simp at hq
      · exact h0
    have h1 : q / C < A := (Nat.div_lt_iff_lt_mul hC).2 hq
    have h2 : q % C < C := Nat.mod_lt _ hC
    have h3 : q / C * C + q % C = q := by rw [Nat.mul_comm]; exact Nat.div_add_mod q C
    have := e _ _ h1 h2
    unfold gm at this
    rw [h3] at this
    rw [getD_of_lt none (by rw [h.len]; exact hq), getD_of_lt none (by rw [h'.len]; exact hq), this]
  · rw [List.getElem?_eq_none (by rw [h.len]; omega), List.getElem?_eq_none (by rw [h'.len]; omega)]
def fillR (f : Nat → Nat → F) (C i : Nat) (L : List F) : List F := run (fun k L => sm L C i k (f i k)) 0 C L
def fillA (f : Nat → Nat → F) (A C : Nat) (L : List F) : List F := run (fillR f C) 0 A L
theorem fillR_spec {f : Nat → Nat → F} {A C i : Nat} {L : List F} (h : Mat A C L) (hi : i < A) : Mat A C (fillR f C i L) ∧ ∀ j k, j < A → k < C → gm none (fillR f C i L) C j k = if j = i then f i k else gm none L C j k := by
  have := run_inv (f := fun k L => sm L C i k (f i k)) (fun c L' => Mat A C L' ∧ ∀ j k, j < A → k < C → gm none L' C j k = if j = i ∧ k < c then f i k else gm none L C j k) C 0 L ⟨h, fun j k _ _ => by simp⟩ (fun c L' _ hc hI => by
    refine ⟨hI.1.set _ _ _, fun j k hj hk => ?_⟩
    rw [gm_set hI.1 hi (by omega) hk, hI.2 j k hj hk]
    by_cases e1 : i = j
    · subst e1
      by_cases e2 : c = k
      · subst e2; simp
      · by_cases e3 : k < c
        · rw [if_neg (by omega), if_pos (by omega), if_pos (by omega)]
        · rw [if_neg (by omega), if_neg (by omega), if_neg (by omega)]
    · rw [if_neg (by omega), if_neg (by omega), if_neg (by omega)])
  refine ⟨this.1, fun j k hj hk => ?_⟩
  unfold fillR
  rw [this.2 j k hj hk]
  by_cases e : j = i
  · rw [if_pos ⟨e, by omega⟩, if_pos e]
  · rw [if_neg (by omega), if_neg e]
theorem fillA_spec {f : Nat → Nat → F} {A C : Nat} {L : List F} (h : Mat A C L) : Mat A C (fillA f A C L) ∧ ∀ j k, j < A → k < C → gm none (fillA f A C L) C j k = f j k := by
  have := run_inv (f := fillR f C) (fun r L' => Mat A C L' ∧ ∀ j k, j < r → j < A → k < C → gm none L' C j k = f j k) A 0 L ⟨h, fun j k hj _ _ => by omega⟩ (fun r L' _ hr hI => by
    obtain ⟨s1, s2⟩ := fillR_spec (f := f) hI.1 (show r < A by omega)
    refine ⟨s1, fun j k hj hjA hk => ?_⟩
    rw [s2 j k hjA hk]
    by_cases e : j = r
    · rw [if_pos e, e]
    · rw [if_neg e]; exact hI.2 j k (by omega) hjA hk)
  exact ⟨this.1, fun j k hj hk => this.2 j k (by omega) hj hk⟩
def tabM (A C : Nat) (f : Nat → Nat → F) : List F := fillA f A C (List.replicate (A * C) (some 0))
theorem zmat {A C : Nat} (hA : A ≤ 12) (hC : C ≤ 12) : Mat A C (List.replicate (A * C) (some 0 : F)) := ⟨hA, hC, by simp⟩
theorem tabM_mat {A C : Nat} {f : Nat → Nat → F} (hA : A ≤ 12) (hC : C ≤ 12) : Mat A C (tabM A C f) := (fillA_spec (zmat hA hC)).1
theorem tabM_gm {A C : Nat} {f : Nat → Nat → F} (hA : A ≤ 12) (hC : C ≤ 12) {i k : Nat} (hi : i < A) (hk : k < C) : gm none (tabM A C f) C i k = f i k := (fillA_spec (zmat hA hC)).2 i k hi hk
theorem oks_of_gm {A C : Nat} {L : List F} (h : Mat A C L) (e : ∀ i k, i < A → k < C → FOk .f32 (gm none L C i k)) : FOks L := by
  intro c hc
  obtain ⟨q, hq, rfl⟩ := List.mem_iff_getElem.1 hc
  have hq' : q < A * C := by rw [← h.len]; exact hq
  have hC : 0 < C := by
    rcases Nat.eq_zero_or_pos C with h0 | h0
    · subst h0; simp at hq'
    · exact h0
  have h1 : q / C < A := (Nat.div_lt_iff_lt_mul hC).2 hq'
  have h2 : q % C < C := Nat.mod_lt _ hC
  have h3 : q / C * C + q % C = q := by rw [Nat.mul_comm]; exact Nat.div_add_mod q C
  have := e _ _ h1 h2
  unfold gm at this
  rw [h3] at this
  simpa [List.getD, hq] using this
theorem tabM_oks {A C : Nat} {f : Nat → Nat → F} (hA : A ≤ 12) (hC : C ≤ 12) (hf : ∀ i k, FOk .f32 (f i k)) : FOks (tabM A C f) := oks_of_gm (tabM_mat hA hC) fun i k hi hk => by rw [tabM_gm hA hC hi hk]; exact hf i k
theorem run_map {α : Type} (f : Nat → α) : ∀ n : Nat, run (fun i (l : List α) => l ++ [f i]) 0 n [] = (List.range n).map f
  | 0 => rfl
  | n + 1 => by rw [run_last, run_map f n]; simp [List.range_succ]
def unitF (i k : Nat) : F := bif decide (i = k) then some 1065353216 else some 0
theorem i_unit_1_eq (i k : Nat) : i_unit_1 (i : Int) (k : Int) = some (unitF i k) := by
  unfold i_unit_1 unitF
  by_cases h : i = k
  · subst h; simp
  · rw [show decide ((i : Int) = (k : Int)) = false by simp; omega, show decide (i = k) = false by simp [h]]; rfl
theorem i_made_2Fi_unit_1_eq {A C : Nat} (hA : A ≤ 12) (hC : C ≤ 12) : i_made_2Fi_unit_1 (A : Int) (C : Int) = some ((A : Int), (C : Int), tabM A C unitF) := by
  have inner : ∀ (i : Nat) (L L0 : List F), i < A → Mat A C L → Mat A C L0 → loopM (i_made_2Fi_unit_1_s2 (C : Int) (A : Int) (C : Int) L0 (i : Int)) (L, 0) = some (.inl (fillR unitF C i L)) := by
    intro i L L0 hi hL hL0
    exact (loop_run (step := i_made_2Fi_unit_1_s2 (C : Int) (A : Int) (C : Int) L0 (i : Int)) (fun (k : Nat) (L : List F) => (L, (k : Int))) (fun k L => sm L C i k (unitF i k)) (fun L => L) (fun _ L => Mat A C L) (lo := 0) (n := C) (Nat.zero_le _) (s0 := L) hL
      (fun k L2 _ hk h3 => by
        refine ⟨?_, h3.set _ _ _⟩
        show i_made_2Fi_unit_1_b2 _ _ _ _ _ _ _ = _
        unfold i_made_2Fi_unit_1_b2
        have l1 : decide ((sm L2 C i k (unitF i k)).length = L0.length) = true := by simp [h3.len, hL0.len]
        rw [dlt hk, bsel_true, i_unit_1_eq, obind_eq, i_Matrix_set_02o_eq _ h3 hi hk, obind_eq, l1, need_true, wsucc (by omega)]
        rfl)
      (fun L2 _ => by
        show i_made_2Fi_unit_1_b2 _ _ _ _ _ _ _ = _
        unfold i_made_2Fi_unit_1_b2
        rw [dnlt, bsel_false])).1
  have e := (loop_run (step := i_made_2Fi_unit_1_s3 (A : Int) (C : Int) (A : Int) (C : Int) (List.replicate (A * C) (some 0))) (fun (i : Nat) (L : List F) => (L, (i : Int))) (fillR unitF C) (fun L => L) (fun _ L => Mat A C L) (lo := 0) (n := A) (Nat.zero_le _) (s0 := List.replicate (A * C) (some 0)) (zmat hA hC)
    (fun i L2 _ hi h3 => by
      refine ⟨?_, (fillR_spec h3 hi).1⟩
      show i_made_2Fi_unit_1_b3 _ _ _ _ _ _ _ = _
      unfold i_made_2Fi_unit_1_b3
      rw [dlt hi, bsel_true, inner i L2 _ hi h3 (zmat hA hC), obind_eq, osum_inl]
      unfold i_made_2Fi_unit_1_k2
      rw [wsucc (by omega)]
      rfl)
    (fun L2 _ => by
      show i_made_2Fi_unit_1_b3 _ _ _ _ _ _ _ = _
      unfold i_made_2Fi_unit_1_b3
      rw [dnlt, bsel_false])).1
  unfold i_made_2Fi_unit_1
  replace e : loopM (i_made_2Fi_unit_1_s3 (A : Int) (C : Int) (A : Int) (C : Int) (List.replicate (A * C) (some 0))) (List.replicate (A * C) (some 0), 0) = some (.inl (tabM A C unitF)) := e
  rw [i_newMatrix_eq hA hC, obind3_eq, e]; rfl
theorem i_unit_eq {n : Nat} (hn : n ≤ 12) : i_unit (n : Int) = some ((n : Int), (n : Int), tabM n n unitF) := by
  unfold i_unit
  rw [i_made_2Fi_unit_1_eq hn hn]; rfl
def colP (A C k : Nat) (L : List F) : List F := (List.range A).map fun i => gm none L C i k
theorem colP_len {A C k : Nat} {L : List F} : (colP A C k L).length = A := by simp [colP]
theorem colP_at {A C k i : Nat} {L : List F} (hi : i < A) : (colP A C k L).getD i none = gm none L C i k := by
  simp [colP, List.getD, hi]
theorem i_Matrix_column_eq {A C k : Nat} {L : List F} (h : Mat A C L) (hk : k < C) : i_Matrix_column (A : Int) (C : Int) L (k : Int) = some (colP A C k L) := by
  have hA := h.A1
  obtain ⟨e, _⟩ := loop_run (step := i_Matrix_column_s1 (A : Int) (C : Int) L (k : Int)) (fun (i : Nat) (l : List F) => (l, (i : Int))) (fun i l => l ++ [gm none L C i k]) (fun l => l) (fun i l => l.length = i) (lo := 0) (n := A) (Nat.zero_le _) (s0 := []) rfl
    (fun i l _ hi h3 => by
      refine ⟨?_, by simp [h3]⟩
      show i_Matrix_column_b1 _ _ _ _ _ _ = _
      unfold i_Matrix_column_b1
      have ap : apok 4 l.length 1 = true := by simp [apok]; omega
      rw [dlt hi, bsel_true, i_Matrix_at_eq _ h hi hk, obind_eq, ap, need_true, wsucc (by omega)]
      rfl)
    (fun l _ => by
      show i_Matrix_column_b1 _ _ _ _ _ _ = _
      unfold i_Matrix_column_b1
      rw [dnlt, bsel_false])
  unfold i_Matrix_column
  replace e : loopM (i_Matrix_column_s1 (A : Int) (C : Int) L (k : Int)) ([], 0) = some (.inl (run (fun i l => l ++ [gm none L C i k]) 0 (A - 0) [])) := e
  rw [e, Nat.sub_zero, run_map]; rfl
theorem zero_ok : FOk .f32 (some 0) := ⟨0, rfl, by decide, rfl⟩
theorem tdiv_n (q C : Nat) : (q : Int).tdiv (C : Int) = ((q / C : Nat) : Int) := by rw [Int.tdiv_eq_ediv_of_nonneg (by omega), Int.natCast_ediv]
theorem tmod_n (q C : Nat) : (q : Int).tmod (C : Int) = ((q % C : Nat) : Int) := by rw [Int.tmod_eq_emod_of_nonneg (by omega), Int.natCast_emod]
theorem dne0 {C : Nat} (h : 0 < C) : (!decide ((C : Int) = 0)) = true := by simp; omega
abbrev gI (l : List Int) (i : Nat) : Int := l.getD i 0
structure SpIn (S : Nat) (a1 a2 : List Int) : Prop where
  S1 : 1 ≤ S
  S2 : S ≤ 32
  l1 : a1.length = S + 1
  l2 : a2.length ≤ 512
  z : gI a1 0 = 0
  e : gI a1 S = (a2.length : Int)
structure SpGood (S : Nat) (a1 a2 : List Int) : Prop where
  s : ∀ i, i < S → gI a1 i ≤ gI a1 (i + 1)
  c : ∀ k, k < a2.length → 0 ≤ gI a2 k ∧ gI a2 k ≤ (S : Int) - 1
  o : ∀ i, i < S → ∀ k : Nat, gI a1 i < (k : Int) → (k : Int) < gI a1 (i + 1) → gI a2 (k - 1) < gI a2 k
theorem SpGood.mono {S : Nat} {a1 a2 : List Int} (h : SpGood S a1 a2) : ∀ (d i : Nat), i + d ≤ S → gI a1 i ≤ gI a1 (i + d)
  | 0, i, _ => Int.le_refl _
  | d + 1, i, hd => Int.le_trans (h.mono d i (by omega)) (h.s (i + d) (by omega))
theorem SpGood.lo {S : Nat} {a1 a2 : List Int} (h : SpGood S a1 a2) (i0 : SpIn S a1 a2) {i : Nat} (hi : i ≤ S) : 0 ≤ gI a1 i ∧ gI a1 i ≤ (a2.length : Int) := by
  have h1 := h.mono i 0 (by omega)
  have h2 := h.mono (S - i) i (by omega)
  rw [Nat.zero_add, i0.z] at h1
  rw [show i + (S - i) = S by omega, i0.e] at h2
  exact ⟨h1, h2⟩
def zipW (f : F → F → F) (n : Nat) (l m : List F) : List F := (List.range n).map fun i => f (l.getD i none) (m.getD i none)
def fms (t x y : F) : F := fop .sub .f32 x (fop .mul .f32 t y)
structure SpOk (S : Nat) (a1 a2 : List Int) (a3 : List F) : Prop where
  i : SpIn S a1 a2
  g : SpGood S a1 a2
  l : a3.length = a2.length
theorem at?_i {α : Type} {L : List α} {v : Int} (d : α) (h0 : 0 ≤ v) (h : v.toNat < L.length) : at? L v = some (L.getD v.toNat d) := at?_of h0 (by simp [List.getD, h])
theorem SpOk.row {S : Nat} {a1 a2 : List Int} {a3 : List F} (h : SpOk S a1 a2 a3) {i : Nat} (hi : i < S) : 0 ≤ gI a1 i ∧ gI a1 i ≤ gI a1 (i + 1) ∧ gI a1 (i + 1) ≤ (a2.length : Int) :=
  ⟨(h.g.lo h.i (by omega)).1, h.g.s i hi, (h.g.lo h.i (i := i + 1) (by omega)).2⟩
abbrev GrS := List F × List F × List F × F
def gR (S : Nat) (q : List F) (t : F) (s : GrS) : List F := zipW (fms t) S s.2.1 q
def loK (a1 : List Int) (i : Nat) : Nat := (gI a1 i).toNat
def laK (a1 : List Int) (i : Nat) : Nat := (gI a1 (i + 1)).toNat - 1
structure Root (S : Nat) (a1 a2 : List Int) (a3 : List F) : Prop where
  ok : SpOk S a1 a2 a3
  low : ∀ i, i < S → gI a1 i ≤ gI a1 (i + 1) - 1 ∧ gI a2 (laK a1 i) = (i : Int)
theorem Root.at {S : Nat} {a1 a2 : List Int} {a3 : List F} (h : Root S a1 a2 a3) {i : Nat} (hi : i < S) : loK a1 i ≤ laK a1 i ∧ laK a1 i < a2.length ∧ ((laK a1 i : Nat) : Int) = gI a1 (i + 1) - 1 ∧ ((loK a1 i : Nat) : Int) = gI a1 i := by
  obtain ⟨r1, r2, r3⟩ := h.ok.row hi
  obtain ⟨q1, _⟩ := h.low i hi
  unfold loK laK
  omega
def flipM (n : Nat) (P : List F) : List F := tabM n n (fun i k => gm none P n k i)
theorem flipM_mat {n : Nat} {P : List F} (hn : n ≤ 12) : Mat n n (flipM n P) := tabM_mat hn hn
theorem flipM_gm {n : Nat} {P : List F} (hn : n ≤ 12) {i k : Nat} (hi : i < n) (hk : k < n) : gm none (flipM n P) n i k = gm none P n k i := tabM_gm hn hn hi hk
theorem i_made_2Fi_Matrix_flip_1_eq {n : Nat} {P : List F} (m : Mat n n P) : i_made_2Fi_Matrix_flip_1 (n : Int) (n : Int) (n : Int) (n : Int) P = some ((n : Int), (n : Int), flipM n P) := by
  have hn := m.A1
  have inner : ∀ (i : Nat) (L L0 : List F), i < n → Mat n n L → Mat n n L0 → loopM (i_made_2Fi_Matrix_flip_1_s2 (n : Int) (n : Int) (n : Int) P (n : Int) (n : Int) L0 (i : Int)) (L, 0) = some (.inl (fillR (fun i k => gm none P n k i) n i L)) := by
    intro i L L0 hi hL hL0
    exact (loop_run (step := i_made_2Fi_Matrix_flip_1_s2 (n : Int) (n : Int) (n : Int) P (n : Int) (n : Int) L0 (i : Int)) (fun (k : Nat) (L : List F) => (L, (k : Int))) (fun k L => sm L n i k (gm none P n k i)) (fun L => L) (fun _ L => Mat n n L) (lo := 0) (n := n) (Nat.zero_le _) (s0 := L) hL
      (fun k L2 _ hk h3 => by
        refine ⟨?_, h3.set _ _ _⟩
        show i_made_2Fi_Matrix_flip_1_b2 _ _ _ _ _ _ _ _ _ _ = _
        unfold i_made_2Fi_Matrix_flip_1_b2 i_Matrix_flip_1
        have l1 : decide ((sm L2 n i k (gm none P n k i)).length = L0.length) = true := by simp [h3.len, hL0.len]
        rw [dlt hk, bsel_true, i_Matrix_at_eq _ m hk hi, obind_eq, obind_eq, i_Matrix_set_02o_eq _ h3 hi hk, obind_eq, l1, need_true, wsucc (by omega)]
        rfl)
      (fun L2 _ => by
        show i_made_2Fi_Matrix_flip_1_b2 _ _ _ _ _ _ _ _ _ _ = _
        unfold i_made_2Fi_Matrix_flip_1_b2
        rw [dnlt, bsel_false])).1
  have e := (loop_run (step := i_made_2Fi_Matrix_flip_1_s3 (n : Int) (n : Int) (n : Int) (n : Int) P (n : Int) (n : Int) (List.replicate (n * n) (some 0))) (fun (i : Nat) (L : List F) => (L, (i : Int))) (fillR (fun i k => gm none P n k i) n) (fun L => L) (fun _ L => Mat n n L) (lo := 0) (n := n) (Nat.zero_le _) (s0 := List.replicate (n * n) (some 0)) (zmat hn hn)
    (fun i L2 _ hi h3 => by
      refine ⟨?_, (fillR_spec h3 hi).1⟩
      show i_made_2Fi_Matrix_flip_1_b3 _ _ _ _ _ _ _ _ _ _ = _
      unfold i_made_2Fi_Matrix_flip_1_b3
      rw [dlt hi, bsel_true, inner i L2 _ hi h3 (zmat hn hn), obind_eq, osum_inl]
      unfold i_made_2Fi_Matrix_flip_1_k2
      rw [wsucc (by omega)]
      rfl)
    (fun L2 _ => by
      show i_made_2Fi_Matrix_flip_1_b3 _ _ _ _ _ _ _ _ _ _ = _
      unfold i_made_2Fi_Matrix_flip_1_b3
      rw [dnlt, bsel_false])).1
  unfold i_made_2Fi_Matrix_flip_1
  replace e : loopM (i_made_2Fi_Matrix_flip_1_s3 (n : Int) (n : Int) (n : Int) (n : Int) P (n : Int) (n : Int) (List.replicate (n * n) (some 0))) (List.replicate (n * n) (some 0), 0) = some (.inl (flipM n P)) := e
  rw [i_newMatrix_eq hn hn, obind3_eq, e]; rfl
theorem i_Matrix_flip_eq {n : Nat} {P : List F} (m : Mat n n P) : i_Matrix_flip (n : Int) (n : Int) P = some ((n : Int), (n : Int), flipM n P) := by
  unfold i_Matrix_flip
  rw [i_made_2Fi_Matrix_flip_1_eq m, obind3_eq]
def vget (v : List F) (x : Int) : F := v.getD x.toNat none
def Names (n : Nat) (L : List Int) : Prop := ∀ x ∈ L, 0 ≤ x ∧ x < (n : Int)
theorem Names.at {n : Nat} {L : List Int} (h : Names n L) {j : Nat} (hj : j < L.length) : 0 ≤ L.getD j 0 ∧ L.getD j 0 < (n : Int) := by
  rw [List.getD_eq_getElem?_getD, List.getElem?_eq_getElem hj]
  exact h _ (List.getElem_mem hj)
theorem Names.set {n : Nat} {L : List Int} (h : Names n L) {j : Nat} {x : Int} (hx : 0 ≤ x ∧ x < (n : Int)) : Names n (L.set j x) := fun y hy => (List.mem_or_eq_of_mem_set hy).elim (fun k => h y k) (fun k => by rw [k]; exact hx)
def diagL (n : Nat) (L : List F) : List F := (List.range n).map fun i => gm none L n i i
theorem diagL_len {n : Nat} {L : List F} : (diagL n L).length = n := by simp [diagL]
theorem i_Matrix_middle_eq {n : Nat} {L : List F} (m : Mat n n L) : i_Matrix_middle (n : Int) (n : Int) L = some (diagL n L) := by
  have hn := m.A1
  have hm : imin (n : Int) (n : Int) = (n : Int) := by simp [imin]
  have e := (loop_run (step := i_Matrix_middle_s1 (n : Int) (n : Int) L) (fun (i : Nat) (l : List F) => (l, (i : Int))) (fun i l => l ++ [gm none L n i i]) (fun l => l) (fun i l => l.length = i) (lo := 0) (n := n) (Nat.zero_le _) (s0 := []) rfl
    (fun i l _ hi hl => by
      refine ⟨?_, by simp [hl]⟩
      show i_Matrix_middle_b1 _ _ _ _ _ = _
      unfold i_Matrix_middle_b1
      dsimp only
      have ap : apok 4 l.length 1 = true := by simp [apok, hl]; omega
      rw [hm, dlt hi, bsel_true, i_Matrix_at_eq _ m hi hi, obind_eq, ap, need_true, wsucc (by omega)]
      rfl)
    (fun l _ => by
      show i_Matrix_middle_b1 _ _ _ _ _ = _
      unfold i_Matrix_middle_b1
      rw [hm, dnlt, bsel_false])).1
  rw [Nat.sub_zero, run_map] at e
  unfold i_Matrix_middle
  replace e : loopM (i_Matrix_middle_s1 (n : Int) (n : Int) L) ([], 0) = some (.inl (diagL n L)) := e
  rw [e]; rfl
def swapG {α : Type} (d : α) (j : Nat) (L : List α) : List α := (L.set (j + 1) (L.getD j d)).set j (L.getD (j + 1) d)
def insG {α : Type} (d : α) (lt : α → α → Bool) : Nat → List α → List α
  | 0, L => L
  | j + 1, L => bif lt (L.getD (j + 1) d) (L.getD j d) then insG d lt j (swapG d j L) else L
theorem swapG_len {α : Type} {d : α} {j : Nat} {L : List α} : (swapG d j L).length = L.length := by simp [swapG]
theorem insG_len {α : Type} {d : α} {lt : α → α → Bool} : ∀ (j : Nat) (L : List α), (insG d lt j L).length = L.length
  | 0, _ => rfl
  | j + 1, L => by
    unfold insG
    cases lt (L.getD (j + 1) d) (L.getD j d) with
    | false => rfl
    | true => rw [cond_true, insG_len j, swapG_len]
theorem getD_appG {α : Type} {d : α} {P R : List α} {j : Nat} (h : j < P.length) : (P ++ R).getD j d = P.getD j d := by
  rw [List.getD_eq_getElem?_getD, List.getElem?_append_left h, ← List.getD_eq_getElem?_getD]
theorem swapG_app {α : Type} {d : α} {j : Nat} {P R : List α} (h : j + 1 < P.length) : swapG d j (P ++ R) = swapG d j P ++ R := by
  unfold swapG
  rw [getD_appG h, getD_appG (by omega), List.set_append_left _ _ h, List.set_append_left _ _ (by simp; omega)]
theorem insG_app {α : Type} {d : α} {lt : α → α → Bool} : ∀ (j : Nat) (P R : List α), j < P.length → insG d lt j (P ++ R) = insG d lt j P ++ R
  | 0, _, _, _ => rfl
  | j + 1, P, R, h => by
    unfold insG
    rw [getD_appG h, getD_appG (by omega)]
    cases lt (P.getD (j + 1) d) (P.getD j d) with
    | false => rfl
    | true => rw [cond_true, cond_true, swapG_app h]; exact insG_app j _ _ (by rw [swapG_len]; omega)
theorem swapG_end {α : Type} {d : α} (Q : List α) (a x : α) : swapG d Q.length (Q ++ [a, x]) = Q ++ [x, a] := by
  unfold swapG
  have e1 : (Q ++ [a, x]).getD Q.length d = a := by simp [List.getD_eq_getElem?_getD]
  have e2 : (Q ++ [a, x]).getD (Q.length + 1) d = x := by simp [List.getD_eq_getElem?_getD]
  rw [e1, e2, List.set_append_right _ _ (by omega), List.set_append_right _ _ (by omega)]
  simp
theorem insG_mem {α : Type} {d : α} {lt : α → α → Bool} : ∀ (j : Nat) (P : List α) (x : α), P.length = j → (insG d lt j (P ++ [x])).Perm (P ++ [x])
  | 0, _, _, _ => List.Perm.refl _
  | j + 1, P, x, h => by
    have hne : P ≠ [] := by intro e; rw [e] at h; cases h
    obtain ⟨Q, a, rfl⟩ : ∃ Q a, P = Q ++ [a] := ⟨P.dropLast, P.getLast hne, (List.dropLast_concat_getLast hne).symm⟩
    have hQ : Q.length = j := by simpa using h
    unfold insG
    have e0 : Q ++ [a] ++ [x] = Q ++ [a, x] := by simp
    have e1 : (Q ++ [a, x]).getD j d = a := by subst hQ; simp [List.getD_eq_getElem?_getD]
    have e2 : (Q ++ [a, x]).getD (j + 1) d = x := by subst hQ; simp [List.getD_eq_getElem?_getD]
    rw [e0, e1, e2]
    cases lt x a with
    | false => exact List.Perm.refl _
    | true =>
      rw [cond_true]
      have e3 : swapG d j (Q ++ [a, x]) = (Q ++ [x]) ++ [a] := by subst hQ; rw [swapG_end]; simp
      rw [e3, insG_app j _ _ (by simp; omega)]
      refine ((insG_mem j Q x hQ).append_right [a]).trans ?_
      rw [List.append_assoc]
      exact List.Perm.append_left Q (List.Perm.swap a x [])
theorem insG_sorted {α : Type} {d : α} {lt : α → α → Bool} (key : α → Nat) : ∀ (j : Nat) (P : List α) (x : α), P.length = j → (∀ a ∈ P, lt x a = decide (key x < key a)) → P.Pairwise (fun a b => key a ≤ key b) → (insG d lt j (P ++ [x])).Pairwise (fun a b => key a ≤ key b)
  | 0, P, x, h, _, _ => by
    have : P = [] := List.length_eq_zero_iff.1 h
    subst this
    simp [insG]
  | j + 1, P, x, h, hk, hp => by
    have hne : P ≠ [] := by intro e; rw [e] at h; cases h
    obtain ⟨Q, a, rfl⟩ : ∃ Q a, P = Q ++ [a] := ⟨P.dropLast, P.getLast hne, (List.dropLast_concat_getLast hne).symm⟩
    have hQ : Q.length = j := by simpa using h
    rw [List.pairwise_append] at hp
    obtain ⟨p1, _, p2⟩ := hp
    have p2 : ∀ q ∈ Q, key q ≤ key a := fun q hq => p2 q hq a (by simp)
    unfold insG
    have e0 : Q ++ [a] ++ [x] = Q ++ [a, x] := by simp
    have e1 : (Q ++ [a, x]).getD j d = a := by subst hQ; simp [List.getD_eq_getElem?_getD]
    have e2 : (Q ++ [a, x]).getD (j + 1) d = x := by subst hQ; simp [List.getD_eq_getElem?_getD]
    rw [e0, e1, e2, hk a (by simp)]
    by_cases hlt : key x < key a
    · rw [decide_eq_true hlt, cond_true]
      have e3 : swapG d j (Q ++ [a, x]) = (Q ++ [x]) ++ [a] := by subst hQ; rw [swapG_end]; simp
      rw [e3, insG_app j _ _ (by simp; omega), List.pairwise_append]
      refine ⟨insG_sorted key j Q x hQ (fun b hb => hk b (by simp [hb])) p1, by simp, fun b hb c hc => ?_⟩
      have hc : c = a := by simpa using hc
      subst hc
      have hb := (insG_mem j Q x hQ).mem_iff.1 hb
      rcases List.mem_append.1 hb with hb | hb
      · exact p2 b hb
      · have : b = x := by simpa using hb
        subst this; omega
    · rw [decide_eq_false hlt, cond_false, ← e0, List.pairwise_append, List.pairwise_append]
      refine ⟨⟨p1, by simp, fun q hq b hb => by have : b = a := by simpa using hb
                                                subst this; exact p2 q hq⟩, by simp, fun q hq b hb => ?_⟩
      have hb : b = x := by simpa using hb
      subst hb
      rcases List.mem_append.1 hq with hq | hq
      · have := p2 q hq; omega
      · have : q = a := by simpa using hq
        subst this; omega
def sortG {α : Type} (d : α) (lt : α → α → Bool) (L : List α) : Nat → List α
  | 0 => []
  | n + 1 => insG d lt n (sortG d lt L n ++ [L.getD n d])
theorem sortG_len {α : Type} {d : α} {lt : α → α → Bool} {L : List α} : ∀ n, (sortG d lt L n).length = n
  | 0 => rfl
  | n + 1 => by unfold sortG; rw [insG_len]; simp [sortG_len n]
theorem sortG_perm {α : Type} {d : α} {lt : α → α → Bool} {L : List α} : ∀ n, n ≤ L.length → (sortG d lt L n).Perm (L.take n)
  | 0, _ => by simp [sortG]
  | n + 1, h => by
    unfold sortG
    refine (insG_mem n _ _ (sortG_len n)).trans ?_
    rw [List.take_succ_eq_append_getElem (by omega)]
    have : L.getD n d = L[n] := by
      rw [List.getD_eq_getElem?_getD, List.getElem?_eq_getElem (by omega)]; rfl
    rw [this]
    exact (sortG_perm n (by omega)).append_right _
theorem sortG_mem {α : Type} {d : α} {lt : α → α → Bool} {L : List α} {n : Nat} (h : n ≤ L.length) {x : α} (hx : x ∈ sortG d lt L n) : x ∈ L := List.mem_of_mem_take ((sortG_perm n h).mem_iff.1 hx)
theorem sortG_sorted {α : Type} {d : α} {lt : α → α → Bool} {L : List α} (key : α → Nat) (hk : ∀ a ∈ L, ∀ b ∈ L, lt a b = decide (key a < key b)) : ∀ n, n ≤ L.length → (sortG d lt L n).Pairwise (fun a b => key a ≤ key b)
  | 0, _ => by simp [sortG]
  | n + 1, h => by
    unfold sortG
    refine insG_sorted key n _ _ (sortG_len n) (fun a ha => hk _ ?_ a (sortG_mem (by omega) ha)) (sortG_sorted key hk n (by omega))
    have : L.getD n d = L[n] := by
      rw [List.getD_eq_getElem?_getD, List.getElem?_eq_getElem (by omega)]; rfl
    rw [this]
    exact List.getElem_mem _
theorem wpredG {j : Nat} (h : j ≤ 1000000000) : IntKind.i64.wrap (((j + 1 : Nat) : Int) - 1) = (j : Int) := by rw [wrap_i64 (by omega) (by omega)]; omega
theorem loop_insG {α β ρ : Type} {d : α} {lt : α → α → Bool} {step : β × Int → Option (LR (β × Int) β ρ)} (f : List α → β) (h0 : ∀ L, step (f L, 0) = some (.out (f L))) (Ok : List α → Prop) (hok : ∀ j L, Ok L → j + 1 < L.length → Ok (swapG d j L))
    (hs : ∀ (j : Nat) (L : List α), Ok L → j + 1 < L.length → L.length ≤ 1000000 → step (f L, ((j + 1 : Nat) : Int)) = some (bif lt (L.getD (j + 1) d) (L.getD j d) then .next (f (swapG d j L), (j : Int)) else .out (f L))) :
    ∀ (j : Nat) (L : List α), Ok L → j < L.length → L.length ≤ 1000000 → loopM step (f L, (j : Int)) = some (.inl (f (insG d lt j L)))
  | 0, L, _, _, _ => loopM_out (h0 L)
  | j + 1, L, h, hj, hl => by
    have e := hs j L h hj hl
    unfold insG
    cases hc : lt (L.getD (j + 1) d) (L.getD j d) with
    | false => rw [hc, cond_false] at e; rw [loopM_out e]; rfl
    | true =>
      rw [hc, cond_true] at e
      rw [loopM_next e, cond_true]
      exact loop_insG f h0 Ok hok hs j _ (hok j L h hj) (by rw [swapG_len]; omega) (by rw [swapG_len]; omega)
def NN (c : F) : Prop := ∀ b, c = some b → wneg Ieee.single b = false
theorem add_nn {x y : F} (hx : FOk .f32 x) (hy : FOk .f32 y) (nx : NN x) (ny : NN y) : NN (fop .add .f32 x y) := by
  cases x with
  | none => intro b h; cases h
  | some a =>
    cases y with
    | none => intro b h; cases h
    | some c =>
      intro b h
      have h : ((Ieee.single.read a).sum (Ieee.single.read c)).map Ieee.single.write = some b := h
      obtain ⟨d, hd, rfl⟩ := Option.map_eq_some_iff.1 h
      have na := read_neg_of Ieee.single (fmt_ok .f32) hx.some.2
      rw [nx a rfl] at na
      have nc := read_neg_of Ieee.single (fmt_ok .f32) hy.some.2
      rw [ny c rfl] at nc
      have hn : d.isNaN = false ∧ d.neg = false := by
        cases hr : Ieee.single.read a with
        | nan s t => rw [hr] at hd; cases hd
        | infinity s =>
          have hs : s = false := by rw [hr] at na; exact na
          subst hs
          cases hc : Ieee.single.read c with
          | nan s t => rw [hr, hc] at hd; cases hd
          | infinity t =>
            have ht : t = false := by rw [hc] at nc; exact nc
            subst ht
            rw [hr, hc] at hd; cases hd; exact ⟨rfl, rfl⟩
          | number t n j => rw [hr, hc] at hd; cases hd; exact ⟨rfl, rfl⟩
        | number s m i =>
          have hs : s = false := by rw [hr] at na; exact na
          subst hs
          cases hc : Ieee.single.read c with
          | nan s t => rw [hr, hc] at hd; cases hd
          | infinity t =>
            have ht : t = false := by rw [hc] at nc; exact nc
            subst ht
            rw [hr, hc] at hd; cases hd; exact ⟨rfl, rfl⟩
          | number t n j =>
            have ht : t = false := by rw [hc] at nc; exact nc
            subst ht
            rw [hr, hc] at hd; cases hd
            refine ⟨rfl, ?_⟩
            show (if Ieee.signed false m (i - min i j).toNat + Ieee.signed false n (j - min i j).toNat = 0 then (false && false) else decide (Ieee.signed false m (i - min i j).toNat + Ieee.signed false n (j - min i j).toNat < 0)) = false
            have h1 : 0 ≤ Ieee.signed false m (i - min i j).toNat := Int.natCast_nonneg _
            have h2 : 0 ≤ Ieee.signed false n (j - min i j).toNat := Int.natCast_nonneg _
            split
            · rfl
            · exact decide_eq_false (by omega)
      rw [(write_neg Ieee.single hn.1).1, hn.2]
theorem loop_sortG {α ρ : Type} {d : α} {lt : α → α → Bool} {step : List α × Int → Option (LR (List α × Int) (List α) ρ)} {R : List α} {n : Nat} (hR : R.length = n) (h0 : 0 < n)
    (hs : ∀ (i : Nat) (L : List α), 1 ≤ i → i < n → L.length = n → (∀ x ∈ L, x ∈ R) → step (L, (i : Int)) = some (.next (insG d lt i L, ((i + 1 : Nat) : Int)))) (he : ∀ L, step (L, (n : Int)) = some (.out L)) : loopM step (R, 1) = some (.inl (sortG d lt R n)) := by
  have hd : ∀ i, i < n → R.drop i = R.getD i d :: R.drop (i + 1) := fun i hi => by
    rw [List.drop_eq_getElem_cons (by omega)]
    congr 1
    rw [List.getD_eq_getElem?_getD, List.getElem?_eq_getElem (by omega)]; rfl
  have e := (loop_run (step := step) (fun (i : Nat) (_ : Unit) => (sortG d lt R i ++ R.drop i, (i : Int))) (fun _ _ => ()) (fun _ => sortG d lt R n) (fun _ _ => True) (lo := 1) (n := n) h0 (s0 := ()) trivial
    (fun i _ h1 hi _ => by
      refine ⟨?_, trivial⟩
      rw [hs i _ h1 hi (by rw [List.length_append, sortG_len, List.length_drop]; omega) (fun x hx => by
        rcases List.mem_append.1 hx with hx | hx
        · exact sortG_mem (by omega) hx
        · exact List.mem_of_mem_drop hx)]
      rw [hd i hi]
      have : sortG d lt R i ++ R.getD i d :: R.drop (i + 1) = (sortG d lt R i ++ [R.getD i d]) ++ R.drop (i + 1) := by simp
      rw [this, insG_app i _ _ (by simp [sortG_len])]
      rfl)
    (fun _ _ => by
      rw [he, List.drop_of_length_le (by omega), List.append_nil])).1
  have h1 : sortG d lt R 1 ++ R.drop 1 = R := by
    show [] ++ [R.getD 0 d] ++ R.drop 1 = R
    have := hd 0 h0
    rw [List.drop_zero] at this
    rw [List.nil_append, List.singleton_append, ← this]
  replace e : loopM step (sortG d lt R 1 ++ R.drop 1, 1) = some (.inl (sortG d lt R n)) := e
  rw [h1] at e
  exact e
theorem vget_mem {v : List F} {x : Int} (h0 : 0 ≤ x) (h1 : x < (v.length : Int)) : vget v x ∈ v := by
  unfold vget
  rw [List.getD_eq_getElem?_getD, List.getElem?_eq_getElem (by omega)]
  exact List.getElem_mem _
def wkey (c : F) : Nat := c.getD 0
theorem add_some {x y : F} (hx : FOk .f32 x) (hy : FOk .f32 y) (nx : NN x) (ny : NN y) (h1 : x ≠ none) (h2 : y ≠ none) : fop .add .f32 x y ≠ none := by
  cases x with
  | none => exact absurd rfl h1
  | some a =>
    cases y with
    | none => exact absurd rfl h2
    | some c =>
      show ((Ieee.single.read a).sum (Ieee.single.read c)).map Ieee.single.write ≠ none
      have na := read_neg_of Ieee.single (fmt_ok .f32) hx.some.2
      rw [nx a rfl] at na
      have nc := read_neg_of Ieee.single (fmt_ok .f32) hy.some.2
      rw [ny c rfl] at nc
      have ma : (Ieee.single.read a).isNaN = false := hx.some.2
      have mc : (Ieee.single.read c).isNaN = false := hy.some.2
      cases hr : Ieee.single.read a with
      | nan s t => rw [hr] at ma; cases ma
      | infinity s =>
        have hs : s = false := by rw [hr] at na; exact na
        subst hs
        cases hc : Ieee.single.read c with
        | nan s t => rw [hc] at mc; cases mc
        | infinity t =>
          have ht : t = false := by rw [hc] at nc; exact nc
          subst ht
          simp [Ieee.Datum.sum]
        | number t n j => simp [Ieee.Datum.sum]
      | number s m i =>
        cases hc : Ieee.single.read c with
        | nan s t => rw [hc] at mc; cases mc
        | infinity t => simp [Ieee.Datum.sum]
        | number t n j => simp [Ieee.Datum.sum]
def sqW (v : List F) (x : Int) : Nat := wkey (vget v x)
def SqOk (v : List F) : Prop := ∀ c ∈ v, ∃ b, c = some b ∧ b ≤ 2139095040
theorem SqOk.at {v : List F} (h : SqOk v) {x : Int} (h0 : 0 ≤ x) (h1 : x < (v.length : Int)) : vget v x = some (sqW v x) ∧ sqW v x ≤ 2139095040 := by
  obtain ⟨b, e, hb⟩ := h _ (vget_mem h0 h1)
  unfold sqW
  rw [e]; exact ⟨rfl, hb⟩
theorem upTo_getD {n m : Nat} (h : n < m) : (upTo m).getD n 0 = (n : Int) := by
  simp [upTo, List.getD_eq_getElem?_getD, List.getElem?_range, h]
theorem upTo_mem {n : Nat} {x : Int} (h : x ∈ upTo n) : 0 ≤ x ∧ x < (n : Int) := by
  simp [upTo] at h
  obtain ⟨q, hq, rfl⟩ := h
  omega
def ltI (x y : Int) : Bool := decide (x < y)
theorem x_cmp_Less_int64_eq (x y : Int) : x_cmp_Less_int64 x y = some (ltI x y) := by
  unfold x_cmp_Less_int64 x_cmp_isNaN_int64
  rw [obind_eq, decide_eq_true (rfl : x = x)]
  rfl
theorem x_slices_insertionSortOrdered_int64_0o_eq {R : List Int} {n : Nat} (hR : R.length = n) (hn : n ≤ 12) : x_slices_insertionSortOrdered_int64_0o 0 (n : Int) R = some (sortG 0 ltI R n) := by
  have inner : ∀ (j : Nat) (L : List Int), j < L.length → L.length ≤ 1000000 → loopM (x_slices_insertionSortOrdered_int64_0o_s2 0) (L, (j : Int)) = some (.inl (insG 0 ltI j L)) := fun j L hj hl =>
    loop_insG (fun L => L) (fun L => by
      show x_slices_insertionSortOrdered_int64_0o_b2 _ _ _ = _
      unfold x_slices_insertionSortOrdered_int64_0o_b2
      rw [show decide ((0 : Int) < 0) = false from rfl, bsel_false]) (fun _ => True) (fun _ _ _ _ => trivial) (fun j L _ hj hl => by
      show x_slices_insertionSortOrdered_int64_0o_b2 _ _ _ = _
      unfold x_slices_insertionSortOrdered_int64_0o_b2
      dsimp only
      have hd : decide ((0 : Int) < ((j + 1 : Nat) : Int)) = true := decide_eq_true (by omega)
      have l1 : ∀ x : Int, j < (L.set (j + 1) x).length := fun x => by simp; omega
      rw [hd, bsel_true, at?_n 0 hj, obind_eq, wpredG (by omega), olet_eq, at?_n 0 (by omega), obind_eq, x_cmp_Less_int64_eq, obind_eq]
      cases ltI (L.getD (j + 1) 0) (L.getD j 0) with
      | false => rfl
      | true =>
        rw [bsel_true, olet_eq, olet_eq, at?_n 0 (by omega), obind_eq, obind_eq, setAt?_n _ hj, obind_eq, setAt?_n _ (l1 _), obind_eq, olet_eq]
        rfl) j L trivial hj hl
  unfold x_slices_insertionSortOrdered_int64_0o
  rw [show IntKind.i64.wrap (0 + 1) = 1 from rfl, olet_eq]
  have he : ∀ (L : List Int) (k : Int), (n : Int) ≤ k → x_slices_insertionSortOrdered_int64_0o_s3 0 (n : Int) (L, k) = some (.out L) := fun L k hk => by
    show x_slices_insertionSortOrdered_int64_0o_b3 _ _ _ _ = _
    unfold x_slices_insertionSortOrdered_int64_0o_b3
    dsimp only
    rw [show decide (k < (n : Int)) = false from decide_eq_false (by omega), bsel_false]
  by_cases h0 : 0 < n
  · have e := loop_sortG (d := 0) (lt := ltI) (step := x_slices_insertionSortOrdered_int64_0o_s3 0 (n : Int)) hR h0
      (fun i L h1 hi hl _ => by
        show x_slices_insertionSortOrdered_int64_0o_b3 _ _ _ _ = _
        unfold x_slices_insertionSortOrdered_int64_0o_b3
        dsimp only
        rw [dlt hi, bsel_true, inner i L (by omega) (by omega), obind_eq, osum_inl]
        unfold x_slices_insertionSortOrdered_int64_0o_k2
        rw [wsucc (by omega)]; rfl)
      (fun L => he L n (Int.le_refl _))
    rw [e]; rfl
  · have hn0 : n = 0 := by omega
    subst hn0
    have : R = [] := List.length_eq_zero_iff.1 hR
    subst this
    rw [loopM_out (he [] 1 (by omega))]; rfl
theorem bitsLen_some {n : Nat} (h : n ≤ 12) : ∃ r, x_math_bits_Len (n : Int) = some r := by
  have hn : n = 0 ∨ n = 1 ∨ n = 2 ∨ n = 3 ∨ n = 4 ∨ n = 5 ∨ n = 6 ∨ n = 7 ∨ n = 8 ∨ n = 9 ∨ n = 10 ∨ n = 11 ∨ n = 12 := by omega
  have : (x_math_bits_Len (n : Int)).isSome = true := by
    rcases hn with rfl | rfl | rfl | rfl | rfl | rfl | rfl | rfl | rfl | rfl | rfl | rfl | rfl <;> kernel_rfl
  exact Option.isSome_iff_exists.1 this
theorem x_slices_Sort_int64_int64_0o_eq {R : List Int} (hn : R.length ≤ 12) : x_slices_Sort_int64_int64_0o R = some (sortG 0 ltI R R.length) := by
  unfold x_slices_Sort_int64_int64_0o x_slices_pdqsortOrdered_int64_0o
  obtain ⟨r, hr⟩ := bitsLen_some hn
  have hw : IntKind.u64.wrap ((R.length : Nat) : Int) = ((R.length : Nat) : Int) := by
    simp only [IntKind.wrap, IntKind.bits, IntKind.signed]
    simp
    omega
  have e : loopM (x_slices_pdqsortOrdered_int64_0o_s1 0 ((R.length : Nat) : Int) r R) () = some (.inr (sortG 0 ltI R R.length)) := by
    refine loopM_ret ?_
    show x_slices_pdqsortOrdered_int64_0o_b1 _ _ _ _ = _
    unfold x_slices_pdqsortOrdered_int64_0o_b1
    have h1 : IntKind.i64.wrap ((R.length : Int) - 0) = (R.length : Int) := by rw [wrap_i64 (by omega) (by omega)]; omega
    rw [h1, olet_eq, show decide ((R.length : Int) ≤ 12) = true from decide_eq_true (by omega), bsel_true, x_slices_insertionSortOrdered_int64_0o_eq rfl hn, obind_eq, sortG_len, decide_eq_true rfl, need_true]
  rw [hw, olet_eq, hr, obind_eq, e, obind_eq, osum_inr, obind_eq, sortG_len, decide_eq_true rfl, need_true]
def GoodO (n : Nat) (L : List Int) : Prop := (∀ x ∈ L, 0 ≤ x ∧ x < (n : Int)) ∧ L.Nodup
theorem upTo_nodup {n : Nat} : (upTo n).Nodup := by
  unfold upTo List.Nodup
  rw [List.pairwise_map]
  exact List.Pairwise.imp (fun {a b} h e => h (Int.ofNat.inj e)) (List.nodup_range (n := n))
theorem mem_upTo {n : Nat} {x : Int} : x ∈ upTo n ↔ 0 ≤ x ∧ x < (n : Int) := by
  refine ⟨upTo_mem, fun h => ?_⟩
  unfold upTo
  rw [List.mem_map]
  exact ⟨x.toNat, List.mem_range.2 (by omega), by omega⟩
theorem good_perm {n : Nat} {L : List Int} (hl : L.length = n) (h : GoodO n L) : L.Perm (upTo n) := by
  refine (List.perm_ext_iff_of_nodup h.2 upTo_nodup).2 fun x => ⟨fun hx => mem_upTo.2 (h.1 x hx), fun hx => ?_⟩
  by_cases hm : x ∈ L
  · exact hm
  · exfalso
    have := List.Nodup.length_le_of_subset (l₁ := x :: L) (l₂ := upTo n) (List.nodup_cons.2 ⟨hm, h.2⟩) (fun y hy => by
      rcases List.mem_cons.1 hy with rfl | hy
      · exact hx
      · exact mem_upTo.2 (h.1 y hy))
    simp [upTo_len] at this
    omega
theorem good_sorted {n : Nat} {L : List Int} (hl : L.length = n) : sortG 0 ltI L n = upTo n ↔ GoodO n L := by
  have p := sortG_perm (d := 0) (lt := ltI) (L := L) n (by omega)
  rw [List.take_of_length_le (by omega)] at p
  constructor
  · intro e
    rw [e] at p
    exact ⟨fun x hx => mem_upTo.1 (p.mem_iff.2 hx), p.nodup_iff.1 upTo_nodup⟩
  · intro h
    have s1 := sortG_sorted (d := 0) (lt := ltI) (L := L) Int.toNat (fun a ha b hb => by
      have := h.1 a ha
      have := h.1 b hb
      unfold ltI
      by_cases hlt : a < b
      · rw [decide_eq_true hlt, decide_eq_true (by omega)]
      · rw [decide_eq_false hlt, decide_eq_false (by omega)]) n (by omega)
    have s2 : (upTo n).Pairwise (fun a b => a.toNat ≤ b.toNat) := by
      unfold upTo
      rw [List.pairwise_map]
      refine List.Pairwise.imp (fun {a b} (h : a < b) => ?_) (List.pairwise_lt_range (n := n))
      show (a : Int).toNat ≤ (b : Int).toNat
      omega
    refine List.Perm.eq_of_pairwise (le := fun a b => a.toNat ≤ b.toNat) (fun a b ha hb h1 h2 => ?_) s1 s2 (p.trans (good_perm hl h))
    have ha := h.1 a (p.mem_iff.1 ha)
    have hb := mem_upTo.1 hb
    omega
def ordQ (l : List Int) (i : Nat) (fl : List Bool) : List Bool ⊕ Bool :=
  bif decide (0 ≤ l.getD i 0) && decide (l.getD i 0 < (l.length : Int)) then (bif fl.getD (l.getD i 0).toNat false then .inr false else .inl (fl.set (l.getD i 0).toNat true)) else .inr false
theorem ord_run {l : List Int} {n : Nat} (hn : l.length = n) : ∀ (m i : Nat) (fl : List Bool), i + m = n → fl.length = n → (∀ x : Nat, x < n → fl.getD x false = decide ((x : Int) ∈ l.take i)) → GoodO n (l.take i) →
    (∃ s', runE (ordQ l) i m fl = .inl s' ∧ GoodO n l) ∨ (runE (ordQ l) i m fl = .inr false ∧ ¬ GoodO n l)
  | 0, i, fl, h, _, _, hg => by
    rw [List.take_of_length_le (by omega)] at hg
    exact .inl ⟨fl, rfl, hg⟩
  | m + 1, i, fl, h, hl, hf, hg => by
    have hi : i < l.length := by omega
    have hx : l.getD i 0 = l[i] := by rw [List.getD_eq_getElem?_getD, List.getElem?_eq_getElem hi]; rfl
    have ht : l.take (i + 1) = l.take i ++ [l[i]] := List.take_succ_eq_append_getElem hi
    have eQ : ordQ l i fl = bif decide (0 ≤ l[i]) && decide (l[i] < (n : Int)) then (bif fl.getD l[i].toNat false then .inr false else .inl (fl.set l[i].toNat true)) else .inr false := by
      unfold ordQ
      rw [hx, hn]
    simp only [runE]
    rw [eQ]
    cases hr : decide (0 ≤ l[i]) && decide (l[i] < (n : Int)) with
    | false =>
      rw [cond_false]
      refine .inr ⟨rfl, fun hG => ?_⟩
      have := hG.1 l[i] (List.getElem_mem _)
      simp only [Bool.and_eq_false_iff, decide_eq_false_iff_not] at hr
      omega
    | true =>
      simp only [Bool.and_eq_true, decide_eq_true_eq] at hr
      have hc := hf l[i].toNat (by omega)
      rw [show ((l[i].toNat : Nat) : Int) = l[i] by omega] at hc
      rw [cond_true, hc]
      by_cases hm : l[i] ∈ l.take i
      · rw [decide_eq_true hm, cond_true]
        refine .inr ⟨rfl, fun hG => ?_⟩
        have hN : (l.take (i + 1)).Nodup := List.Pairwise.sublist (List.take_sublist _ _) hG.2
        rw [ht] at hN
        have := (List.nodup_append.1 hN).2.2 _ hm _ (List.mem_singleton.2 rfl)
        exact this rfl
      · rw [decide_eq_false hm, cond_false]
        refine ord_run hn m (i + 1) (fl.set l[i].toNat true) (by omega) (by rw [List.length_set]; exact hl) (fun x hx2 => ?_) ⟨fun x hx2 => ?_, ?_⟩
        · have hmem : (x : Int) ∈ l.take (i + 1) ↔ (x : Int) ∈ l.take i ∨ (x : Int) = l[i] := by rw [ht, List.mem_append, List.mem_singleton]
          have hxl : x < fl.length := by omega
          rw [List.getD_eq_getElem?_getD, List.getElem?_set]
          by_cases e : l[i].toNat = x
          · rw [if_pos e, if_pos (by omega)]
            exact (decide_eq_true (hmem.2 (.inr (by omega)))).symm
          · rw [if_neg e, ← List.getD_eq_getElem?_getD, hf x hx2]
            have hne : ¬ (x : Int) = l[i] := by omega
            by_cases h3 : (x : Int) ∈ l.take i
            · rw [decide_eq_true h3, decide_eq_true (hmem.2 (.inl h3))]
            · rw [decide_eq_false h3, decide_eq_false (fun h4 => (hmem.1 h4).elim h3 hne)]
        · rw [ht] at hx2
          rcases List.mem_append.1 hx2 with h3 | h3
          · exact hg.1 x h3
          · rw [List.mem_singleton.1 h3]; exact hr
        · rw [ht]
          refine List.nodup_append.2 ⟨hg.2, by simp, fun a ha b hb e => ?_⟩
          rw [List.mem_singleton.1 hb] at e
          exact hm (e ▸ ha)
def ordB (l : List Int) : Bool := decide (1 ≤ l.length) && (decide (l.length ≤ 12) && decide (sortG 0 ltI l l.length = upTo l.length))
theorem s_l02Order_eq (l : List Int) : s_l02Order l = some (ordB l) := by
  unfold s_l02Order ordB
  by_cases h1 : 1 ≤ l.length
  · rw [show decide ((l.length : Int) < 1) = false from decide_eq_false (by omega), bsel_false, decide_eq_true h1, Bool.true_and]
    by_cases h2 : l.length ≤ 12
    · have hk : mkok 1 (l.length : Int) = true := by simp [mkok]; omega
      rw [show decide (12 < (l.length : Int)) = false from decide_eq_false (by omega), bsel_false, decide_eq_true h2, Bool.true_and, hk, need_true]
      obtain ⟨e, _⟩ := loop_endE (step := s_l02Order_s1 l) (fun (i : Nat) (fl : List Bool) => (fl, (i : Int))) (ordQ l) (fun _ => ()) (fun _ fl => fl.length = l.length) (lo := 0) (n := l.length) (Nat.zero_le _) (s0 := List.replicate l.length false) (by simp)
        (fun i fl _ hi hl => by
          have hstep : s_l02Order_s1 l (fl, (i : Int)) = s_l02Order_b1 l fl (i : Int) := rfl
          have hw : IntKind.i64.wrap ((l.length : Int) - 1) = (l.length : Int) - 1 := wrap_i64 (by omega) (by omega)
          have hb : decide (l.getD i 0 ≤ (l.length : Int) - 1) = decide (l.getD i 0 < (l.length : Int)) := by
            by_cases h : l.getD i 0 < (l.length : Int)
            · rw [decide_eq_true h, decide_eq_true (by omega)]
            · rw [decide_eq_false h, decide_eq_false (by omega)]
          rw [hstep]
          unfold s_l02Order_b1 ordQ
          rw [dlt hi, bsel_true, at?_n 0 hi, obind_eq, hw, olet_eq, s_l00In_eq, hb, obind_eq]
          cases hr : decide (0 ≤ l.getD i 0) && decide (l.getD i 0 < (l.length : Int)) with
          | false => exact .inr ⟨false, by rw [cond_false], by rw [bsel_false]⟩
          | true =>
            simp only [Bool.and_eq_true, decide_eq_true_eq] at hr
            have hz : l.getD i 0 = ((l.getD i 0).toNat : Int) := by omega
            have hlt : (l.getD i 0).toNat < fl.length := by omega
            rw [cond_true, bsel_true, obind_eq]
            have ha : at? fl (l.getD i 0) = some (fl.getD (l.getD i 0).toNat false) := by rw [hz]; exact at?_n false hlt
            have hs : setAt? fl (l.getD i 0) true = some (fl.set (l.getD i 0).toNat true) := by rw [hz]; exact setAt?_n _ hlt
            rw [ha, obind_eq]
            cases fl.getD (l.getD i 0).toNat false with
            | true => exact .inr ⟨false, by rw [cond_true], by rw [bsel_true]⟩
            | false => exact .inl ⟨_, by rw [cond_false], by rw [bsel_false, obind_eq, hs, obind_eq, wsucc (by omega)]; rfl, by simp [hl]⟩)
        (fun fl _ => by
          show s_l02Order_b1 _ _ _ = _
          unfold s_l02Order_b1
          rw [dnlt, bsel_false])
      rw [Nat.sub_zero] at e
      have e : loopM (s_l02Order_s1 l) (List.replicate (l.length : Int).toNat false, 0) = some (endE (fun _ => ()) (runE (ordQ l) 0 l.length (List.replicate l.length false))) := e
      rw [e]
      rcases ord_run (l := l) rfl l.length 0 (List.replicate l.length false) (by omega) (by simp) (fun x hx => by simp [List.getD_eq_getElem?_getD, List.getElem?_replicate, hx]) ⟨by simp, by simp⟩ with ⟨s', h3, h4⟩ | ⟨h3, h4⟩
      · rw [h3, decide_eq_true ((good_sorted rfl).2 h4)]; rfl
      · rw [h3, decide_eq_false (fun h5 => h4 ((good_sorted rfl).1 h5))]; rfl
    · rw [show decide (12 < (l.length : Int)) = true from decide_eq_true (by omega), bsel_true, decide_eq_false h2, Bool.false_and]
  · rw [show decide ((l.length : Int) < 1) = true from decide_eq_true (by omega), bsel_true, decide_eq_false h1, Bool.false_and]
theorem x_slices_Sorted_eq {l : List Int} (h : l.length ≤ 12) : x_slices_Sorted_int64_0Fx_slices_Values_int64_int64_1 l = some (sortG 0 ltI l l.length) := by
  unfold x_slices_Sorted_int64_0Fx_slices_Values_int64_int64_1 x_slices_Collect_int64_0Fx_slices_Values_int64_int64_1 x_slices_AppendSeq
  rw [show decide ((l.length : Int) * 8 ≤ 140737488351232) = true from decide_eq_true (by omega), need_true, obind_eq, obind_eq, x_slices_Sort_int64_int64_0o_eq h, obind_eq, sortG_len, decide_eq_true rfl, need_true]
theorem i_IsOrder_eq (l : List Int) : i_IsOrder l = some (ordB l) := by
  unfold i_IsOrder i_length_int64 ordB
  rw [obind_eq, i_isSide_eq, obind_eq]
  unfold side
  by_cases h1 : 1 ≤ l.length
  · rw [decide_eq_true (show (1 : Int) ≤ (l.length : Int) by omega), decide_eq_true h1, Bool.true_and, Bool.true_and]
    by_cases h2 : l.length ≤ 12
    · rw [decide_eq_true (show (l.length : Int) ≤ 12 by omega), decide_eq_true h2, Bool.true_and, bsel_true]
      unfold i_isPermutation x_slices_Values_int64_int64
      rw [obind_eq, x_slices_Sorted_eq h2, obind_eq]
      have e := loop_eq (l := sortG 0 ltI l l.length) (m := upTo l.length) (by rw [sortG_len, upTo_len]) (step := i_isPermutation_s1 (sortG 0 ltI l l.length)) (fun v x y h0 h1 hx hy => by
        rw [sortG_len] at h1
        have hv : v = ((v.toNat : Nat) : Int) := by omega
        have hlt : v.toNat < l.length := by omega
        have hy : y = v := by
          have := upTo_getD hlt
          rw [List.getD_eq_getElem?_getD, hy] at this
          have : y = (v.toNat : Int) := this
          omega
        subst hy
        have ha : at? (sortG 0 ltI l l.length) y = some x := at?_of h0 hx
        show i_isPermutation_b1 _ _ = _
        unfold i_isPermutation_b1
        rw [sortG_len, show decide (y < ((l.length : Nat) : Int)) = true from decide_eq_true (by omega), bsel_true, ha, obind_eq, wrap_i64 (by omega) (by omega)]
        by_cases e : x = y
        · rw [if_pos e, decide_eq_true e]; rfl
        · rw [if_neg e, decide_eq_false e]; rfl) (by
        show i_isPermutation_b1 _ _ = _
        unfold i_isPermutation_b1
        rw [dnlt, bsel_false])
      rw [e]
      by_cases hs : sortG 0 ltI l l.length = upTo l.length
      · rw [if_pos hs, decide_eq_true hs]; rfl
      · rw [if_neg hs, decide_eq_false hs]; rfl
    · rw [decide_eq_false (show ¬ (l.length : Int) ≤ 12 by omega), decide_eq_false h2, Bool.false_and, bsel_false]
  · rw [decide_eq_false (show ¬ (1 : Int) ≤ (l.length : Int) by omega), decide_eq_false h1, Bool.false_and, Bool.false_and, bsel_false]
def lessG (f : Nat → F) (L : List F) (lo m : Nat) (y : F) : F := run (fun k s => fop .sub .f32 s (fop .mul .f32 (f k) (L.getD k none))) lo m y
theorem lessG_ok {f : Nat → F} {L : List F} {lo m : Nat} {y : F} (h : FOk .f32 y) : FOk .f32 (lessG f L lo m y) := by
  have := run_inv (f := fun k s => fop .sub .f32 s (fop .mul .f32 (f k) (L.getD k none))) (fun _ s => FOk .f32 s) m lo y h fun _ _ _ _ _ => fop_fok _ _ _
  exact this
theorem lessG_app {f : Nat → F} {L R : List F} {m : Nat} {y : F} (h : m ≤ L.length) : lessG f (L ++ R) 0 m y = lessG f L 0 m y :=
  run_congr (fun _ _ => True) m 0 y trivial fun j s _ hj _ => ⟨by rw [getD_appG (by omega)], trivial⟩
theorem loop_less {σ : Type} {ρ : Type} {step : F × Int → Option (LR (F × Int) F ρ)} {f : Nat → F} {L : List F} {lo n : Nat} (hlo : lo ≤ n) {y : F}
    (hs : ∀ k s, lo ≤ k → k < n → step (s, (k : Int)) = some (.next (fop .sub .f32 s (fop .mul .f32 (f k) (L.getD k none)), ((k + 1 : Nat) : Int)))) (he : ∀ s, step (s, (n : Int)) = some (.out s)) : loopM step (y, (lo : Int)) = some (.inl (lessG f L lo (n - lo) y)) :=
  (loop_run (step := step) (fun (k : Nat) (s : F) => (s, (k : Int))) (fun k s => fop .sub .f32 s (fop .mul .f32 (f k) (L.getD k none))) (fun s => s) (fun _ _ => True) hlo (s0 := y) trivial (fun k s h1 h2 _ => ⟨hs k s h1 h2, trivial⟩) (fun s _ => he s)).1
def lowL (h : Nat → F → List F → F) (c : List F) : Nat → List F
  | 0 => []
  | i + 1 => lowL h c i ++ [h i (c.getD i none) (lowL h c i)]
theorem lowL_len {h : Nat → F → List F → F} {c : List F} : ∀ i, (lowL h c i).length = i
  | 0 => rfl
  | i + 1 => by simp [lowL, lowL_len i]
theorem lowL_oks {h : Nat → F → List F → F} {c : List F} (hh : ∀ i y L, FOk .f32 y → FOk .f32 (h i y L)) (hc : FOks c) : ∀ i, FOks (lowL h c i)
  | 0 => fun x hx => by cases hx
  | i + 1 => fun x hx => by
    rcases List.mem_append.1 hx with hx | hx
    · exact lowL_oks hh hc i x hx
    · rw [List.mem_singleton.1 hx]; exact hh _ _ _ (hc.getD _)
theorem lowL_set {h : Nat → F → List F → F} {c : List F} {i : Nat} (hi : i < c.length) : (lowL h c i ++ c.drop i).set i (h i (c.getD i none) (lowL h c i)) = lowL h c (i + 1) ++ c.drop (i + 1) := by
  have e : c.drop i = c.getD i none :: c.drop (i + 1) := by
    rw [List.drop_eq_getElem_cons hi]
    congr 1
    rw [List.getD_eq_getElem?_getD, List.getElem?_eq_getElem hi]; rfl
  rw [List.set_append_right _ _ (by rw [lowL_len]; exact Nat.le_refl _), lowL_len, Nat.sub_self, e]
  show lowL h c i ++ (_ :: _) = (lowL h c i ++ [_]) ++ _
  simp
theorem lowL_get {h : Nat → F → List F → F} {c : List F} {i : Nat} (hi : i < c.length) : (lowL h c i ++ c.drop i).getD i none = c.getD i none := by
  rw [List.getD_eq_getElem?_getD, List.getElem?_append_right (by rw [lowL_len]; exact Nat.le_refl _), lowL_len, Nat.sub_self, List.getElem?_drop, Nat.add_zero, ← List.getD_eq_getElem?_getD]
def upL (h : Nat → F → List F → F) (n : Nat) (L : List F) : List F := run (fun j L => L.set (n - 1 - j) (h (n - 1 - j) (L.getD (n - 1 - j) none) L)) 0 n L
theorem upL_len {h : Nat → F → List F → F} {n : Nat} {L : List F} : (upL h n L).length = L.length := by
  have := run_inv (f := fun j L => L.set (n - 1 - j) (h (n - 1 - j) (L.getD (n - 1 - j) none) L)) (fun _ (L' : List F) => L'.length = L.length) n 0 L rfl (fun j s _ _ hs => by simp [hs])
  exact this
theorem upL_oks {h : Nat → F → List F → F} {n : Nat} {L : List F} (hh : ∀ i y L, FOk .f32 y → FOk .f32 (h i y L)) (g : FOks L) : FOks (upL h n L) := by
  have := run_inv (f := fun j L => L.set (n - 1 - j) (h (n - 1 - j) (L.getD (n - 1 - j) none) L)) (fun _ (L' : List F) => FOks L') n 0 L g (fun j s _ _ hs => hs.set (hh _ _ _ (hs.getD _)))
  exact this
theorem loop_up {ρ : Type} {step : List F × Int → Option (LR (List F × Int) (List F) ρ)} {h : Nat → F → List F → F} {n : Nat} {L : List F} (hl : L.length = n)
    (hs : ∀ i L, i < n → L.length = n → step (L, (i : Int)) = some (.next (L.set i (h i (L.getD i none) L), (i : Int) - 1))) (he : ∀ L, step (L, -1) = some (.out L)) : loopM step (L, (n : Int) - 1) = some (.inl (upL h n L)) := by
  have e := (loop_run (step := step) (fun (j : Nat) (L : List F) => (L, (n : Int) - 1 - (j : Int))) (fun j L => L.set (n - 1 - j) (h (n - 1 - j) (L.getD (n - 1 - j) none) L)) (fun L => L) (fun _ L => L.length = n) (lo := 0) (n := n) (Nat.zero_le _) (s0 := L) hl
    (fun j L2 _ hj hI => by
      refine ⟨?_, by simp [hI]⟩
      have hz : (n : Int) - 1 - (j : Int) = ((n - 1 - j : Nat) : Int) := by omega
      rw [hz, hs _ _ (by omega) hI]
      have hz2 : (n : Int) - 1 - ((j + 1 : Nat) : Int) = ((n - 1 - j : Nat) : Int) - 1 := by omega
      rw [hz2])
    (fun L2 _ => by rw [show (n : Int) - 1 - (n : Int) = -1 by omega, he])).1
  rw [show ((n : Int) - 1 - ((0 : Nat) : Int)) = (n : Int) - 1 by omega, Nat.sub_zero] at e
  exact e
def rowH (n : Nat) (X : List F) (i : Nat) (y : F) (L : List F) : F := lessG (fun k => gm none X n i k) L 0 i y
def upH (n : Nat) (X : List F) (i : Nat) (y : F) (L : List F) : F := fop .quo .f32 (lessG (fun k => gm none X n i k) L (i + 1) (n - (i + 1)) y) (gm none X n i i)
theorem i_Matrix_lessRow_eq {n i lo hi : Nat} {X L : List F} {y : F} (m : Mat n n X) (hl : L.length = n) (hi2 : i < n) (h1 : lo ≤ hi) (h2 : hi ≤ n) : i_Matrix_lessRow (n : Int) (n : Int) X y (i : Int) (lo : Int) (hi : Int) L = some (lessG (fun k => gm none X n i k) L lo (hi - lo) y) := by
  have hn := m.A1
  unfold i_Matrix_lessRow
  rw [loop_less (σ := Unit) (f := fun k => gm none X n i k) (L := L) h1 (fun k s _ hk => by
    show i_Matrix_lessRow_b1 _ _ _ _ _ _ _ _ = _
    unfold i_Matrix_lessRow_b1
    rw [dlt hk, bsel_true, i_Matrix_at_eq _ m hi2 (by omega), obind_eq, at?_n none (by omega), obind_eq, i_mul_eq, obind_eq, olet_eq, wsucc (by omega)]
    rfl) (fun s => by
    show i_Matrix_lessRow_b1 _ _ _ _ _ _ _ _ = _
    unfold i_Matrix_lessRow_b1
    rw [dnlt, bsel_false])]
  rfl
theorem i_Matrix_upperSolve_eq {n : Nat} {X L : List F} (m : Mat n n X) (hl : L.length = n) : i_Matrix_upperSolve (n : Int) (n : Int) X L = some (upL (upH n X) n L) := by
  have hn := m.A1
  unfold i_Matrix_upperSolve x_slices_Clone_float32_float32
  have ap : apok 4 0 L.length = true := by simp [apok]; omega
  rw [ap, need_true, obind_eq, List.nil_append, show IntKind.i64.wrap ((n : Int) - 1) = (n : Int) - 1 from wrap_i64 (by omega) (by omega), olet_eq]
  rw [loop_up (h := upH n X) hl (fun i L2 hi h2 => by
    show i_Matrix_upperSolve_b1 _ _ _ _ _ = _
    unfold i_Matrix_upperSolve_b1
    dsimp only
    rw [show decide ((0 : Int) ≤ (i : Int)) = true from decide_eq_true (by omega), bsel_true, at?_n none (by omega), obind_eq, wsucc (by omega), olet_eq, i_Matrix_lessRow_eq m h2 hi (by omega) (Nat.le_refl _), obind_eq, i_Matrix_at_eq _ m hi hi, obind_eq, olet_eq, setAt?_n _ (by omega), obind_eq, show IntKind.i64.wrap ((i : Int) - 1) = (i : Int) - 1 from wrap_i64 (by omega) (by omega)]
    rfl) (fun L2 => by
    show i_Matrix_upperSolve_b1 _ _ _ _ _ = _
    unfold i_Matrix_upperSolve_b1
    rfl)]
  rfl
def ordC (o : List Int) (b : List F) (n : Nat) : List F := (List.range n).map fun i => b.getD (o.getD i 0).toNat none
theorem ordC_len {o : List Int} {b : List F} {n : Nat} : (ordC o b n).length = n := by simp [ordC]
theorem ordC_oks {o : List Int} {b : List F} {n : Nat} (g : FOks b) : FOks (ordC o b n) := fun c hc => by
  obtain ⟨i, _, rfl⟩ := List.mem_map.1 hc
  exact g.getD _
theorem ordC_at {o : List Int} {b : List F} {n i : Nat} (h : i < n) : (ordC o b n).getD i none = b.getD (o.getD i 0).toNat none := by
  unfold ordC
  rw [List.getD_eq_getElem?_getD, List.getElem?_map, List.getElem?_range h]; rfl
theorem i_Factor_solve_eq {n : Nat} {X b : List F} {o : List Int} (m : Mat n n X) (n0 : 0 < n) (hb : b.length = n) (ho : o.length = n) (hr : ∀ i, i < n → 0 ≤ o.getD i 0 ∧ o.getD i 0 < (n : Int)) : i_Factor_solve (n : Int) (n : Int) X o b = some (upL (upH n X) n (lowL (rowH n X) (ordC o b n) n)) := by
  have hn := m.A1
  have e1 := (loop_run (step := i_Factor_solve_s1 o b) (fun (i : Nat) (l : List F) => (l, (i : Int))) (fun i l => l ++ [b.getD (o.getD i 0).toNat none]) (fun l => l) (fun i l => l.length = i) (lo := 0) (n := n) (Nat.zero_le _) (s0 := []) rfl
    (fun i l _ hi hI => by
      refine ⟨?_, by simp [hI]⟩
      show i_Factor_solve_b1 _ _ _ _ = _
      unfold i_Factor_solve_b1
      dsimp only
      have ap : apok 4 l.length 1 = true := by simp [apok, hI]; omega
      have h := hr i hi
      rw [ho, dlt hi, bsel_true, at?_n 0 (by omega), obind_eq, at?_i none h.1 (by omega), obind_eq, ap, need_true, wsucc (by omega)]
      rfl)
    (fun l _ => by
      show i_Factor_solve_b1 _ _ _ _ = _
      unfold i_Factor_solve_b1
      rw [ho, dnlt, bsel_false])).1
  rw [Nat.sub_zero, run_map] at e1
  replace e1 : loopM (i_Factor_solve_s1 o b) ([], 0) = some (.inl (ordC o b n)) := e1
  have lc : (ordC o b n).length = n := ordC_len
  have e2 := (loop_run (step := i_Factor_solve_s2 (n : Int) (n : Int) X) (fun (i : Nat) (_ : Unit) => (lowL (rowH n X) (ordC o b n) i ++ (ordC o b n).drop i, (i : Int))) (fun _ _ => ()) (fun _ => lowL (rowH n X) (ordC o b n) n) (fun _ _ => True) (lo := 1) (n := n) n0 (s0 := ()) trivial
    (fun i _ h1 hi _ => by
      refine ⟨?_, trivial⟩
      show i_Factor_solve_b2 _ _ _ _ _ = _
      unfold i_Factor_solve_b2
      dsimp only
      have hl : (lowL (rowH n X) (ordC o b n) i ++ (ordC o b n).drop i).length = n := by rw [List.length_append, lowL_len, List.length_drop]; omega
      rw [dlt hi, bsel_true, at?_n none (by omega), obind_eq, lowL_get (by omega), show (0 : Int) = ((0 : Nat) : Int) from rfl, i_Matrix_lessRow_eq m hl hi (Nat.zero_le _) (by omega), obind_eq, Nat.sub_zero, lessG_app (by rw [lowL_len]; exact Nat.le_refl _), setAt?_n _ (by omega), obind_eq, wsucc (by omega)]
      show some (LR.next ((lowL (rowH n X) (ordC o b n) i ++ (ordC o b n).drop i).set i (rowH n X i ((ordC o b n).getD i none) (lowL (rowH n X) (ordC o b n) i)), _)) = _
      rw [lowL_set (by omega)])
    (fun _ _ => by
      show i_Factor_solve_b2 _ _ _ _ _ = _
      unfold i_Factor_solve_b2
      dsimp only
      rw [dnlt, bsel_false, List.drop_of_length_le (by omega), List.append_nil])).1
  have h1 : lowL (rowH n X) (ordC o b n) 1 ++ (ordC o b n).drop 1 = ordC o b n := by
    have := lowL_set (h := rowH n X) (c := ordC o b n) (i := 0) (by omega)
    rw [← this]
    show (ordC o b n).set 0 (lessG _ [] 0 0 ((ordC o b n).getD 0 none)) = _
    show (ordC o b n).set 0 ((ordC o b n).getD 0 none) = _
    apply List.ext_getElem?
    intro q
    rw [List.getElem?_set]
    by_cases hq : 0 = q
    · subst hq
      rw [if_pos rfl, if_pos (by omega), List.getD_eq_getElem?_getD, List.getElem?_eq_getElem (by omega)]; rfl
    · rw [if_neg hq]
  replace e2 : loopM (i_Factor_solve_s2 (n : Int) (n : Int) X) (lowL (rowH n X) (ordC o b n) 1 ++ (ordC o b n).drop 1, 1) = some (.inl (lowL (rowH n X) (ordC o b n) n)) := e2
  rw [h1] at e2
  unfold i_Factor_solve
  rw [e1, obind_eq, osum_inl]
  unfold i_Factor_solve_k1
  rw [e2, obind_eq, osum_inl]
  unfold i_Factor_solve_k2
  rw [i_Matrix_upperSolve_eq m (by rw [lowL_len]), obind_eq]
theorem s_l03Solve_eq {n : Nat} {X b : List F} {o : List Int} (m : Mat n n X) (hb : b.length = n) (ho : o.length = n) (hr : ∀ i, i < n → 0 ≤ o.getD i 0 ∧ o.getD i 0 < (n : Int)) : s_l03Solve (n : Int) (n : Int) X o b = some (upL (upH n X) n (lowL (rowH n X) (ordC o b n) n)) := by
  have hn := m.A1
  have e1 := (loop_run (step := s_l03Solve_s3 (n : Int) (n : Int) X o b) (fun (i : Nat) (_ : Unit) => (lowL (rowH n X) (ordC o b n) i, (i : Int))) (fun _ _ => ()) (fun _ => lowL (rowH n X) (ordC o b n) n) (fun _ _ => True) (lo := 0) (n := n) (Nat.zero_le _) (s0 := ()) trivial
    (fun i _ _ hi _ => by
      refine ⟨?_, trivial⟩
      show s_l03Solve_b3 _ _ _ _ _ _ _ = _
      unfold s_l03Solve_b3
      dsimp only
      have h := hr i hi
      have ll : (lowL (rowH n X) (ordC o b n) i).length = i := lowL_len i
      have ap : apok 4 (lowL (rowH n X) (ordC o b n) i).length 1 = true := by simp [apok, ll]; omega
      rw [dlt hi, bsel_true, at?_n 0 (by omega), obind_eq, at?_i none h.1 (by omega), obind_eq, ← ordC_at hi, show (0 : Int) = ((0 : Nat) : Int) from rfl, loop_less (σ := Unit) (f := fun k => gm none X n i k) (L := lowL (rowH n X) (ordC o b n) i) (Nat.zero_le i) (fun k s _ hk => by
        show s_l03Solve_b2 _ _ _ _ _ _ _ = _
        unfold s_l03Solve_b2
        rw [dlt hk, bsel_true, s_l02At_eq _ m hi (by omega), obind_eq, at?_n none (by omega), obind_eq, olet_eq, olet_eq, wsucc (by omega)]
        rfl) (fun s => by
        show s_l03Solve_b2 _ _ _ _ _ _ _ = _
        unfold s_l03Solve_b2
        rw [dnlt, bsel_false]), obind_eq, osum_inl]
      unfold s_l03Solve_k2
      rw [ap, need_true, wsucc (by omega)]
      rfl)
    (fun _ _ => by
      show s_l03Solve_b3 _ _ _ _ _ _ _ = _
      unfold s_l03Solve_b3
      rw [dnlt, bsel_false])).1
  replace e1 : loopM (s_l03Solve_s3 (n : Int) (n : Int) X o b) ([], 0) = some (.inl (lowL (rowH n X) (ordC o b n) n)) := e1
  unfold s_l03Solve
  rw [e1, obind_eq, osum_inl]
  unfold s_l03Solve_k3
  rw [show IntKind.i64.wrap ((n : Int) - 1) = (n : Int) - 1 from wrap_i64 (by omega) (by omega), olet_eq]
  rw [loop_up (h := upH n X) (L := lowL (rowH n X) (ordC o b n) n) (lowL_len n) (fun i L2 hi h2 => by
    show s_l03Solve_b6 _ _ _ _ _ = _
    unfold s_l03Solve_b6
    dsimp only
    rw [show decide ((0 : Int) ≤ (i : Int)) = true from decide_eq_true (by omega), bsel_true, at?_n none (by omega), obind_eq, wsucc (by omega), olet_eq, loop_less (σ := Unit) (f := fun k => gm none X n i k) (L := L2) (show i + 1 ≤ n by omega) (fun k s _ hk => by
      show s_l03Solve_b5 _ _ _ _ _ _ _ = _
      unfold s_l03Solve_b5
      rw [dlt hk, bsel_true, s_l02At_eq _ m hi hk, obind_eq, at?_n none (by omega), obind_eq, olet_eq, olet_eq, wsucc (by omega)]
      rfl) (fun s => by
      show s_l03Solve_b5 _ _ _ _ _ _ _ = _
      unfold s_l03Solve_b5
      rw [dnlt, bsel_false]), obind_eq, osum_inl]
    unfold s_l03Solve_k5
    rw [s_l02At_eq _ m hi hi, obind_eq, olet_eq, setAt?_n _ (by omega), obind_eq, show IntKind.i64.wrap ((i : Int) - 1) = (i : Int) - 1 from wrap_i64 (by omega) (by omega)]
    rfl) (fun L2 => by
    show s_l03Solve_b6 _ _ _ _ _ = _
    unfold s_l03Solve_b6
    rfl)]
  rfl
def midB (n : Nat) (X : List F) : Bool := (diagL n X).all fun x => !feq .f32 (some 0) x
theorem dorder_comm (d e : Ieee.Datum) : (d.order e == some .eq) = (e.order d == some .eq) := by
  cases d with
  | nan _ _ => cases e <;> rfl
  | infinity s =>
    cases e with
    | nan _ _ => rfl
    | infinity t => cases s <;> cases t <;> rfl
    | number t n j => cases s <;> rfl
  | number s m i =>
    cases e with
    | nan _ _ => rfl
    | infinity t => cases t <;> rfl
    | number t n j =>
      show (some (compare (Ieee.signed s m (i - min i j).toNat) (Ieee.signed t n (j - min i j).toNat)) == some Ordering.eq) = (some (compare (Ieee.signed t n (j - min j i).toNat) (Ieee.signed s m (i - min j i).toNat)) == some Ordering.eq)
      rw [Int.min_comm j i]
      generalize Ieee.signed s m (i - min i j).toNat = a
      generalize Ieee.signed t n (j - min i j).toNat = b
      by_cases h : a = b
      · subst h; rfl
      · have h1 : compare a b ≠ .eq := fun e => h (Int.compare_eq_eq.1 e)
        have h2 : compare b a ≠ .eq := fun e => h (Int.compare_eq_eq.1 e).symm
        revert h1 h2
        cases compare a b <;> cases compare b a <;> simp
theorem feq_comm (k : FloatKind) (x y : F) : feq k x y = feq k y x := by
  cases x with
  | none => cases y <;> rfl
  | some a =>
    cases y with
    | none => rfl
    | some b => exact dorder_comm _ _
theorem diagL_at {n : Nat} {X : List F} {i : Nat} {x : F} (h : (diagL n X)[i]? = some x) : i < n ∧ x = gm none X n i i := by
  unfold diagL at h
  rw [List.getElem?_map] at h
  by_cases hi : i < n
  · rw [List.getElem?_range hi] at h
    exact ⟨hi, (Option.some.inj h).symm⟩
  · rw [List.getElem?_eq_none (by simpa using hi)] at h; cases h
theorem i_Contains_zero {n : Nat} {X : List F} (hn : n ≤ 12) : x_slices_Contains_float32_float32 (diagL n X) (some 0) = some (!midB n X) := by
  unfold x_slices_Contains_float32_float32 x_slices_Index_float32_float32
  have ld : (diagL n X).length = n := diagL_len
  obtain ⟨r, h1, h2⟩ := loop_find (l := diagL n X) (p := fun x => feq .f32 (some 0) x) (step := x_slices_Index_float32_float32_s1 (diagL n X) (some 0)) (by
    intro v x h0 hv hx
    show x_slices_Index_float32_float32_b1 _ _ v = _
    unfold x_slices_Index_float32_float32_b1
    rw [at?_of h0 hx, wrap_succ h0 hv (by omega), show decide (v < ((diagL n X).length : Int)) = true from decide_eq_true hv, bsel_true, obind_eq]
    cases feq .f32 (some 0) x <;> rfl) (by
    show x_slices_Index_float32_float32_b1 _ _ _ = _
    unfold x_slices_Index_float32_float32_b1
    rw [dnlt, bsel_false])
  have e : (diagL n X).any (fun x => feq .f32 (some 0) x) = !midB n X := by
    unfold midB
    generalize diagL n X = l
    induction l with
    | nil => rfl
    | cons a l ih => simp [ih]
  rw [h1, e]
  cases midB n X with
  | true => rfl
  | false =>
    show some (decide (0 ≤ r)) = some true
    rw [decide_eq_true h2]
theorem s_l03Is_loop {n : Nat} {X : List F} (m : Mat n n X) : loopM (s_l03Is_s1 (n : Int) (n : Int) X) 0 = some (if midB n X then .inl () else .inr false) := by
  have hn := m.A1
  have ld : (diagL n X).length = n := diagL_len
  have e := loop_all (l := diagL n X) (p := fun x => !feq .f32 (some 0) x) false (step := s_l03Is_s1 (n : Int) (n : Int) X) (by
    intro v x h0 hv hx
    obtain ⟨i, rfl⟩ : ∃ i : Nat, v = (i : Int) := ⟨v.toNat, by omega⟩
    obtain ⟨hi, rfl⟩ := diagL_at hx
    rw [Int.toNat_natCast] at hi
    show s_l03Is_b1 _ _ _ _ = _
    unfold s_l03Is_b1
    rw [dlt hi, bsel_true, s_l02At_eq _ m hi hi, obind_eq, Int.toNat_natCast, feq_comm, wsucc (by omega)]
    cases feq .f32 (some 0) (gm none X n i i) <;> rfl) (by
    show s_l03Is_b1 _ _ _ _ = _
    unfold s_l03Is_b1
    rw [ld, dnlt, bsel_false])
  exact e
def facB (a0 a1 : Int) (a2 : List F) (a3 : List Int) : Bool := validM a0 a1 a2 && decide (a0 = a1) && (ordB a3 && (decide ((a3.length : Int) = a0) && midB a0.toNat a2))
theorem s_l03Is_eq (a0 a1 : Int) {a2 : List F} (a3 : List Int) (g : FOks a2) (s : a2.length ≤ 1048576) : s_l03Is a0 a1 a2 a3 = some (facB a0 a1 a2 a3) := by
  unfold s_l03Is facB
  rw [s_l02Square_eq a0 a1 g s, obind_eq]
  cases hv : validM a0 a1 a2 && decide (a0 = a1) with
  | false => rfl
  | true =>
    rw [bsel_true, Bool.true_and, s_l02Order_eq, obind_eq]
    cases ordB a3 with
    | false => rfl
    | true =>
      rw [bsel_true, Bool.true_and]
      cases decide ((a3.length : Int) = a0) with
      | false => rfl
      | true =>
        simp only [Bool.and_eq_true, decide_eq_true_eq] at hv
        obtain ⟨hv, he⟩ := hv
        obtain ⟨n, C, rfl, rfl, n0, C0, m, f⟩ := valid_mat hv
        have : n = C := by omega
        subst this
        show obind (loopM _ _) _ = _
        rw [s_l03Is_loop m, Int.toNat_natCast]
        cases midB n a2 <;> rfl
theorem i_ValidFactor_eq (a0 a1 : Int) {a2 : List F} (a3 : List Int) (g : FOks a2) (s : a2.length ≤ 1048576) : i_ValidFactor a0 a1 a2 a3 = some (facB a0 a1 a2 a3) := by
  unfold i_ValidFactor facB
  rw [i_isSquare_eq a0 a1 g s, obind_eq]
  cases hv : validM a0 a1 a2 && decide (a0 = a1) with
  | false => rfl
  | true =>
    simp only [Bool.and_eq_true, decide_eq_true_eq] at hv
    obtain ⟨hv, he⟩ := hv
    obtain ⟨n, C, rfl, rfl, n0, C0, m, f⟩ := valid_mat hv
    have : n = C := by omega
    subst this
    rw [bsel_true, Bool.true_and, i_Matrix_middle_eq m, obind_eq, i_Contains_zero m.A1, obind_eq, Int.toNat_natCast, i_IsOrder_eq]
    unfold i_length_int64
    cases midB n a2 with
    | false => cases ordB a3 <;> cases decide ((a3.length : Int) = (n : Int)) <;> rfl
    | true =>
      cases ordB a3 with
      | false => rfl
      | true =>
        show some (decide ((a3.length : Int) = (n : Int))) = _
        rw [Bool.true_and, Bool.and_true]
theorem rowH_ok {n : Nat} {X : List F} : ∀ i y L, FOk .f32 y → FOk .f32 (rowH n X i y L) := fun _ _ _ h => lessG_ok h
theorem upH_ok {n : Nat} {X : List F} : ∀ i y L, FOk .f32 y → FOk .f32 (upH n X i y L) := fun _ _ _ _ => fop_fok _ _ _
theorem fabs32_nn {c : F} : NN (fabs32 c) := fun b h => by
  cases c with
  | none => cases h
  | some a =>
    have h : some (a % 2147483648) = some b := h
    cases h
    unfold wneg
    rw [show Ieee.single.signWeight = 2147483648 from rfl, Nat.div_eq_of_lt (Nat.mod_lt _ (by decide))]; rfl
theorem fabs32_some {c : F} (h : fin32 c = true) : fabs32 c ≠ none := by
  cases c with
  | none => cases h
  | some a => simp [fabs32]
theorem max_flt {a b : Nat} (ha : FOk .f32 (some a)) (hb : FOk .f32 (some b)) (na : NN (some a)) : fmaxN .f32 (some a) (some b) = some (bif flt .f32 (some a) (some b) then some b else some a) := by
  have nn := read_neg_of Ieee.single (fmt_ok .f32) ha.some.2
  rw [na a rfl] at nn
  have ho : Ieee.single.order a b ≠ none := by
    have ma : (Ieee.single.read a).isNaN = false := ha.some.2
    have mb : (Ieee.single.read b).isNaN = false := hb.some.2
    unfold Ieee.Format.order
    cases hr : Ieee.single.read a with
    | nan s t => rw [hr] at ma; cases ma
    | infinity s =>
      cases hs : Ieee.single.read b with
      | nan s t => rw [hs] at mb; cases mb
      | infinity t => simp [Ieee.Datum.order]
      | number t n j => simp [Ieee.Datum.order]
    | number s m i =>
      cases hs : Ieee.single.read b with
      | nan s t => rw [hs] at mb; cases mb
      | infinity t => simp [Ieee.Datum.order]
      | number t n j => simp [Ieee.Datum.order]
  have hd : FloatKind.f32.decode a = Ieee.single.read a := rfl
  have hf : flt .f32 (some a) (some b) = (Ieee.single.order a b == some .lt) := rfl
  have hm : fmaxN .f32 (some a) (some b) = (match Ieee.single.order a b with
    | some .lt => some (some b)
    | some .gt => some (some a)
    | some .eq => some (some (if (FloatKind.f32.decode a).neg then b else a))
    | none => none) := rfl
  rw [hm, hf, hd, nn]
  cases hq : Ieee.single.order a b with
  | none => exact absurd hq ho
  | some r => cases r <;> rfl
def NNs (c : F) : Prop := NN c ∧ FOk .f32 c ∧ c ≠ none
theorem max_nns {x y : F} (hx : NNs x) (hy : NNs y) : fmaxN .f32 x y = some (bif flt .f32 x y then y else x) := by
  obtain ⟨h1, h2, h3⟩ := hx
  obtain ⟨_, k2, k3⟩ := hy
  cases x with
  | none => exact absurd rfl h3
  | some a =>
    cases y with
    | none => exact absurd rfl k3
    | some b => exact max_flt h2 k2 h1
def rowS (X : List F) (C i : Nat) : F := run (fun k s => fop .add .f32 s (fabs32 (gm none X C i k))) 0 C (some 0)
theorem zero_nns : NNs (some 0) := ⟨fun b h => by cases h; rfl, zero_ok, by simp⟩
theorem rowS_nns {A C i : Nat} {X : List F} (m : Mat A C X) (g : FOks X) (f : X.all fin32 = true) (hi : i < A) : NNs (rowS X C i) := by
  have := run_inv (f := fun k s => fop .add .f32 s (fabs32 (gm none X C i k))) (fun _ s => NNs s) C 0 (some 0) zero_nns fun k s _ hk h =>
    ⟨add_nn h.2.1 (fabs32_ok (g.getD _)) h.1 fabs32_nn, fop_fok _ _ _, add_some h.2.1 (fabs32_ok (g.getD _)) h.1 fabs32_nn h.2.2 (fabs32_some (fin_all.1 f _ (m.lt hi (by omega))))⟩
  exact this
def normR (X : List F) (A C : Nat) : F := run (fun i s => bif flt .f32 s (rowS X C i) then rowS X C i else s) 0 A (some 0)
theorem normR_step {A C i : Nat} {X : List F} (m : Mat A C X) (g : FOks X) (f : X.all fin32 = true) (hi : i < A) {s : F} (h : NNs s) : NNs (bif flt .f32 s (rowS X C i) then rowS X C i else s) := by
  cases flt .f32 s (rowS X C i) with
  | true => exact rowS_nns m g f hi
  | false => exact h
theorem normR_nns {A C : Nat} {X : List F} (m : Mat A C X) (g : FOks X) (f : X.all fin32 = true) : NNs (normR X A C) := by
  have := run_inv (f := fun i s => bif flt .f32 s (rowS X C i) then rowS X C i else s) (fun _ s => NNs s) A 0 (some 0) zero_nns fun i s _ hi h => normR_step m g f (by omega) h
  exact this
theorem i_rowNorm_row {A C i : Nat} {X : List F} (m : Mat A C X) (g : FOks X) (hi : i < A) : loopM (i_Matrix_rowNorm_s2 (A : Int) (C : Int) X (i : Int)) (some 0, 0) = some (.inl (rowS X C i)) := by
  have hC := m.C1
  exact (loop_run (step := i_Matrix_rowNorm_s2 (A : Int) (C : Int) X (i : Int)) (fun (k : Nat) (s : F) => (s, (k : Int))) (fun k s => fop .add .f32 s (fabs32 (gm none X C i k))) (fun s => s) (fun _ _ => True) (lo := 0) (n := C) (Nat.zero_le _) (s0 := some 0) trivial
    (fun k s _ hk _ => by
      refine ⟨?_, trivial⟩
      show i_Matrix_rowNorm_b2 _ _ _ _ _ _ = _
      unfold i_Matrix_rowNorm_b2
      rw [dlt hk, bsel_true, i_Matrix_at_eq _ m hi hk, obind_eq, i_absolute_eq (g.getD _), obind_eq, olet_eq, wsucc (by omega)]
      rfl)
    (fun s _ => by
      show i_Matrix_rowNorm_b2 _ _ _ _ _ _ = _
      unfold i_Matrix_rowNorm_b2
      rw [dnlt, bsel_false])).1
theorem s_rowNorm_row {A C i : Nat} {X : List F} (m : Mat A C X) (g : FOks X) (hi : i < A) : loopM (s_l02RowNorm_s3 (A : Int) (C : Int) X (i : Int)) (some 0, 0) = some (.inl (rowS X C i)) := by
  have hC := m.C1
  exact (loop_run (step := s_l02RowNorm_s3 (A : Int) (C : Int) X (i : Int)) (fun (k : Nat) (s : F) => (s, (k : Int))) (fun k s => fop .add .f32 s (fabs32 (gm none X C i k))) (fun s => s) (fun _ _ => True) (lo := 0) (n := C) (Nat.zero_le _) (s0 := some 0) trivial
    (fun k s _ hk _ => by
      refine ⟨?_, trivial⟩
      show s_l02RowNorm_b3 _ _ _ _ _ _ = _
      unfold s_l02RowNorm_b3
      rw [dlt hk, bsel_true, s_l02At_eq _ m hi hk, obind_eq, s_l02Size_eq (g.getD _), obind_eq, olet_eq, wsucc (by omega)]
      rfl)
    (fun s _ => by
      show s_l02RowNorm_b3 _ _ _ _ _ _ = _
      unfold s_l02RowNorm_b3
      rw [dnlt, bsel_false])).1
theorem i_rowNorm_eq {A C : Nat} {X : List F} (m : Mat A C X) (g : FOks X) (f : X.all fin32 = true) : i_Matrix_rowNorm (A : Int) (C : Int) X = some (normR X A C) := by
  have hA := m.A1
  have e := (loop_run (step := i_Matrix_rowNorm_s3 (A : Int) (C : Int) X) (fun (i : Nat) (s : F) => (s, (i : Int))) (fun i s => bif flt .f32 s (rowS X C i) then rowS X C i else s) (fun s => s) (fun _ s => NNs s) (lo := 0) (n := A) (Nat.zero_le _) (s0 := some 0) zero_nns
    (fun i s _ hi h => by
      refine ⟨?_, normR_step m g f hi h⟩
      show i_Matrix_rowNorm_b3 _ _ _ _ _ = _
      unfold i_Matrix_rowNorm_b3
      rw [dlt hi, bsel_true, i_rowNorm_row m g hi, obind_eq, osum_inl]
      unfold i_Matrix_rowNorm_k2
      rw [max_nns h (rowS_nns m g f hi), obind_eq, wsucc (by omega)]
      rfl)
    (fun s _ => by
      show i_Matrix_rowNorm_b3 _ _ _ _ _ = _
      unfold i_Matrix_rowNorm_b3
      rw [dnlt, bsel_false])).1
  unfold i_Matrix_rowNorm
  replace e : loopM (i_Matrix_rowNorm_s3 (A : Int) (C : Int) X) (some 0, 0) = some (.inl (normR X A C)) := e
  rw [e]; rfl
theorem s_rowNorm_eq {A C : Nat} {X : List F} (m : Mat A C X) (g : FOks X) : s_l02RowNorm (A : Int) (C : Int) X = some (normR X A C) := by
  have hA := m.A1
  have e := (loop_run (step := s_l02RowNorm_s5 (A : Int) (C : Int) X) (fun (i : Nat) (s : F) => (s, (i : Int))) (fun i s => bif flt .f32 s (rowS X C i) then rowS X C i else s) (fun s => s) (fun _ _ => True) (lo := 0) (n := A) (Nat.zero_le _) (s0 := some 0) trivial
    (fun i s _ hi _ => by
      refine ⟨?_, trivial⟩
      show s_l02RowNorm_b5 _ _ _ _ _ = _
      unfold s_l02RowNorm_b5
      rw [dlt hi, bsel_true, s_rowNorm_row m g hi, obind_eq, osum_inl]
      unfold s_l02RowNorm_k3 s_l02RowNorm_k4
      rw [wsucc (by omega)]
      cases flt .f32 s (rowS X C i) <;> rfl)
    (fun s _ => by
      show s_l02RowNorm_b5 _ _ _ _ _ = _
      unfold s_l02RowNorm_b5
      rw [dnlt, bsel_false])).1
  unfold s_l02RowNorm
  replace e : loopM (s_l02RowNorm_s5 (A : Int) (C : Int) X) (some 0, 0) = some (.inl (normR X A C)) := e
  rw [e]; rfl
theorem getD_map_range {α : Type} {f : Nat → α} {n q : Nat} {d : α} (h : q < n) : ((List.range n).map f).getD q d = f q := by
  rw [List.getD_eq_getElem?_getD, List.getElem?_map, List.getElem?_range h]; rfl
theorem s_l02Flip_eq {n : Nat} {X : List F} (m : Mat n n X) : s_l02Flip (n : Int) (n : Int) X = some ((n : Int), (n : Int), flipM n X) := by
  have hn := m.A1
  have hnn : n * n ≤ 144 := by rw [← m.len]; exact m.small
  have hw : IntKind.i64.wrap ((n : Int) * (n : Int)) = ((n * n : Nat) : Int) := by rw [wrap_i64 (by rw [← Int.natCast_mul]; omega) (by rw [← Int.natCast_mul]; omega)]; simp
  have e := (loop_run (step := s_l02Flip_s1 (n : Int) (n : Int) X) (fun (q : Nat) (l : List F) => (l, (q : Int))) (fun q l => l ++ [gm none X n (q % n) (q / n)]) (fun l => l) (fun q l => l.length = q) (lo := 0) (n := n * n) (Nat.zero_le _) (s0 := []) rfl
    (fun q l _ hq hI => by
      refine ⟨?_, by simp [hI]⟩
      show s_l02Flip_b1 _ _ _ _ _ = _
      unfold s_l02Flip_b1
      have hC0 : 0 < n := by
        rcases Nat.eq_zero_or_pos n with h | h
        · subst h; omega
        · exact h
      have d1 : q / n < n := Nat.div_lt_of_lt_mul hq
      have d2 : q % n < n := Nat.mod_lt _ hC0
      dsimp only
      have ap : apok 4 l.length 1 = true := by simp [apok, hI]; omega
      rw [hw, olet_eq, dlt hq, bsel_true, dne0 hC0, need_true, tmod_n, olet_eq, need_true, tdiv_n, wn (by omega), olet_eq, s_l02At_eq _ m d2 d1, obind_eq, ap, need_true, wsucc (by omega)]
      rfl)
    (fun l _ => by
      show s_l02Flip_b1 _ _ _ _ _ = _
      unfold s_l02Flip_b1
      rw [hw, olet_eq, dnlt, bsel_false])).1
  rw [Nat.sub_zero, run_map] at e
  have hf : (List.range (n * n)).map (fun q => gm none X n (q % n) (q / n)) = flipM n X := by
    refine mat_ext (A := n) (C := n) ⟨hn, hn, by simp⟩ (flipM_mat hn) fun i k hi hk => ?_
    rw [flipM_gm hn hi hk]
    show ((List.range (n * n)).map (fun q => gm none X n (q % n) (q / n))).getD (i * n + k) none = _
    have e1 : (i * n + k) / n = i := by rw [Nat.mul_comm, Nat.mul_add_div (by omega), Nat.div_eq_of_lt hk, Nat.add_zero]
    have e2 : (i * n + k) % n = k := by rw [Nat.mul_comm, Nat.mul_add_mod, Nat.mod_eq_of_lt hk]
    rw [getD_map_range (idx_lt hi hk), e1, e2]
  rw [hf] at e
  unfold s_l02Flip s_l02Blank
  replace e : loopM (s_l02Flip_s1 (n : Int) (n : Int) X) ([], 0) = some (.inl (flipM n X)) := e
  rw [obind3_eq, e]; rfl
theorem flipM_oks {n : Nat} {X : List F} (hn : n ≤ 12) (g : FOks X) : FOks (flipM n X) := tabM_oks hn hn fun i k => g.getD _
theorem all_fin_gm {A C : Nat} {X : List F} (m : Mat A C X) (h : ∀ i k, i < A → k < C → fin32 (gm none X C i k) = true) : X.all fin32 = true := by
  refine fin_all.2 fun q hq => ?_
  rw [m.len] at hq
  have hC : 0 < C := by
    rcases Nat.eq_zero_or_pos C with h | h
    · subst h; simp at hq
    · exact h
  have d1 : q / C < A := Nat.div_lt_of_lt_mul (by rw [Nat.mul_comm]; exact hq)
  have d2 : q % C < C := Nat.mod_lt _ hC
  have := h (q / C) (q % C) d1 d2
  have e : q / C * C + q % C = q := by rw [Nat.mul_comm]; exact Nat.div_add_mod q C
  rw [gm, e] at this
  exact this
theorem flipM_fin {n : Nat} {X : List F} (m : Mat n n X) (f : X.all fin32 = true) : (flipM n X).all fin32 = true :=
  all_fin_gm (flipM_mat m.A1) fun i k hi hk => by rw [flipM_gm m.A1 hi hk]; exact fin_all.1 f _ (m.lt hk hi)
def cnP (n : Nat) (X : List F) : F × Bool := bif fin32 (normR (flipM n X) n n) then (normR (flipM n X) n n, true) else (some 0, false)
theorem i_ColumnNorm_eq {n : Nat} {X : List F} (m : Mat n n X) (n0 : 0 < n) (g : FOks X) (f : X.all fin32 = true) : i_ColumnNorm (n : Int) (n : Int) X = some (cnP n X) := by
  have m2 := flipM_mat (P := X) m.A1
  have g2 := flipM_oks (X := X) m.A1 g
  have f2 := flipM_fin m f
  unfold i_ColumnNorm i_finite cnP
  rw [i_ValidMatrix_eq _ _ g m.le, mat_valid m n0 n0, f, obind_eq, bsel_true, i_Matrix_flip_eq m, obind3_eq, i_rowNorm_eq m2 g2 f2, obind_eq, i_IsFinite_eq (normR_nns m2 g2 f2).2.1, obind_eq]
  cases fin32 (normR (flipM n X) n n) <;> rfl
theorem s_ColumnNorm_eq {n : Nat} {X : List F} (m : Mat n n X) (n0 : 0 < n) (g : FOks X) (f : X.all fin32 = true) : s_ColumnNorm (n : Int) (n : Int) X = some (cnP n X) := by
  have m2 := flipM_mat (P := X) m.A1
  have g2 := flipM_oks (X := X) m.A1 g
  have f2 := flipM_fin m f
  unfold s_ColumnNorm s_l02Number cnP
  rw [s_l02Is_eq _ _ g m.le, mat_valid m n0 n0, f, obind_eq, bsel_true, s_l02Flip_eq m, obind3_eq, s_rowNorm_eq m2 g2, obind_eq, s_l01Finite_eq (normR_nns m2 g2 f2).2.1, obind_eq]
  cases fin32 (normR (flipM n X) n n) <;> rfl
theorem cnP_ok {n : Nat} {X : List F} (m : Mat n n X) (g : FOks X) (f : X.all fin32 = true) : FOk .f32 (cnP n X).1 := by
  have m2 := flipM_mat (P := X) m.A1
  unfold cnP
  cases fin32 (normR (flipM n X) n n) with
  | true => exact (normR_nns m2 (flipM_oks m.A1 g) (flipM_fin m f)).2.1
  | false => exact zero_ok
def unitC (n k : Nat) : List F := (List.replicate n (some 0 : F)).set k (some 1065353216)
theorem unitC_len {n k : Nat} : (unitC n k).length = n := by simp [unitC]
theorem unitC_oks {n k : Nat} : FOks (unitC n k) := FOks.set (fun x hx => by rw [(List.mem_replicate.1 hx).2]; exact zero_ok) ⟨_, rfl, by decide, by decide⟩
theorem colP_unit {n k : Nat} (hn : n ≤ 12) (hk : k < n) : colP n n k (tabM n n unitF) = unitC n k := by
  apply List.ext_getElem?
  intro q
  by_cases hq : q < n
  · have h1 : (colP n n k (tabM n n unitF)).getD q none = unitF q k := by rw [colP_at hq, tabM_gm hn hn hq hk]
    have h2 : (unitC n k).getD q none = unitF q k := by
      unfold unitC unitF
      rw [List.getD_eq_getElem?_getD, List.getElem?_set]
      by_cases e : k = q
      · subst e
        rw [if_pos rfl, if_pos (by simpa using hk), decide_eq_true rfl]; rfl
      · rw [if_neg e, List.getElem?_replicate, if_pos hq, decide_eq_false (fun h => e h.symm)]; rfl
    rw [List.getD_eq_getElem?_getD, List.getElem?_eq_getElem (by rw [colP_len]; exact hq)] at h1
    rw [List.getD_eq_getElem?_getD, List.getElem?_eq_getElem (by rw [unitC_len]; exact hq)] at h2
    rw [List.getElem?_eq_getElem (by rw [colP_len]; exact hq), List.getElem?_eq_getElem (by rw [unitC_len]; exact hq)]
    congr 1
    exact h1.trans h2.symm
  · rw [List.getElem?_eq_none (by rw [colP_len]; omega), List.getElem?_eq_none (by rw [unitC_len]; omega)]
def solP (n : Nat) (X : List F) (o : List Int) (k : Nat) : List F := upL (upH n X) n (lowL (rowH n X) (ordC o (unitC n k) n) n)
theorem solP_len {n k : Nat} {X : List F} {o : List Int} : (solP n X o k).length = n := by unfold solP; rw [upL_len, lowL_len]
theorem solP_oks {n k : Nat} {X : List F} {o : List Int} : FOks (solP n X o k) := upL_oks upH_ok (lowL_oks rowH_ok (ordC_oks unitC_oks) n)
def putC (n k : Nat) (c L : List F) : List F := run (fun i L => sm L n i k (c.getD i none)) 0 n L
theorem putC_mat {n k : Nat} {c L : List F} (h : Mat n n L) : Mat n n (putC n k c L) := run_inv (fun _ L => Mat n n L) n 0 L h fun _ _ _ _ h => h.set _ _ _
theorem putC_oks {n k : Nat} {c L : List F} (g : FOks L) (hc : FOks c) : FOks (putC n k c L) := run_inv (fun _ L => FOks L) n 0 L g fun _ _ _ _ h => h.set (hc.getD _)
def invM (n : Nat) (X : List F) (o : List Int) : List F := run (fun k L => putC n k (solP n X o k) L) 0 n (List.replicate (n * n) (some 0))
theorem invM_inv {n : Nat} {X : List F} {o : List Int} (hn : n ≤ 12) : Mat n n (invM n X o) ∧ FOks (invM n X o) := by
  have := run_inv (f := fun k L => putC n k (solP n X o k) L) (fun _ L => Mat n n L ∧ FOks L) n 0 (List.replicate (n * n) (some 0)) ⟨zmat hn hn, fun x hx => by rw [(List.mem_replicate.1 hx).2]; exact zero_ok⟩ fun k L _ _ h => ⟨putC_mat h.1, putC_oks h.2 solP_oks⟩
  exact this
theorem i_setColumn_eq {n k : Nat} {c L : List F} (h : Mat n n L) (hk : k < n) (hc : c.length = n) : i_Matrix_setColumn_02o (n : Int) (n : Int) (k : Int) c L = some (putC n k c L) := by
  have hn := h.A1
  have e := (loop_run (step := i_Matrix_setColumn_02o_s1 (n : Int) (n : Int) (k : Int) c L) (fun (i : Nat) (L : List F) => (L, (i : Int))) (fun i L => sm L n i k (c.getD i none)) (fun L => L) (fun _ L => Mat n n L) (lo := 0) (n := n) (Nat.zero_le _) (s0 := L) h
    (fun i L2 _ hi h3 => by
      refine ⟨?_, h3.set _ _ _⟩
      show i_Matrix_setColumn_02o_b1 _ _ _ _ _ _ _ = _
      unfold i_Matrix_setColumn_02o_b1
      have l1 : decide ((sm L2 n i k (c.getD i none)).length = L.length) = true := by simp [h3.len, h.len]
      dsimp only
      rw [dlt hi, bsel_true, at?_n none (by omega), obind_eq, i_Matrix_set_02o_eq _ h3 hi hk, obind_eq, l1, need_true, wsucc (by omega)]
      rfl)
    (fun L2 _ => by
      show i_Matrix_setColumn_02o_b1 _ _ _ _ _ _ _ = _
      unfold i_Matrix_setColumn_02o_b1
      rw [dnlt, bsel_false])).1
  unfold i_Matrix_setColumn_02o
  replace e : loopM (i_Matrix_setColumn_02o_s1 (n : Int) (n : Int) (k : Int) c L) (L, 0) = some (.inl (putC n k c L)) := e
  rw [e]; rfl
def inP (n : Nat) (X : List F) (o : List Int) : Int × Int × Bool × List F := bif (invM n X o).all fin32 then ((n : Int), (n : Int), true, invM n X o) else (0, 0, false, [])
theorem i_FactorInverse_eq {n : Nat} {X : List F} {o : List Int} (m : Mat n n X) (n0 : 0 < n) (g : FOks X) (ho : o.length = n) (hr : ∀ i, i < n → 0 ≤ o.getD i 0 ∧ o.getD i 0 < (n : Int)) (hf : facB (n : Int) (n : Int) X o = true) : i_FactorInverse (n : Int) (n : Int) X o = some (inP n X o) := by
  have hn := m.A1
  obtain ⟨mI, gI⟩ := invM_inv (X := X) (o := o) hn
  have e := (loop_run (step := i_FactorInverse_s1 (n : Int) (n : Int) X o (n : Int) (n : Int) (List.replicate (n * n) (some 0))) (fun (k : Nat) (L : List F) => (L, (k : Int))) (fun k L => putC n k (solP n X o k) L) (fun L => L) (fun _ L => Mat n n L) (lo := 0) (n := n) (Nat.zero_le _) (s0 := List.replicate (n * n) (some 0)) (zmat hn hn)
    (fun k L _ hk h3 => by
      refine ⟨?_, putC_mat h3⟩
      show i_FactorInverse_b1 _ _ _ _ _ _ _ _ _ = _
      unfold i_FactorInverse_b1
      have l1 : decide ((putC n k (solP n X o k) L).length = (List.replicate (n * n) (some 0 : F)).length) = true := by rw [(putC_mat h3).len]; simp
      dsimp only
      rw [dlt hk, bsel_true, i_unit_eq hn, obind3_eq, i_Matrix_column_eq (tabM_mat hn hn) hk, obind_eq, colP_unit hn hk, i_Factor_solve_eq m n0 unitC_len ho hr, obind_eq, show upL (upH n X) n (lowL (rowH n X) (ordC o (unitC n k) n) n) = solP n X o k from rfl, i_setColumn_eq h3 hk solP_len, obind_eq, l1, need_true, wsucc (by omega)]
      rfl)
    (fun L _ => by
      show i_FactorInverse_b1 _ _ _ _ _ _ _ _ _ = _
      unfold i_FactorInverse_b1
      rw [dnlt, bsel_false])).1
  replace e : loopM (i_FactorInverse_s1 (n : Int) (n : Int) X o (n : Int) (n : Int) (List.replicate (n * n) (some 0))) (List.replicate (n * n) (some 0), 0) = some (.inl (invM n X o)) := e
  unfold i_FactorInverse
  rw [i_ValidFactor_eq _ _ _ g m.le, hf, obind_eq, bsel_true, i_newMatrix_eq hn hn, obind3_eq, e, obind_eq, osum_inl]
  unfold i_FactorInverse_k1 i_Matrix_valid_02o inP
  have l1 : decide ((invM n X o).length = (List.replicate (n * n) (some 0 : F)).length) = true := by rw [mI.len]; simp
  rw [i_ValidMatrix_eq _ _ gI mI.le, mat_valid mI n0 n0, obind_eq]
  cases (invM n X o).all fin32 with
  | true => rw [bsel_true, obind_eq, osum_inl, obind4_eq, l1, need_true]; rfl
  | false => rw [bsel_false, obind_eq, osum_inr, obind5_eq, l1, need_true]; rfl
theorem s_FactorInverse_eq {n : Nat} {X : List F} {o : List Int} (m : Mat n n X) (n0 : 0 < n) (g : FOks X) (ho : o.length = n) (hr : ∀ i, i < n → 0 ≤ o.getD i 0 ∧ o.getD i 0 < (n : Int)) (hf : facB (n : Int) (n : Int) X o = true) : s_FactorInverse (n : Int) (n : Int) X o = some (inP n X o) := by
  have hn := m.A1
  obtain ⟨mI, gI⟩ := invM_inv (X := X) (o := o) hn
  have hk4 : mkok 4 (n : Int) = true := by simp [mkok]; omega
  have e := (loop_run (step := s_l03Inverse_s3 (n : Int) (n : Int) X o) (fun (k : Nat) (L : List F) => (L, (k : Int))) (fun k L => putC n k (solP n X o k) L) (fun L => L) (fun _ L => Mat n n L) (lo := 0) (n := n) (Nat.zero_le _) (s0 := List.replicate (n * n) (some 0)) (zmat hn hn)
    (fun k L _ hk h3 => by
      refine ⟨?_, putC_mat h3⟩
      show s_l03Inverse_b3 _ _ _ _ _ _ = _
      unfold s_l03Inverse_b3
      dsimp only
      have e2 := (loop_run (step := s_l03Inverse_s2 (n : Int) (k : Int) (solP n X o k)) (fun (i : Nat) (L : List F) => (L, (i : Int))) (fun i L => sm L n i k ((solP n X o k).getD i none)) (fun L => L) (fun _ L => Mat n n L) (lo := 0) (n := n) (Nat.zero_le _) (s0 := L) h3
        (fun i L2 _ hi h4 => by
          refine ⟨?_, h4.set _ _ _⟩
          show s_l03Inverse_b2 _ _ _ _ _ = _
          unfold s_l03Inverse_b2
          obtain ⟨w1, w2⟩ := idx_w hn hn hi hk
          have ls : (solP n X o k).length = n := solP_len
          dsimp only
          rw [dlt hi, bsel_true, w1, olet_eq, w2, olet_eq, at?_n none (by omega), obind_eq, setAt?_n _ (h4.lt hi hk), obind_eq, wsucc (by omega)]
          rfl)
        (fun L2 _ => by
          show s_l03Inverse_b2 _ _ _ _ _ = _
          unfold s_l03Inverse_b2
          rw [dnlt, bsel_false])).1
      replace e2 : loopM (s_l03Inverse_s2 (n : Int) (k : Int) (solP n X o k)) (L, 0) = some (.inl (putC n k (solP n X o k) L)) := e2
      rw [dlt hk, bsel_true, hk4, need_true, Int.toNat_natCast, setAt?_n _ (by simpa using hk), obind_eq, show (List.replicate n (some 0 : F)).set k (some 1065353216) = unitC n k from rfl, s_l03Solve_eq m unitC_len ho hr, obind_eq, show upL (upH n X) n (lowL (rowH n X) (ordC o (unitC n k) n) n) = solP n X o k from rfl, e2, obind_eq, osum_inl]
      unfold s_l03Inverse_k2
      rw [wsucc (by omega)]
      rfl)
    (fun L _ => by
      show s_l03Inverse_b3 _ _ _ _ _ _ = _
      unfold s_l03Inverse_b3
      rw [dnlt, bsel_false])).1
  replace e : loopM (s_l03Inverse_s3 (n : Int) (n : Int) X o) (List.replicate (n * n) (some 0), 0) = some (.inl (invM n X o)) := e
  unfold s_FactorInverse s_l03Inverse
  rw [s_l03Is_eq _ _ _ g m.le, hf, obind_eq, bsel_true, s_l02Zero_eq hn hn, obind3_eq, e, obind_eq, osum_inl]
  unfold s_l03Inverse_k3 s_l02Give_02o inP
  rw [obind3_eq, s_l02Is_eq _ _ gI mI.le, mat_valid mI n0 n0, obind_eq]
  cases (invM n X o).all fin32 with
  | true => rw [bsel_true, obind_eq, osum_inl, obind4_eq, decide_eq_true rfl, need_true]; rfl
  | false => rw [bsel_false, obind_eq, osum_inr, obind5_eq, decide_eq_true rfl, need_true]; rfl
theorem fac_parts {a0 a1 : Int} {a2 : List F} {a3 : List Int} (h : facB a0 a1 a2 a3 = true) : ∃ n : Nat, a0 = (n : Int) ∧ a1 = (n : Int) ∧ 0 < n ∧ Mat n n a2 ∧ a2.all fin32 = true ∧ a3.length = n ∧ ∀ i, i < n → 0 ≤ a3.getD i 0 ∧ a3.getD i 0 < (n : Int) := by
  unfold facB at h
  simp only [Bool.and_eq_true, decide_eq_true_eq] at h
  obtain ⟨⟨hv, he⟩, ho, h3, hm⟩ := h
  obtain ⟨n, C, rfl, rfl, n0, C0, m, f⟩ := valid_mat hv
  have : n = C := by omega
  subst this
  refine ⟨n, rfl, rfl, n0, m, f, by omega, fun i hi => ?_⟩
  have hl : a3.length = n := by omega
  unfold ordB at ho
  simp only [Bool.and_eq_true, decide_eq_true_eq] at ho
  have hG := (good_sorted rfl).1 ho.2.2
  rw [List.getD_eq_getElem?_getD, List.getElem?_eq_getElem (by omega)]
  have := hG.1 a3[i] (List.getElem_mem _)
  exact ⟨this.1, by have h6 := this.2; show a3[i] < (n : Int); omega⟩
theorem FactorRows_sq {a0 a1 : Int} {a2 : List F} (g : FOks a2) (s2 : a2.length ≤ 1048576) {x y : Int} {L : List F} {o : List Int} (h : s_FactorRows a0 a1 a2 = some (x, y, true, L, o)) : validM a0 a1 a2 = true ∧ a0 = a1 := by
  unfold s_FactorRows at h
  rw [s_l02Square_eq a0 a1 g s2, obind_eq] at h
  cases hv : validM a0 a1 a2 && decide (a0 = a1) with
  | false => rw [hv, bsel_false] at h; cases h
  | true => simpa using hv
theorem ConditionOf_eq (a0 a1 : Int) (a2 : List F) (g : FOks a2) (s2 : a2.length ≤ 1048576) : ∃ c b, s_ConditionOf a0 a1 a2 = some (c, b) ∧ i_ConditionOf a0 a1 a2 = some (c, b) := by
  obtain ⟨x, y, b, L, o, h1, h2, h3, h4, h5⟩ := FactorRows_full a0 a1 a2 g s2
  unfold s_ConditionOf i_ConditionOf
  rw [h1, h2]
  cases b with
  | false => exact ⟨_, _, rfl, rfl⟩
  | true =>
    obtain ⟨hv, he⟩ := FactorRows_sq g s2 h1
    obtain ⟨n, C, rfl, rfl, n0, C0, m, f⟩ := valid_mat hv
    have : n = C := by omega
    subst this
    simp only [obind5_eq, bsel_true]
    rw [s_ColumnNorm_eq m n0 g f, i_ColumnNorm_eq m n0 g f]
    cases hf : facB x y L o with
    | false =>
      have e1 : s_FactorInverse x y L o = some (0, 0, false, []) := by
        unfold s_FactorInverse
        rw [s_l03Is_eq _ _ _ h5 h3, hf, obind_eq, bsel_false]
      have e2 : i_FactorInverse x y L o = some (0, 0, false, []) := by
        unfold i_FactorInverse
        rw [i_ValidFactor_eq _ _ _ h5 h3, hf, obind_eq, bsel_false]
      rw [e1, e2]
      generalize cnP n a2 = p
      obtain ⟨p1, p2⟩ := p
      cases p2 <;> exact ⟨_, _, rfl, rfl⟩
    | true =>
      obtain ⟨k, rfl, rfl, k0, m2, f2, ho, hr⟩ := fac_parts hf
      obtain ⟨mI, gI⟩ := invM_inv (X := L) (o := o) m2.A1
      rw [s_FactorInverse_eq m2 k0 h5 ho hr hf, i_FactorInverse_eq m2 k0 h5 ho hr hf]
      have hok := cnP_ok m g f
      unfold inP
      cases hI : (invM k L o).all fin32 with
      | false =>
        generalize cnP n a2 = p
        obtain ⟨p1, p2⟩ := p
        cases p2 <;> exact ⟨_, _, rfl, rfl⟩
      | true =>
        simp only [cond_true, obind4_eq, bsel_true]
        rw [s_ColumnNorm_eq mI k0 gI hI, i_ColumnNorm_eq mI k0 gI hI]
        have hok2 := cnP_ok mI gI hI
        revert hok hok2
        generalize cnP n a2 = p
        generalize cnP k (invM k L o) = r
        obtain ⟨p1, p2⟩ := p
        obtain ⟨r1, r2⟩ := r
        intro hok hok2
        cases p2 with
        | false => cases r2 <;> exact ⟨_, _, rfl, rfl⟩
        | true =>
          cases r2 with
          | false => exact ⟨_, _, rfl, rfl⟩
          | true =>
            simp only [obind2_eq, bsel_true, olet_eq, i_mul_eq, obind_eq]
            unfold s_l02Number i_finite
            rw [s_l01Finite_eq (fop_fok _ _ _), i_IsFinite_eq (fop_fok _ _ _)]
            cases fin32 (fop .mul .f32 p1 r1) <;> exact ⟨_, _, rfl, rfl⟩
theorem w_FnExactConditionOf_true (a0 : Int) (a1 : Int) (a2 : List F) (s_a2 : Small a2) (g_a2 : FOks a2) : w_FnExactConditionOf a0 a1 a2 = some true := by
  obtain ⟨l0, e0, h0⟩ := w_szFloat32S_ex a2 1048576 s_a2 (by omega) (by omega)
  rcases Int.lt_or_le l0 0 with c0 | c0
  · simp [w_FnExactConditionOf, w_eqMatrix, w_szMatrix, w_toMatrix, e0, c0]
  have d0 : decide (l0 < 0) = false := by simp; omega
  have t0 := h0 c0
  have t_a2 : a2.length ≤ 1048576 := by omega
  have f1 : w_toFloat32S a2 = some a2 := w_toFloat32S_eq a2 t_a2
  obtain ⟨z0, z1, p1, p2⟩ := ConditionOf_eq a0 a1 a2 g_a2 t_a2
  have f2 : w_sameFloat (fwiden z0) (fwiden z0) = some true := w_sameFloat_refl (fwiden z0)
  have f3 : (!(z1 == z1)) = false := by cases z1 <;> rfl
  have f4 : w_eqFloat32S a2 a2 = some true := w_eqFloat32S_refl a2 t_a2
  simp only [w_FnExactConditionOf, w_eqMatrix, w_szMatrix, w_toMatrix, e0, d0, f1, p1, p2, f2, f3, f4, obind_eq, obind2_eq, obind3_eq, obind4_eq, obind5_eq, obind6_eq, obind7_eq, obind8_eq, bsel_true, bsel_false, need_true, olet_eq, marks_len, marksI_len, decide_true, Bool.not_true, Bool.not_false]

end Go.Proofs.YtcoookgeialmnaaGreat
