/- The plain law of FnFunctions. -/
import Derived.Test.YtkdociaoknmgbaaG2
namespace Go.Proofs.Ytkdociaoknmgbaa
set_option linter.unusedSimpArgs false
set_option linter.unusedVariables false
open Go Go.AM
def Small {α : Type} (l : List α) : Prop := l.length ≤ 9223372036854775807
theorem x_math_Signbit_widen {b : Nat} (h : FOk .f32 (some b)) : x_math_Signbit (fwiden (some b)) = some (wneg Ieee.single b) := by
  unfold x_math_Signbit
  have hok := (fwiden_ok h)
  simp only [fwiden, Option.map_some] at hok ⊢
  have hlt : FloatKind.f64.encode (FloatKind.f32.decode b) < 18446744073709551616 := hok.some.1
  have hn := widen_neg h
  generalize FloatKind.f64.encode (FloatKind.f32.decode b) = w at hlt hn
  rw [← hn]
  simp only [obind_eq, olet_eq]
  congr 1
  have e : wneg Ieee.double w = decide (9223372036854775808 ≤ w) := by
    unfold wneg
    show (w / 9223372036854775808 % 2 == 1) = _
    by_cases h1 : 9223372036854775808 ≤ w
    · have : w / 9223372036854775808 = 1 := by omega
      simp [this, h1]
    · have : w / 9223372036854775808 = 0 := by omega
      simp [this, h1]
  rw [e]
  have : IntKind.i64.wrap (w : Int) = if w < 9223372036854775808 then (w : Int) else (w : Int) - 18446744073709551616 := by
    simp only [IntKind.wrap, IntKind.bits, IntKind.signed]
    simp
    split <;> split <;> omega
  rw [this]
  by_cases h1 : w < 9223372036854775808
  · rw [if_pos h1]; simp; omega
  · rw [if_neg h1]; simp; omega
theorem i_SameNumber_eq {c d : F} (hc : FOk .f32 c) (hd : FOk .f32 d) : i_SameNumber c d = some (decide (c = d)) := by
  unfold i_SameNumber
  cases c with
  | none =>
    cases d with
    | none => simp
    | some b => simp [feq_refl hd]
  | some a =>
    cases d with
    | none => simp [feq_refl hc]
    | some b =>
      rw [feq_refl hc, feq_refl hd]
      simp only [Bool.not_true, bsel_false, olet_eq, x_math_Signbit_widen hc, x_math_Signbit_widen hd, obind_eq]
      cases ho : feq .f32 (some a) (some b) with
      | false =>
        rw [bsel_false]
        have : a ≠ b := fun e => by subst e; rw [feq_refl hc] at ho; cases ho
        simp [this]
      | true =>
        rw [bsel_true]
        have ho' : Ieee.single.order a b = some .eq := by
          simp only [feq, ford, Option.bind_some] at ho
          have : FloatKind.f32.format.order a b = some .eq := by simpa using ho
          exact this
        congr 1
        by_cases hs : wneg Ieee.single a = wneg Ieee.single b
        · have := eq_of_order (f := Ieee.single) (fmt_ok .f32) hc.some.1 hd.some.1 hc.some.2 hd.some.2 ho' hs
          subst this; simp
        · have : a ≠ b := fun e => hs (by rw [e])
          simp [this, hs]
def FOks (l : List F) : Prop := ∀ c ∈ l, FOk .f32 c
theorem FOks.at {l : List F} (h : FOks l) {i : Nat} {c : F} (e : l[i]? = some c) : FOk .f32 c := h c (List.mem_of_getElem? e)
theorem x_slices_EqualFunc_float32_float32_float32_float32_2Fi_SameNumber_eq {a b : List F} (ha : FOks a) (hb : FOks b) (sa : a.length ≤ 1048576) : x_slices_EqualFunc_float32_float32_float32_float32_2Fi_SameNumber a b = some (decide (a = b)) := by
  unfold x_slices_EqualFunc_float32_float32_float32_float32_2Fi_SameNumber
  by_cases hl : a.length = b.length
  · rw [loop_eq (l := a) (m := b) hl ?_ ?_]
    · by_cases e : a = b
      · simp [e, x_slices_EqualFunc_float32_float32_float32_float32_2Fi_SameNumber_k1]
      · simp [hl, e]
    · intro v x y h0 hv hx hy
      show x_slices_EqualFunc_float32_float32_float32_float32_2Fi_SameNumber_b1 a b v = _
      unfold x_slices_EqualFunc_float32_float32_float32_float32_2Fi_SameNumber_b1
      rw [at?_of h0 hx, at?_of h0 hy, wrap_succ h0 hv (by omega)]
      simp [bsel_if, hv, i_SameNumber_eq (ha.at hx) (hb.at hy)]
    · show x_slices_EqualFunc_float32_float32_float32_float32_2Fi_SameNumber_b1 a b (a.length : Int) = _
      unfold x_slices_EqualFunc_float32_float32_float32_float32_2Fi_SameNumber_b1
      simp [bsel_if]
  · have : a ≠ b := fun e => hl (by rw [e])
    have hl' : ¬ (a.length : Int) = (b.length : Int) := by omega
    simp [hl', this]
theorem i_inRange_eq (n lo hi : Int) : i_inRange n lo hi = some (decide (lo ≤ n) && decide (n ≤ hi)) := by
  unfold i_inRange; cases decide (lo ≤ n) <;> rfl
theorem i_IsFinite_eq {c : F} (h : FOk .f32 c) : i_IsFinite c = some (fin32 c) := by
  unfold i_IsFinite i_isFinite64 x_math_IsNaN x_math_IsInf x_math_Abs x_math_IsInf_k1
  cases c with
  | none => simp [fwiden, fin32]
  | some b =>
    have hw := feq_refl (k := .f64) (b := FloatKind.f64.encode (FloatKind.f32.decode b)) (fwiden_ok h)
    have hw' : feq .f64 (fwiden (some b)) (fwiden (some b)) = true := hw
    have hm := fabs_max h (by simp)
    simp only [olet_eq, obind_eq, hw', Bool.not_true, bsel_false, decide_true, bsel_true, hm, Bool.not_not]
theorem i_areFinite_1_eq {c : F} (h : FOk .f32 c) : i_areFinite_1 c = some (!fin32 c) := by
  unfold i_areFinite_1; rw [i_IsFinite_eq h]; rfl
theorem any_not {α : Type} (l : List α) (p : α → Bool) : l.any (fun x => !p x) = !l.all p := by
  induction l with
  | nil => rfl
  | cons a l ih => simp [ih]
theorem i_areFinite_eq {a : List F} (ha : FOks a) (sa : a.length ≤ 1048576) : i_areFinite a = some (a.all fin32) := by
  unfold i_areFinite x_slices_ContainsFunc_float32_float32_1Fi_areFinite_1 x_slices_IndexFunc_float32_float32_1Fi_areFinite_1
  obtain ⟨r, h1, h2⟩ := loop_find (l := a) (p := fun c => !fin32 c) (step := x_slices_IndexFunc_float32_float32_1Fi_areFinite_1_s1 a) (by
    intro v x h0 hv hx
    show x_slices_IndexFunc_float32_float32_1Fi_areFinite_1_b1 a v = _
    unfold x_slices_IndexFunc_float32_float32_1Fi_areFinite_1_b1
    rw [at?_of h0 hx, wrap_succ h0 hv (by omega)]
    simp [bsel_if, hv, i_areFinite_1_eq (ha.at hx)]) (by
    show x_slices_IndexFunc_float32_float32_1Fi_areFinite_1_b1 a (a.length : Int) = _
    unfold x_slices_IndexFunc_float32_float32_1Fi_areFinite_1_b1
    simp [bsel_if])
  rw [h1, any_not]
  cases h : a.all fin32 <;> simp [x_slices_IndexFunc_float32_float32_1Fi_areFinite_1_k1, h2]
abbrev q1 : List F := [some 1073741824, some 1065353216, some 1065353216, some 1073741824]
abbrev q2 : List F := [some 1065353216, some 0]
theorem small_mul {x y : Nat} (hx : x ≤ 12) (hy : y ≤ 12) : x * y ≤ 144 := Nat.mul_le_mul hx hy
def side (n : Int) : Bool := decide (1 ≤ n) && decide (n ≤ 12)
theorem i_isSide_eq (x : Int) : i_isSide x = some (side x) := by
  unfold i_isSide; rw [i_inRange_eq]; rfl
def validM (a0 a1 : Int) (a2 : List F) : Bool := side a0 && side a1 && decide ((a2.length : Int) = IntKind.i64.wrap (a0 * a1)) && a2.all fin32
theorem i_ValidMatrix_eq (a0 a1 : Int) {a2 : List F} (g2 : FOks a2) (s2 : a2.length ≤ 1048576) : i_ValidMatrix a0 a1 a2 = some (validM a0 a1 a2) := by
  unfold i_ValidMatrix i_length_float32 validM
  rw [i_isSide_eq, i_isSide_eq, i_areFinite_eq g2 s2]
  cases side a0 <;> cases side a1 <;> simp [bsel_if] <;> split <;> simp_all
theorem FOks.getD {l : List F} (h : FOks l) (n : Nat) : FOk .f32 (l.getD n none) := by
  simp only [List.getD]
  cases e : l[n]? with
  | none => exact fok_none _
  | some c => exact h.at e
theorem FOks.set {l : List F} (h : FOks l) {n : Nat} {x : F} (hx : FOk .f32 x) : FOks (l.set n x) := by
  intro c hc
  rcases List.mem_or_eq_of_mem_set hc with h1 | h1
  · exact h c h1
  · exact h1 ▸ hx
theorem wsucc {i : Nat} (h : i ≤ 1000000000) : IntKind.i64.wrap ((i : Int) + 1) = ((i + 1 : Nat) : Int) := by
  rw [wrap_i64 (by omega) (by omega)]; omega
theorem dlt {i n : Nat} (h : i < n) : decide ((i : Int) < (n : Int)) = true := by simp; omega
theorem dnlt {n : Nat} : decide ((n : Int) < (n : Int)) = false := by simp
theorem dle {i n : Nat} (h : i ≤ n) : decide ((i : Int) ≤ (n : Int)) = true := by simp; omega
theorem i_Matrix_at_eq {A C i k : Nat} {L : List F} (r : Int) (h : Mat A C L) (hi : i < A) (hk : k < C) : i_Matrix_at r (C : Int) L (i : Int) (k : Int) = some (gm none L C i k) := by
  obtain ⟨e1, e2⟩ := idx_w h.A1 h.C1 hi hk
  unfold i_Matrix_at
  rw [e1, olet_eq, e2, olet_eq, at?_n none (h.lt hi hk), obind_eq]
theorem i_Matrix_set_02o_eq {A C i k : Nat} {L : List F} (r : Int) (h : Mat A C L) (hi : i < A) (hk : k < C) (x : F) : i_Matrix_set_02o r (C : Int) (i : Int) (k : Int) x L = some (sm L C i k x) := by
  obtain ⟨e1, e2⟩ := idx_w h.A1 h.C1 hi hk
  unfold i_Matrix_set_02o
  rw [e1, olet_eq, e2, olet_eq, setAt?_n x (h.lt hi hk), obind_eq]
theorem i_absolute_eq {c : F} (h : FOk .f32 c) : i_absolute c = some (fabs32 c) := by
  unfold i_absolute x_math_Abs
  rw [olet_eq, olet_eq, obind_eq, abs_narrow h, obind_eq]
theorem i_mul_eq (a b : F) : i_mul a b = some (fop .mul .f32 a b) := rfl
theorem getD_of_lt {α : Type} {l : List α} {n : Nat} (d : α) (h : n < l.length) : l[n]? = some (l.getD n d) := by simp [List.getD, h]
theorem fin_all {L : List F} : L.all fin32 = true ↔ ∀ n, n < L.length → fin32 (L.getD n none) = true := by
  rw [List.all_eq_true]
  constructor
  · intro h n hn; exact h _ (List.mem_of_getElem? (getD_of_lt none hn))
  · intro h c hc
    obtain ⟨n, hn, e⟩ := List.mem_iff_getElem.1 hc
    have := h n hn
    simpa [List.getD, hn, e] using this
theorem i_isSquare_eq (a0 a1 : Int) {a2 : List F} (g2 : FOks a2) (s2 : a2.length ≤ 1048576) : i_isSquare a0 a1 a2 = some (validM a0 a1 a2 && decide (a0 = a1)) := by
  unfold i_isSquare
  rw [i_ValidMatrix_eq a0 a1 g2 s2, obind_eq]
  cases validM a0 a1 a2 <;> rfl
theorem mat_valid {A C : Nat} {L : List F} (h : Mat A C L) (hA : 0 < A) (hC : 0 < C) : validM (A : Int) (C : Int) L = L.all fin32 := by
  unfold validM side
  have hAC := small_mul h.A1 h.C1
  have h1 := h.A1
  have h2 := h.C1
  rw [← Int.natCast_mul, wn (by omega), h.len]
  have e1 : decide ((1 : Int) ≤ (A : Int)) = true := by simp; omega
  have e2 : decide ((A : Int) ≤ 12) = true := by simp; omega
  have e3 : decide ((1 : Int) ≤ (C : Int)) = true := by simp; omega
  have e4 : decide ((C : Int) ≤ 12) = true := by simp; omega
  rw [e1, e2, e3, e4]
  simp
theorem i_Matrix_clone_eq (a0 a1 : Int) {L : List F} (h : L.length ≤ 1048576) : i_Matrix_clone a0 a1 L = some (a0, a1, L) := by
  have ap : apok 4 0 L.length = true := by simp [apok]; omega
  unfold i_Matrix_clone x_slices_Clone_float32_float32; rw [ap]; rfl
theorem i_RootNumber_eq {y : F} (h : FOk .f32 y) : i_RootNumber y = some (rootN y) := by
  unfold i_RootNumber x_math_Sqrt
  rw [olet_eq, olet_eq, obind_eq, root_narrow h]; rfl
theorem i_newMatrix_eq {A C : Nat} (hA : A ≤ 12) (hC : C ≤ 12) : i_newMatrix (A : Int) (C : Int) = some ((A : Int), (C : Int), List.replicate (A * C) (some 0)) := by
  have hAC := small_mul hA hC
  unfold i_newMatrix
  have mk : mkok 4 ((A * C : Nat) : Int) = true := by simp [mkok]; omega
  rw [← Int.natCast_mul, wn (by omega), olet_eq, mk]; rfl
theorem mat_ext {A C : Nat} {L L' : List F} (h : Mat A C L) (h' : Mat A C L') (e : ∀ i k, i < A → k < C → gm none L C i k = gm none L' C i k) : L = L' := by
  apply List.ext_getElem?
  intro q
  by_cases hq : q < A * C
  · have hC : 0 < C := by
      rcases Nat.eq_zero_or_pos C with h0 | h0
      · subst h0; simp at hq
      · exact h0
    have h1 : q / C < A := (Nat.div_lt_iff_lt_mul hC).2 hq
    have h2 : q % C < C := Nat.mod_lt _ hC
    have h3 : q / C * C + q % C = q := by rw [Nat.mul_comm]; exact Nat.div_add_mod q C
    have := e _ _ h1 h2
    unfold gm at this
    rw [h3] at this
    rw [getD_of_lt none (by rw [h.len]; exact hq), getD_of_lt none (by rw [h'.len]; exact hq), this]
  · rw [List.getElem?_eq_none (by rw [h.len]; omega), List.getElem?_eq_none (by rw [h'.len]; omega)]
def fillR (f : Nat → Nat → F) (C i : Nat) (L : List F) : List F := run (fun k L => sm L C i k (f i k)) 0 C L
def fillA (f : Nat → Nat → F) (A C : Nat) (L : List F) : List F := run (fillR f C) 0 A L
theorem fillR_spec {f : Nat → Nat → F} {A C i : Nat} {L : List F} (h : Mat A C L) (hi : i < A) : Mat A C (fillR f C i L) ∧ ∀ j k, j < A → k < C → gm none (fillR f C i L) C j k = if j = i then f i k else gm none L C j k := by
  have := run_inv (f := fun k L => sm L C i k (f i k)) (fun c L' => Mat A C L' ∧ ∀ j k, j < A → k < C → gm none L' C j k = if j = i ∧ k < c then f i k else gm none L C j k) C 0 L ⟨h, fun j k _ _ => by simp⟩ (fun c L' _ hc hI => by
    refine ⟨hI.1.set _ _ _, fun j k hj hk => ?_⟩
    rw [gm_set hI.1 hi (by omega) hk, hI.2 j k hj hk]
    by_cases e1 : i = j
    · subst e1
      by_cases e2 : c = k
      · subst e2; simp
      · by_cases e3 : k < c
        · rw [if_neg (by omega), if_pos (by omega), if_pos (by omega)]
        · rw [if_neg (by omega), if_neg (by omega), if_neg (by omega)]
    · rw [if_neg (by omega), if_neg (by omega), if_neg (by omega)])
  refine ⟨this.1, fun j k hj hk => ?_⟩
  unfold fillR
  rw [this.2 j k hj hk]
  by_cases e : j = i
  · rw [if_pos ⟨e, by omega⟩, if_pos e]
  · rw [if_neg (by omega), if_neg e]
theorem fillA_spec {f : Nat → Nat → F} {A C : Nat} {L : List F} (h : Mat A C L) : Mat A C (fillA f A C L) ∧ ∀ j k, j < A → k < C → gm none (fillA f A C L) C j k = f j k := by
  have := run_inv (f := fillR f C) (fun r L' => Mat A C L' ∧ ∀ j k, j < r → j < A → k < C → gm none L' C j k = f j k) A 0 L ⟨h, fun j k hj _ _ => by omega⟩ (fun r L' _ hr hI => by
    obtain ⟨s1, s2⟩ := fillR_spec (f := f) hI.1 (show r < A by omega)
    refine ⟨s1, fun j k hj hjA hk => ?_⟩
    rw [s2 j k hjA hk]
    by_cases e : j = r
    · rw [if_pos e, e]
    · rw [if_neg e]; exact hI.2 j k (by omega) hjA hk)
  exact ⟨this.1, fun j k hj hk => this.2 j k (by omega) hj hk⟩
def tabM (A C : Nat) (f : Nat → Nat → F) : List F := fillA f A C (List.replicate (A * C) (some 0))
theorem zmat {A C : Nat} (hA : A ≤ 12) (hC : C ≤ 12) : Mat A C (List.replicate (A * C) (some 0 : F)) := ⟨hA, hC, by simp⟩
theorem tabM_mat {A C : Nat} {f : Nat → Nat → F} (hA : A ≤ 12) (hC : C ≤ 12) : Mat A C (tabM A C f) := (fillA_spec (zmat hA hC)).1
theorem tabM_gm {A C : Nat} {f : Nat → Nat → F} (hA : A ≤ 12) (hC : C ≤ 12) {i k : Nat} (hi : i < A) (hk : k < C) : gm none (tabM A C f) C i k = f i k := (fillA_spec (zmat hA hC)).2 i k hi hk
theorem oks_of_gm {A C : Nat} {L : List F} (h : Mat A C L) (e : ∀ i k, i < A → k < C → FOk .f32 (gm none L C i k)) : FOks L := by
  intro c hc
  obtain ⟨q, hq, rfl⟩ := List.mem_iff_getElem.1 hc
  have hq' : q < A * C := by rw [← h.len]; exact hq
  have hC : 0 < C := by
    rcases Nat.eq_zero_or_pos C with h0 | h0
    · subst h0; simp at hq'
    · exact h0
  have h1 : q / C < A := (Nat.div_lt_iff_lt_mul hC).2 hq'
  have h2 : q % C < C := Nat.mod_lt _ hC
  have h3 : q / C * C + q % C = q := by rw [Nat.mul_comm]; exact Nat.div_add_mod q C
  have := e _ _ h1 h2
  unfold gm at this
  rw [h3] at this
  simpa [List.getD, hq] using this
theorem tabM_oks {A C : Nat} {f : Nat → Nat → F} (hA : A ≤ 12) (hC : C ≤ 12) (hf : ∀ i k, FOk .f32 (f i k)) : FOks (tabM A C f) := oks_of_gm (tabM_mat hA hC) fun i k hi hk => by rw [tabM_gm hA hC hi hk]; exact hf i k
theorem run_map {α : Type} (f : Nat → α) : ∀ n : Nat, run (fun i (l : List α) => l ++ [f i]) 0 n [] = (List.range n).map f
  | 0 => rfl
  | n + 1 => by rw [run_last, run_map f n]; simp [List.range_succ]
def unitF (i k : Nat) : F := bif decide (i = k) then some 1065353216 else some 0
theorem i_unit_1_eq (i k : Nat) : i_unit_1 (i : Int) (k : Int) = some (unitF i k) := by
  unfold i_unit_1 unitF
  by_cases h : i = k
  · subst h; simp
  · rw [show decide ((i : Int) = (k : Int)) = false by simp; omega, show decide (i = k) = false by simp [h]]; rfl
theorem i_made_2Fi_unit_1_eq {A C : Nat} (hA : A ≤ 12) (hC : C ≤ 12) : i_made_2Fi_unit_1 (A : Int) (C : Int) = some ((A : Int), (C : Int), tabM A C unitF) := by
  have inner : ∀ (i : Nat) (L L0 : List F), i < A → Mat A C L → Mat A C L0 → loopM (i_made_2Fi_unit_1_s2 (C : Int) (A : Int) (C : Int) L0 (i : Int)) (L, 0) = some (.inl (fillR unitF C i L)) := by
    intro i L L0 hi hL hL0
    exact (loop_run (step := i_made_2Fi_unit_1_s2 (C : Int) (A : Int) (C : Int) L0 (i : Int)) (fun (k : Nat) (L : List F) => (L, (k : Int))) (fun k L => sm L C i k (unitF i k)) (fun L => L) (fun _ L => Mat A C L) (lo := 0) (n := C) (Nat.zero_le _) (s0 := L) hL
      (fun k L2 _ hk h3 => by
        refine ⟨?_, h3.set _ _ _⟩
        show i_made_2Fi_unit_1_b2 _ _ _ _ _ _ _ = _
        unfold i_made_2Fi_unit_1_b2
        have l1 : decide ((sm L2 C i k (unitF i k)).length = L0.length) = true := by simp [h3.len, hL0.len]
        rw [dlt hk, bsel_true, i_unit_1_eq, obind_eq, i_Matrix_set_02o_eq _ h3 hi hk, obind_eq, l1, need_true, wsucc (by omega)]
        rfl)
      (fun L2 _ => by
        show i_made_2Fi_unit_1_b2 _ _ _ _ _ _ _ = _
        unfold i_made_2Fi_unit_1_b2
        rw [dnlt, bsel_false])).1
  have e := (loop_run (step := i_made_2Fi_unit_1_s3 (A : Int) (C : Int) (A : Int) (C : Int) (List.replicate (A * C) (some 0))) (fun (i : Nat) (L : List F) => (L, (i : Int))) (fillR unitF C) (fun L => L) (fun _ L => Mat A C L) (lo := 0) (n := A) (Nat.zero_le _) (s0 := List.replicate (A * C) (some 0)) (zmat hA hC)
    (fun i L2 _ hi h3 => by
      refine ⟨?_, (fillR_spec h3 hi).1⟩
      show i_made_2Fi_unit_1_b3 _ _ _ _ _ _ _ = _
      unfold i_made_2Fi_unit_1_b3
      rw [dlt hi, bsel_true, inner i L2 _ hi h3 (zmat hA hC), obind_eq, osum_inl]
      unfold i_made_2Fi_unit_1_k2
      rw [wsucc (by omega)]
      rfl)
    (fun L2 _ => by
      show i_made_2Fi_unit_1_b3 _ _ _ _ _ _ _ = _
      unfold i_made_2Fi_unit_1_b3
      rw [dnlt, bsel_false])).1
  unfold i_made_2Fi_unit_1
  replace e : loopM (i_made_2Fi_unit_1_s3 (A : Int) (C : Int) (A : Int) (C : Int) (List.replicate (A * C) (some 0))) (List.replicate (A * C) (some 0), 0) = some (.inl (tabM A C unitF)) := e
  rw [i_newMatrix_eq hA hC, obind3_eq, e]; rfl
theorem i_unit_eq {n : Nat} (hn : n ≤ 12) : i_unit (n : Int) = some ((n : Int), (n : Int), tabM n n unitF) := by
  unfold i_unit
  rw [i_made_2Fi_unit_1_eq hn hn]; rfl
def colP (A C k : Nat) (L : List F) : List F := (List.range A).map fun i => gm none L C i k
theorem colP_len {A C k : Nat} {L : List F} : (colP A C k L).length = A := by simp [colP]
theorem colP_at {A C k i : Nat} {L : List F} (hi : i < A) : (colP A C k L).getD i none = gm none L C i k := by
  simp [colP, List.getD, hi]
theorem i_Matrix_column_eq {A C k : Nat} {L : List F} (h : Mat A C L) (hk : k < C) : i_Matrix_column (A : Int) (C : Int) L (k : Int) = some (colP A C k L) := by
  have hA := h.A1
  obtain ⟨e, _⟩ := loop_run (step := i_Matrix_column_s1 (A : Int) (C : Int) L (k : Int)) (fun (i : Nat) (l : List F) => (l, (i : Int))) (fun i l => l ++ [gm none L C i k]) (fun l => l) (fun i l => l.length = i) (lo := 0) (n := A) (Nat.zero_le _) (s0 := []) rfl
    (fun i l _ hi h3 => by
      refine ⟨?_, by simp [h3]⟩
      show i_Matrix_column_b1 _ _ _ _ _ _ = _
      unfold i_Matrix_column_b1
      have ap : apok 4 l.length 1 = true := by simp [apok]; omega
      rw [dlt hi, bsel_true, i_Matrix_at_eq _ h hi hk, obind_eq, ap, need_true, wsucc (by omega)]
      rfl)
    (fun l _ => by
      show i_Matrix_column_b1 _ _ _ _ _ _ = _
      unfold i_Matrix_column_b1
      rw [dnlt, bsel_false])
  unfold i_Matrix_column
  replace e : loopM (i_Matrix_column_s1 (A : Int) (C : Int) L (k : Int)) ([], 0) = some (.inl (run (fun i l => l ++ [gm none L C i k]) 0 (A - 0) [])) := e
  rw [e, Nat.sub_zero, run_map]; rfl
def dotE (f g : Nat → F) (i : Nat) (y : F) : F := fop .add .f32 y (fop .mul .f32 (f i) (g i))
def dotN (f g : Nat → F) (n : Nat) : F := run (dotE f g) 0 n (some 0)
theorem zero_ok : FOk .f32 (some 0) := ⟨0, rfl, by decide, rfl⟩
theorem dotN_ok (f g : Nat → F) (n : Nat) : FOk .f32 (dotN f g n) := run_inv (fun _ y => FOk .f32 y) n 0 (some 0) zero_ok fun _ _ _ _ _ => fop_fok _ _ _
theorem dotN_congr {f g f' g' : Nat → F} {n : Nat} (h : ∀ i, i < n → f i = f' i ∧ g i = g' i) : dotN f g n = dotN f' g' n :=
  run_congr (fun _ _ => True) n 0 _ trivial fun i y _ hi _ => ⟨by unfold dotE; rw [(h i (by omega)).1, (h i (by omega)).2], trivial⟩
theorem i_dot_eq {l m : List F} (hl : l.length ≤ m.length) (hs : l.length ≤ 1000000) : i_dot l m = some (dotN (fun i => l.getD i none) (fun i => m.getD i none) l.length) := by
  obtain ⟨e, _⟩ := loop_run (step := i_dot_s1 l m) (fun (i : Nat) (y : F) => (y, (i : Int))) (dotE (fun i => l.getD i none) (fun i => m.getD i none)) (fun y => y) (fun _ _ => True) (lo := 0) (n := l.length) (Nat.zero_le _) (s0 := some 0) trivial
    (fun i y _ hi _ => by
      refine ⟨?_, trivial⟩
      show i_dot_b1 _ _ _ _ = _
      unfold i_dot_b1
      rw [dlt hi, bsel_true, at?_n none hi, obind_eq, at?_n none (by omega), obind_eq, i_mul_eq, obind_eq, olet_eq, wsucc (by omega)]
      rfl)
    (fun y _ => by
      show i_dot_b1 _ _ _ _ = _
      unfold i_dot_b1
      rw [dnlt, bsel_false])
  unfold i_dot
  replace e : loopM (i_dot_s1 l m) (some 0, 0) = some (.inl (run (dotE (fun i => l.getD i none) (fun i => m.getD i none)) 0 (l.length - 0) (some 0))) := e
  rw [e]; rfl
theorem getD_gm {A C : Nat} {L : List F} {q : Nat} : gm none L C (q / C) (q % C) = L.getD q none := by
  unfold gm
  rw [show q / C * C + q % C = q by rw [Nat.mul_comm]; exact Nat.div_add_mod q C]
theorem tdiv_n (q C : Nat) : (q : Int).tdiv (C : Int) = ((q / C : Nat) : Int) := by rw [Int.tdiv_eq_ediv_of_nonneg (by omega), Int.natCast_ediv]
theorem tmod_n (q C : Nat) : (q : Int).tmod (C : Int) = ((q % C : Nat) : Int) := by rw [Int.tmod_eq_emod_of_nonneg (by omega), Int.natCast_emod]
theorem dne0 {C : Nat} (h : 0 < C) : (!decide ((C : Int) = 0)) = true := by simp; omega
def rowP (C i : Nat) (L : List F) : List F := (L.take ((i + 1) * C)).drop (i * C)
theorem rowP_at {A C i k : Nat} {L : List F} (m : Mat A C L) (hi : i < A) (hk : k < C) : (rowP C i L).getD k none = gm none L C i k := by
  have h1 := idx_lt hi hk
  have h2 : i * C + k < (i + 1) * C := by rw [Nat.add_mul, Nat.one_mul]; omega
  unfold rowP gm
  simp [List.getD, List.getElem?_drop, List.getElem?_take, h2]
theorem rowP_len {A C i : Nat} {L : List F} (m : Mat A C L) (hi : i < A) : (rowP C i L).length = C := by
  have h1 : (i + 1) * C ≤ A * C := Nat.mul_le_mul_right C hi
  unfold rowP
  rw [List.length_drop, List.length_take, m.len, Nat.min_eq_left h1, Nat.add_mul, Nat.one_mul]; omega
theorem sub?_n {α : Type} {L : List α} {a b : Nat} (h1 : a ≤ b) (h2 : b ≤ L.length) : sub? L (a : Int) (b : Int) = some ((L.take b).drop a) := by
  unfold sub?
  rw [if_pos (by omega)]; rfl
theorem i_Matrix_row_eq {A C i : Nat} {L : List F} (r : Int) (m : Mat A C L) (hi : i < A) : i_Matrix_row r (C : Int) L (i : Int) = some (rowP C i L) := by
  have hA := m.A1
  have h1 : (i + 1) * C ≤ A * C := Nat.mul_le_mul_right C hi
  have h2 : A * C ≤ 144 := small_mul m.A1 m.C1
  have h3 : i * C ≤ (i + 1) * C := Nat.mul_le_mul_right C (by omega)
  unfold i_Matrix_row x_slices_Clone_float32_float32
  rw [wsucc (by omega), ← Int.natCast_mul, wn (by omega), olet_eq, olet_eq, ← Int.natCast_mul, wn (by omega), olet_eq, sub?_n h3 (by rw [m.len]; exact h1), obind_eq]
  have ap : apok 4 0 ((L.take ((i + 1) * C)).drop (i * C)).length = true := by
    have := rowP_len m hi
    unfold rowP at this
    have hC := m.C1
    simp only [apok, this]; simp; omega
  rw [ap, need_true, obind_eq, List.nil_append]; rfl
theorem fneg_ok {c : F} (h : FOk .f32 c) : FOk .f32 (fneg .f32 c) := by
  obtain ⟨b, hb⟩ := h
  exact ⟨_, FR.neg hb⟩
def mulE (B C : Nat) (L M : List F) (i k : Nat) : F := dotN (fun j => gm none L B i j) (fun j => gm none M C j k) B
theorem mulE_ok (B C : Nat) (L M : List F) (i k : Nat) : FOk .f32 (mulE B C L M i k) := dotN_ok _ _ _
theorem i_product_1_eq {A B C i k : Nat} {L M : List F} (r : Int) (m : Mat A B L) (n : Mat B C M) (hi : i < A) (hk : k < C) : i_product_1 (i : Int) (k : Int) r (B : Int) L (B : Int) (C : Int) M = some (mulE B C L M i k) := by
  have hB := m.C1
  unfold i_product_1
  rw [i_Matrix_row_eq r m hi, obind_eq, i_Matrix_column_eq n hk, obind_eq, i_dot_eq (by rw [rowP_len m hi, colP_len]; exact Nat.le_refl _) (by rw [rowP_len m hi]; omega), obind_eq, rowP_len m hi]
  congr 1
  exact dotN_congr fun j hj => ⟨rowP_at m hi hj, colP_at hj⟩
theorem i_made_2Fi_product_1_eq {A B C : Nat} {P M : List F} (mP : Mat A B P) (mM : Mat B C M) : i_made_2Fi_product_1 (A : Int) (C : Int) (A : Int) (B : Int) P (B : Int) (C : Int) M = some ((A : Int), (C : Int), tabM A C (mulE B C P M)) := by
  have hA := mP.A1
  have hC := mM.C1
  have inner : ∀ (i : Nat) (L L0 : List F), i < A → Mat A C L → Mat A C L0 → loopM (i_made_2Fi_product_1_s2 (C : Int) (A : Int) (B : Int) P (B : Int) (C : Int) M (A : Int) (C : Int) L0 (i : Int)) (L, 0) = some (.inl (fillR (mulE B C P M) C i L)) := by
    intro i L L0 hi hL hL0
    exact (loop_run (step := i_made_2Fi_product_1_s2 (C : Int) (A : Int) (B : Int) P (B : Int) (C : Int) M (A : Int) (C : Int) L0 (i : Int)) (fun (k : Nat) (L : List F) => (L, (k : Int))) (fun k L => sm L C i k (mulE B C P M i k)) (fun L => L) (fun _ L => Mat A C L) (lo := 0) (n := C) (Nat.zero_le _) (s0 := L) hL
      (fun k L2 _ hk h3 => by
        refine ⟨?_, h3.set _ _ _⟩
        show i_made_2Fi_product_1_b2 _ _ _ _ _ _ _ _ _ _ _ _ _ = _
        unfold i_made_2Fi_product_1_b2
        have l1 : decide ((sm L2 C i k (mulE B C P M i k)).length = L0.length) = true := by simp [h3.len, hL0.len]
        rw [dlt hk, bsel_true, i_product_1_eq _ mP mM hi hk, obind_eq, i_Matrix_set_02o_eq _ h3 hi hk, obind_eq, l1, need_true, wsucc (by omega)]
        rfl)
      (fun L2 _ => by
        show i_made_2Fi_product_1_b2 _ _ _ _ _ _ _ _ _ _ _ _ _ = _
        unfold i_made_2Fi_product_1_b2
        rw [dnlt, bsel_false])).1
  have e := (loop_run (step := i_made_2Fi_product_1_s3 (A : Int) (C : Int) (A : Int) (B : Int) P (B : Int) (C : Int) M (A : Int) (C : Int) (List.replicate (A * C) (some 0))) (fun (i : Nat) (L : List F) => (L, (i : Int))) (fillR (mulE B C P M) C) (fun L => L) (fun _ L => Mat A C L) (lo := 0) (n := A) (Nat.zero_le _) (s0 := List.replicate (A * C) (some 0)) (zmat hA hC)
    (fun i L2 _ hi h3 => by
      refine ⟨?_, (fillR_spec h3 hi).1⟩
      show i_made_2Fi_product_1_b3 _ _ _ _ _ _ _ _ _ _ _ _ _ = _
      unfold i_made_2Fi_product_1_b3
      rw [dlt hi, bsel_true, inner i L2 _ hi h3 (zmat hA hC), obind_eq, osum_inl]
      unfold i_made_2Fi_product_1_k2
      rw [wsucc (by omega)]
      rfl)
    (fun L2 _ => by
      show i_made_2Fi_product_1_b3 _ _ _ _ _ _ _ _ _ _ _ _ _ = _
      unfold i_made_2Fi_product_1_b3
      rw [dnlt, bsel_false])).1
  unfold i_made_2Fi_product_1
  replace e : loopM (i_made_2Fi_product_1_s3 (A : Int) (C : Int) (A : Int) (B : Int) P (B : Int) (C : Int) M (A : Int) (C : Int) (List.replicate (A * C) (some 0))) (List.replicate (A * C) (some 0), 0) = some (.inl (tabM A C (mulE B C P M))) := e
  rw [i_newMatrix_eq hA hC, obind3_eq, e]; rfl
def mulQ (A B C : Nat) (L M : List F) : Int × Int × Bool × List F := bif (L.all fin32 && M.all fin32) && (tabM A C (mulE B C L M)).all fin32 then ((A : Int), (C : Int), true, tabM A C (mulE B C L M)) else (0, 0, false, [])
theorem i_MulMatrices_eq {A B C : Nat} {L M : List F} (m : Mat A B L) (n : Mat B C M) (g : FOks L) (h : FOks M) (hA : 0 < A) (hB : 0 < B) (hC : 0 < C) : i_MulMatrices (A : Int) (B : Int) L (B : Int) (C : Int) M = some (mulQ A B C L M) := by
  unfold i_MulMatrices i_areFactors mulQ
  have mR : Mat A C (tabM A C (mulE B C L M)) := tabM_mat m.A1 n.C1
  have gR : FOks (tabM A C (mulE B C L M)) := tabM_oks m.A1 n.C1 (mulE_ok B C L M)
  rw [i_ValidMatrix_eq _ _ g m.le, mat_valid m hA hB, i_ValidMatrix_eq _ _ h n.le, mat_valid n hB hC]
  cases L.all fin32 with
  | false => rfl
  | true =>
    cases M.all fin32 with
    | false => rfl
    | true =>
      have e : decide ((B : Int) = (B : Int)) = true := by simp
      simp only [obind_eq, bsel_true, e, Bool.true_and]
      unfold i_product
      rw [i_made_2Fi_product_1_eq m n, obind3_eq, obind3_eq]
      unfold i_Matrix_valid_02o
      rw [i_ValidMatrix_eq _ _ gR mR.le, mat_valid mR hA hC]
      cases (tabM A C (mulE B C L M)).all fin32 with
      | false => simp [osum, obind, need, obind5, bsel]
      | true => simp [osum, obind, need, obind4, bsel]
def trE (n : Nat) (L : List F) (i : Nat) (y : F) : F := fop .add .f32 y (gm none L n i i)
def trN (n : Nat) (L : List F) : F := run (trE n L) 0 n (some 0)
theorem trN_ok (n : Nat) (L : List F) : FOk .f32 (trN n L) := run_inv (fun _ y => FOk .f32 y) n 0 (some 0) zero_ok fun _ _ _ _ _ => fop_fok _ _ _
def trQ (n : Nat) (L : List F) : F × Bool := bif L.all fin32 && fin32 (trN n L) then (trN n L, true) else (some 0, false)
theorem i_tr_loop {n : Nat} {L : List F} (m : Mat n n L) : loopM (i_Matrix_trace_s1 (n : Int) (n : Int) L) (some 0, 0) = some (.inl (trN n L)) := by
  have hn := m.A1
  exact (loop_run (step := i_Matrix_trace_s1 (n : Int) (n : Int) L) (fun (i : Nat) (y : F) => (y, (i : Int))) (trE n L) (fun y => y) (fun _ _ => True) (lo := 0) (n := n) (Nat.zero_le _) (s0 := some 0) trivial
    (fun i y _ hi _ => by
      refine ⟨?_, trivial⟩
      show i_Matrix_trace_b1 _ _ _ _ _ = _
      unfold i_Matrix_trace_b1
      rw [dlt hi, bsel_true, i_Matrix_at_eq _ m hi hi, obind_eq, olet_eq, wsucc (by omega)]
      rfl)
    (fun y _ => by
      show i_Matrix_trace_b1 _ _ _ _ _ = _
      unfold i_Matrix_trace_b1
      rw [dnlt, bsel_false])).1
theorem i_TraceOf_eq {n : Nat} {L : List F} (m : Mat n n L) (g : FOks L) (hn : 0 < n) : i_TraceOf (n : Int) (n : Int) L = some (trQ n L) := by
  unfold i_TraceOf trQ
  rw [i_isSquare_eq _ _ g m.le, mat_valid m hn hn]
  have e : decide ((n : Int) = (n : Int)) = true := by simp
  rw [e, Bool.and_true, obind_eq]
  cases L.all fin32 with
  | false => rfl
  | true =>
    unfold i_Matrix_trace
    rw [bsel_true, i_tr_loop m, obind_eq, osum_inl]
    unfold i_Matrix_trace_k1 i_finite
    rw [obind_eq, i_IsFinite_eq (trN_ok n L), obind_eq]
    cases fin32 (trN n L) <;> rfl
def sgAdd (n : Nat) (x : F) (M : List F) : List F := run (fun r M => sm M n r r (fop .add .f32 (gm none M n r r) x)) 0 n M
theorem sgAdd_mat {n : Nat} {x : F} {M : List F} (h : Mat n n M) : Mat n n (sgAdd n x M) := run_inv (fun _ M => Mat n n M) n 0 M h fun _ _ _ _ h => h.set _ _ _
theorem sgAdd_oks {n : Nat} {x : F} {M : List F} (h : FOks M) : FOks (sgAdd n x M) := run_inv (fun _ M => FOks M) n 0 M h fun _ _ _ _ h => h.set (fop_fok _ _ _)
abbrev SG := List F × List F
def sgX (i : Nat) (t : F) : F := bif decide (0 < i) then fop .quo .f32 (fneg .f32 t) (fint .f32 ((i + 1 : Nat) : Int)) else fneg .f32 t
def sgTr (i : Nat) (M out : List F) (q : F × Bool) : SG ⊕ (Bool × List F) := bif q.2 then .inl (M, out ++ [sgX i q.1]) else .inr (false, [])
def sgMul (n i : Nat) (out : List F) (q : Int × Int × Bool × List F) : SG ⊕ (Bool × List F) := bif q.2.2.1 then sgTr i q.2.2.2 out (trQ n q.2.2.2) else .inr (false, [])
def sgStep (n : Nat) (L : List F) (i : Nat) (s : SG) : SG ⊕ (Bool × List F) := bif decide (0 < i) then sgMul n i s.2 (mulQ n n n L (sgAdd n (s.2.getD (i - 1) none) s.1)) else sgTr i s.1 s.2 (trQ n s.1)
structure SGInv (n i : Nat) (s : SG) : Prop where
  m : Mat n n s.1
  g : FOks s.1
  h : FOks s.2
  len : s.2.length = i
theorem trQ_ok {n : Nat} {L : List F} : FOk .f32 (trQ n L).1 := by
  unfold trQ
  cases L.all fin32 && fin32 (trN n L)
  · exact zero_ok
  · exact trN_ok n L
theorem sgX_ok {i : Nat} {t : F} (h : FOk .f32 t) : FOk .f32 (sgX i t) := by
  unfold sgX
  cases decide (0 < i)
  · exact fneg_ok h
  · exact fop_fok _ _ _
theorem sgTr_inv {n i : Nat} {M out : List F} {s' : SG} (m : Mat n n M) (g : FOks M) (h : FOks out) (hl : out.length = i) (e : sgTr i M out (trQ n M) = .inl s') : SGInv n (i + 1) s' := by
  unfold sgTr at e
  cases hq : (trQ n M).2 with
  | false => rw [hq] at e; cases e
  | true =>
    rw [hq, cond_true] at e; cases e
    refine ⟨m, g, fun c hc => ?_, by simp [hl]⟩
    rcases List.mem_append.1 hc with hc | hc
    · exact h c hc
    · rw [List.mem_singleton.1 hc]; exact sgX_ok trQ_ok
theorem mulQ_mat {A B C : Nat} {L M : List F} (hA : A ≤ 12) (hC : C ≤ 12) (h : (mulQ A B C L M).2.2.1 = true) : (mulQ A B C L M) = ((A : Int), (C : Int), true, tabM A C (mulE B C L M)) := by
  unfold mulQ at *
  cases hb : (L.all fin32 && M.all fin32) && (tabM A C (mulE B C L M)).all fin32 with
  | false => rw [hb] at h; cases h
  | true => rfl
theorem sgStep_inv {n i : Nat} {L : List F} {s s' : SG} (h : SGInv n i s) (e : sgStep n L i s = .inl s') : SGInv n (i + 1) s' := by
  unfold sgStep at e
  cases hi : decide (0 < i) with
  | false => rw [hi, cond_false] at e; exact sgTr_inv h.m h.g h.h h.len e
  | true =>
    rw [hi, cond_true] at e
    unfold sgMul at e
    cases hq : (mulQ n n n L (sgAdd n (s.2.getD (i - 1) none) s.1)).2.2.1 with
    | false => rw [hq] at e; cases e
    | true =>
      rw [hq, cond_true, mulQ_mat h.m.A1 h.m.A1 hq] at e
      exact sgTr_inv (tabM_mat h.m.A1 h.m.A1) (tabM_oks h.m.A1 h.m.A1 (mulE_ok _ _ _ _)) h.h h.len e
def sgNext {ρ : Type} (n i : Nat) : SG ⊕ ρ → LR (List F × List F × Int × Int × Int) (List F) ρ
  | .inl s => .next (s.1, s.2, (n : Int), (n : Int), ((i + 1 + 1 : Nat) : Int))
  | .inr r => .ret r
theorem gt1 (i : Nat) : decide ((1 : Int) < ((i + 1 : Nat) : Int)) = decide (0 < i) := by simp; omega
theorem eq1 (i : Nat) : decide (((i + 1 : Nat) : Int) = 1) = !decide (0 < i) := by
  cases i with
  | zero => rfl
  | succ i => simp; omega
theorem i_SignsOf_tr {n i : Nat} {M out : List F} (m : Mat n n M) (g : FOks M) (hn : 0 < n) (hl : out.length = i) (hi : i < n) : i_SignsOf_k5 out ((i + 1 : Nat) : Int) M (n : Int) (n : Int) = some (sgNext n i (sgTr i M out (trQ n M))) := by
  have h12 := m.A1
  unfold i_SignsOf_k5
  rw [i_TraceOf_eq m g hn]
  generalize trQ n M = q
  obtain ⟨t, b⟩ := q
  have ap : apok 4 out.length 1 = true := by simp [apok, hl]; omega
  rw [obind2_eq]
  cases b with
  | false => rfl
  | true =>
    unfold i_SignsOf_k6 sgTr sgX
    rw [bsel_true, eq1, ap, wsucc (by omega)]
    cases decide (0 < i) <;> rfl
theorem i_SignsOf_add {n i : Nat} {M out : List F} (m : Mat n n M) (hl : out.length = i) (h0 : 0 < i) (hi : i < n) : loopM (i_SignsOf_s4 (n : Int) M out (n : Int) (n : Int) ((i + 1 : Nat) : Int)) (M, 0) = some (.inl (sgAdd n (out.getD (i - 1) none) M)) := by
  have h12 := m.A1
  have hw : IntKind.i64.wrap (((i + 1 : Nat) : Int) - 2) = ((i - 1 : Nat) : Int) := by rw [wrap_i64 (by omega) (by omega)]; omega
  have key : ∀ r4 : List F, Mat n n r4 → loopM (i_SignsOf_s4 (n : Int) r4 out (n : Int) (n : Int) ((i + 1 : Nat) : Int)) (M, 0) = some (.inl (sgAdd n (out.getD (i - 1) none) M)) := by
    intro r4 m4
    exact (loop_run (step := i_SignsOf_s4 (n : Int) r4 out (n : Int) (n : Int) ((i + 1 : Nat) : Int)) (fun (r : Nat) (M : List F) => (M, (r : Int))) (fun r M => sm M n r r (fop .add .f32 (gm none M n r r) (out.getD (i - 1) none))) (fun M => M) (fun _ M => Mat n n M) (lo := 0) (n := n) (Nat.zero_le _) (s0 := M) m
      (fun r M _ hr h => by
        refine ⟨?_, h.set _ _ _⟩
        show i_SignsOf_b4 _ _ _ _ _ _ _ _ = _
        unfold i_SignsOf_b4
        have l1 : decide ((sm M n r r (fop .add .f32 (gm none M n r r) (out.getD (i - 1) none))).length = r4.length) = true := by simp [h.len, m4.len]
        rw [dlt hr, bsel_true, i_Matrix_at_eq _ h hr hr, obind_eq, hw, olet_eq, at?_n none (by omega), obind_eq, olet_eq, i_Matrix_set_02o_eq _ h hr hr, obind_eq, l1, need_true, wsucc (by omega)]
        rfl)
      (fun M _ => by
        show i_SignsOf_b4 _ _ _ _ _ _ _ _ = _
        unfold i_SignsOf_b4
        rw [dnlt, bsel_false])).1
  exact key M m
theorem i_SignsOf_step {n i : Nat} {L : List F} {s : SG} (mL : Mat n n L) (gL : FOks L) (h : SGInv n i s) (hi : i < n) : i_SignsOf_b7 (n : Int) (n : Int) L s.1 s.2 (n : Int) (n : Int) ((i + 1 : Nat) : Int) = some (sgNext n i (sgStep n L i s)) := by
  unfold i_SignsOf_b7 sgStep
  rw [dle (show i + 1 ≤ n by omega), bsel_true, gt1]
  cases h0 : decide (0 < i) with
  | false => rw [bsel_false, cond_false]; exact i_SignsOf_tr h.m h.g (by omega) h.len hi
  | true =>
    have h0' : 0 < i := of_decide_eq_true h0
    have mA := sgAdd_mat (x := s.2.getD (i - 1) none) h.m
    have gA := sgAdd_oks (n := n) (x := s.2.getD (i - 1) none) h.g
    rw [bsel_true, cond_true, i_SignsOf_add h.m h.len h0' hi, obind_eq, osum_inl]
    unfold i_SignsOf_k4 sgMul
    rw [i_MulMatrices_eq mL mA gL gA (by omega) (by omega) (by omega)]
    cases hq : (mulQ n n n L (sgAdd n (s.2.getD (i - 1) none) s.1)).2.2.1 with
    | false =>
      generalize mulQ n n n L (sgAdd n (s.2.getD (i - 1) none) s.1) = q at hq
      obtain ⟨x, y, b, R⟩ := q
      cases hq
      rfl
    | true =>
      rw [mulQ_mat h.m.A1 h.m.A1 hq, obind4_eq, bsel_true, cond_true]
      exact i_SignsOf_tr (tabM_mat h.m.A1 h.m.A1) (tabM_oks h.m.A1 h.m.A1 (mulE_ok _ _ _ _)) (by omega) h.len hi
abbrev gI (l : List Int) (i : Nat) : Int := l.getD i 0
structure SpIn (S : Nat) (a1 a2 : List Int) : Prop where
  S1 : 1 ≤ S
  S2 : S ≤ 32
  l1 : a1.length = S + 1
  l2 : a2.length ≤ 512
  z : gI a1 0 = 0
  e : gI a1 S = (a2.length : Int)
structure SpGood (S : Nat) (a1 a2 : List Int) : Prop where
  s : ∀ i, i < S → gI a1 i ≤ gI a1 (i + 1)
  c : ∀ k, k < a2.length → 0 ≤ gI a2 k ∧ gI a2 k ≤ (S : Int) - 1
  o : ∀ i, i < S → ∀ k : Nat, gI a1 i < (k : Int) → (k : Int) < gI a1 (i + 1) → gI a2 (k - 1) < gI a2 k
theorem SpGood.mono {S : Nat} {a1 a2 : List Int} (h : SpGood S a1 a2) : ∀ (d i : Nat), i + d ≤ S → gI a1 i ≤ gI a1 (i + d)
  | 0, i, _ => Int.le_refl _
  | d + 1, i, hd => Int.le_trans (h.mono d i (by omega)) (h.s (i + d) (by omega))
theorem SpGood.lo {S : Nat} {a1 a2 : List Int} (h : SpGood S a1 a2) (i0 : SpIn S a1 a2) {i : Nat} (hi : i ≤ S) : 0 ≤ gI a1 i ∧ gI a1 i ≤ (a2.length : Int) := by
  have h1 := h.mono i 0 (by omega)
  have h2 := h.mono (S - i) i (by omega)
  rw [Nat.zero_add, i0.z] at h1
  rw [show i + (S - i) = S by omega, i0.e] at h2
  exact ⟨h1, h2⟩
def dotL (l m : List F) : F := dotN (fun i => l.getD i none) (fun i => m.getD i none) l.length
theorem dotL_ok (l m : List F) : FOk .f32 (dotL l m) := dotN_ok _ _ _
theorem i_dotL_eq {l m : List F} (hl : l.length ≤ m.length) (hs : l.length ≤ 1000000) : i_dot l m = some (dotL l m) := i_dot_eq hl hs
def normL (r : List F) : F := rootN (dotL r r)
theorem i_norm_eq {r : List F} (hs : r.length ≤ 1000000) : i_norm r = some (normL r) := by
  unfold i_norm
  rw [i_dotL_eq (Nat.le_refl _) hs, obind_eq, i_RootNumber_eq (dotL_ok _ _), obind_eq]; rfl
def zipW (f : F → F → F) (n : Nat) (l m : List F) : List F := (List.range n).map fun i => f (l.getD i none) (m.getD i none)
def fms (t x y : F) : F := fop .sub .f32 x (fop .mul .f32 t y)
structure SpOk (S : Nat) (a1 a2 : List Int) (a3 : List F) : Prop where
  i : SpIn S a1 a2
  g : SpGood S a1 a2
  l : a3.length = a2.length
theorem SpOk.row {S : Nat} {a1 a2 : List Int} {a3 : List F} (h : SpOk S a1 a2 a3) {i : Nat} (hi : i < S) : 0 ≤ gI a1 i ∧ gI a1 i ≤ gI a1 (i + 1) ∧ gI a1 (i + 1) ≤ (a2.length : Int) :=
  ⟨(h.g.lo h.i (by omega)).1, h.g.s i hi, (h.g.lo h.i (i := i + 1) (by omega)).2⟩
abbrev GrS := List F × List F × List F × F
def gR (S : Nat) (q : List F) (t : F) (s : GrS) : List F := zipW (fms t) S s.2.1 q
theorem i_areFinite_two {a b : F} (ha : FOk .f32 a) (hb : FOk .f32 b) : i_areFinite ([a, b] : List F) = some (fin32 a && fin32 b) := by
  rw [i_areFinite_eq (fun c hc => by
    rcases List.mem_cons.1 hc with e | hc
    · rw [e]; exact ha
    · rw [List.mem_singleton.1 hc]; exact hb) (by simp)]
  simp
def loK (a1 : List Int) (i : Nat) : Nat := (gI a1 i).toNat
def laK (a1 : List Int) (i : Nat) : Nat := (gI a1 (i + 1)).toNat - 1
structure Root (S : Nat) (a1 a2 : List Int) (a3 : List F) : Prop where
  ok : SpOk S a1 a2 a3
  low : ∀ i, i < S → gI a1 i ≤ gI a1 (i + 1) - 1 ∧ gI a2 (laK a1 i) = (i : Int)
theorem Root.at {S : Nat} {a1 a2 : List Int} {a3 : List F} (h : Root S a1 a2 a3) {i : Nat} (hi : i < S) : loK a1 i ≤ laK a1 i ∧ laK a1 i < a2.length ∧ ((laK a1 i : Nat) : Int) = gI a1 (i + 1) - 1 ∧ ((loK a1 i : Nat) : Int) = gI a1 i := by
  obtain ⟨r1, r2, r3⟩ := h.ok.row hi
  obtain ⟨q1, _⟩ := h.low i hi
  unfold loK laK
  omega
def flipM (n : Nat) (P : List F) : List F := tabM n n (fun i k => gm none P n k i)
theorem flipM_mat {n : Nat} {P : List F} (hn : n ≤ 12) : Mat n n (flipM n P) := tabM_mat hn hn
theorem flipM_gm {n : Nat} {P : List F} (hn : n ≤ 12) {i k : Nat} (hi : i < n) (hk : k < n) : gm none (flipM n P) n i k = gm none P n k i := tabM_gm hn hn hi hk
theorem i_made_2Fi_Matrix_flip_1_eq {n : Nat} {P : List F} (m : Mat n n P) : i_made_2Fi_Matrix_flip_1 (n : Int) (n : Int) (n : Int) (n : Int) P = some ((n : Int), (n : Int), flipM n P) := by
  have hn := m.A1
  have inner : ∀ (i : Nat) (L L0 : List F), i < n → Mat n n L → Mat n n L0 → loopM (i_made_2Fi_Matrix_flip_1_s2 (n : Int) (n : Int) (n : Int) P (n : Int) (n : Int) L0 (i : Int)) (L, 0) = some (.inl (fillR (fun i k => gm none P n k i) n i L)) := by
    intro i L L0 hi hL hL0
    exact (loop_run (step := i_made_2Fi_Matrix_flip_1_s2 (n : Int) (n : Int) (n : Int) P (n : Int) (n : Int) L0 (i : Int)) (fun (k : Nat) (L : List F) => (L, (k : Int))) (fun k L => sm L n i k (gm none P n k i)) (fun L => L) (fun _ L => Mat n n L) (lo := 0) (n := n) (Nat.zero_le _) (s0 := L) hL
      (fun k L2 _ hk h3 => by
        refine ⟨?_, h3.set _ _ _⟩
        show i_made_2Fi_Matrix_flip_1_b2 _ _ _ _ _ _ _ _ _ _ = _
        unfold i_made_2Fi_Matrix_flip_1_b2 i_Matrix_flip_1
        have l1 : decide ((sm L2 n i k (gm none P n k i)).length = L0.length) = true := by simp [h3.len, hL0.len]
        rw [dlt hk, bsel_true, i_Matrix_at_eq _ m hk hi, obind_eq, obind_eq, i_Matrix_set_02o_eq _ h3 hi hk, obind_eq, l1, need_true, wsucc (by omega)]
        rfl)
      (fun L2 _ => by
        show i_made_2Fi_Matrix_flip_1_b2 _ _ _ _ _ _ _ _ _ _ = _
        unfold i_made_2Fi_Matrix_flip_1_b2
        rw [dnlt, bsel_false])).1
  have e := (loop_run (step := i_made_2Fi_Matrix_flip_1_s3 (n : Int) (n : Int) (n : Int) (n : Int) P (n : Int) (n : Int) (List.replicate (n * n) (some 0))) (fun (i : Nat) (L : List F) => (L, (i : Int))) (fillR (fun i k => gm none P n k i) n) (fun L => L) (fun _ L => Mat n n L) (lo := 0) (n := n) (Nat.zero_le _) (s0 := List.replicate (n * n) (some 0)) (zmat hn hn)
    (fun i L2 _ hi h3 => by
      refine ⟨?_, (fillR_spec h3 hi).1⟩
      show i_made_2Fi_Matrix_flip_1_b3 _ _ _ _ _ _ _ _ _ _ = _
      unfold i_made_2Fi_Matrix_flip_1_b3
      rw [dlt hi, bsel_true, inner i L2 _ hi h3 (zmat hn hn), obind_eq, osum_inl]
      unfold i_made_2Fi_Matrix_flip_1_k2
      rw [wsucc (by omega)]
      rfl)
    (fun L2 _ => by
      show i_made_2Fi_Matrix_flip_1_b3 _ _ _ _ _ _ _ _ _ _ = _
      unfold i_made_2Fi_Matrix_flip_1_b3
      rw [dnlt, bsel_false])).1
  unfold i_made_2Fi_Matrix_flip_1
  replace e : loopM (i_made_2Fi_Matrix_flip_1_s3 (n : Int) (n : Int) (n : Int) (n : Int) P (n : Int) (n : Int) (List.replicate (n * n) (some 0))) (List.replicate (n * n) (some 0), 0) = some (.inl (flipM n P)) := e
  rw [i_newMatrix_eq hn hn, obind3_eq, e]; rfl
theorem i_Matrix_flip_eq {n : Nat} {P : List F} (m : Mat n n P) : i_Matrix_flip (n : Int) (n : Int) P = some ((n : Int), (n : Int), flipM n P) := by
  unfold i_Matrix_flip
  rw [i_made_2Fi_Matrix_flip_1_eq m, obind3_eq]
def vget (v : List F) (x : Int) : F := v.getD x.toNat none
def Names (n : Nat) (L : List Int) : Prop := ∀ x ∈ L, 0 ≤ x ∧ x < (n : Int)
theorem Names.at {n : Nat} {L : List Int} (h : Names n L) {j : Nat} (hj : j < L.length) : 0 ≤ L.getD j 0 ∧ L.getD j 0 < (n : Int) := by
  rw [List.getD_eq_getElem?_getD, List.getElem?_eq_getElem hj]
  exact h _ (List.getElem_mem hj)
theorem Names.set {n : Nat} {L : List Int} (h : Names n L) {j : Nat} {x : Int} (hx : 0 ≤ x ∧ x < (n : Int)) : Names n (L.set j x) := fun y hy => (List.mem_or_eq_of_mem_set hy).elim (fun k => h y k) (fun k => by rw [k]; exact hx)
def NN (c : F) : Prop := ∀ b, c = some b → wneg Ieee.single b = false
theorem add_nn {x y : F} (hx : FOk .f32 x) (hy : FOk .f32 y) (nx : NN x) (ny : NN y) : NN (fop .add .f32 x y) := by
  cases x with
  | none => intro b h; cases h
  | some a =>
    cases y with
    | none => intro b h; cases h
    | some c =>
      intro b h
      have h : ((Ieee.single.read a).sum (Ieee.single.read c)).map Ieee.single.write = some b := h
      obtain ⟨d, hd, rfl⟩ := Option.map_eq_some_iff.1 h
      have na := read_neg_of Ieee.single (fmt_ok .f32) hx.some.2
      rw [nx a rfl] at na
      have nc := read_neg_of Ieee.single (fmt_ok .f32) hy.some.2
      rw [ny c rfl] at nc
      have hn : d.isNaN = false ∧ d.neg = false := by
        cases hr : Ieee.single.read a with
        | nan s t => rw [hr] at hd; cases hd
        | infinity s =>
          have hs : s = false := by rw [hr] at na; exact na
          subst hs
          cases hc : Ieee.single.read c with
          | nan s t => rw [hr, hc] at hd; cases hd
          | infinity t =>
            have ht : t = false := by rw [hc] at nc; exact nc
            subst ht
            rw [hr, hc] at hd; cases hd; exact ⟨rfl, rfl⟩
          | number t n j => rw [hr, hc] at hd; cases hd; exact ⟨rfl, rfl⟩
        | number s m i =>
          have hs : s = false := by rw [hr] at na; exact na
          subst hs
          cases hc : Ieee.single.read c with
          | nan s t => rw [hr, hc] at hd; cases hd
          | infinity t =>
            have ht : t = false := by rw [hc] at nc; exact nc
            subst ht
            rw [hr, hc] at hd; cases hd; exact ⟨rfl, rfl⟩
          | number t n j =>
            have ht : t = false := by rw [hc] at nc; exact nc
            subst ht
            rw [hr, hc] at hd; cases hd
            refine ⟨rfl, ?_⟩
            show (if Ieee.signed false m (i - min i j).toNat + Ieee.signed false n (j - min i j).toNat = 0 then (false && false) else decide (Ieee.signed false m (i - min i j).toNat + Ieee.signed false n (j - min i j).toNat < 0)) = false
            have h1 : 0 ≤ Ieee.signed false m (i - min i j).toNat := Int.natCast_nonneg _
            have h2 : 0 ≤ Ieee.signed false n (j - min i j).toNat := Int.natCast_nonneg _
            split
            · rfl
            · exact decide_eq_false (by omega)
      rw [(write_neg Ieee.single hn.1).1, hn.2]
theorem vget_mem {v : List F} {x : Int} (h0 : 0 ≤ x) (h1 : x < (v.length : Int)) : vget v x ∈ v := by
  unfold vget
  rw [List.getD_eq_getElem?_getD, List.getElem?_eq_getElem (by omega)]
  exact List.getElem_mem _
def wkey (c : F) : Nat := c.getD 0
theorem add_some {x y : F} (hx : FOk .f32 x) (hy : FOk .f32 y) (nx : NN x) (ny : NN y) (h1 : x ≠ none) (h2 : y ≠ none) : fop .add .f32 x y ≠ none := by
  cases x with
  | none => exact absurd rfl h1
  | some a =>
    cases y with
    | none => exact absurd rfl h2
    | some c =>
      show ((Ieee.single.read a).sum (Ieee.single.read c)).map Ieee.single.write ≠ none
      have na := read_neg_of Ieee.single (fmt_ok .f32) hx.some.2
      rw [nx a rfl] at na
      have nc := read_neg_of Ieee.single (fmt_ok .f32) hy.some.2
      rw [ny c rfl] at nc
      have ma : (Ieee.single.read a).isNaN = false := hx.some.2
      have mc : (Ieee.single.read c).isNaN = false := hy.some.2
      cases hr : Ieee.single.read a with
      | nan s t => rw [hr] at ma; cases ma
      | infinity s =>
        have hs : s = false := by rw [hr] at na; exact na
        subst hs
        cases hc : Ieee.single.read c with
        | nan s t => rw [hc] at mc; cases mc
        | infinity t =>
          have ht : t = false := by rw [hc] at nc; exact nc
          subst ht
          simp [Ieee.Datum.sum]
        | number t n j => simp [Ieee.Datum.sum]
      | number s m i =>
        cases hc : Ieee.single.read c with
        | nan s t => rw [hc] at mc; cases mc
        | infinity t => simp [Ieee.Datum.sum]
        | number t n j => simp [Ieee.Datum.sum]
def sqW (v : List F) (x : Int) : Nat := wkey (vget v x)
def SqOk (v : List F) : Prop := ∀ c ∈ v, ∃ b, c = some b ∧ b ≤ 2139095040
theorem SqOk.at {v : List F} (h : SqOk v) {x : Int} (h0 : 0 ≤ x) (h1 : x < (v.length : Int)) : vget v x = some (sqW v x) ∧ sqW v x ≤ 2139095040 := by
  obtain ⟨b, e, hb⟩ := h _ (vget_mem h0 h1)
  unfold sqW
  rw [e]; exact ⟨rfl, hb⟩
theorem fabs32_nn {c : F} : NN (fabs32 c) := fun b h => by
  cases c with
  | none => cases h
  | some a =>
    have h : some (a % 2147483648) = some b := h
    cases h
    unfold wneg
    rw [show Ieee.single.signWeight = 2147483648 from rfl, Nat.div_eq_of_lt (Nat.mod_lt _ (by decide))]; rfl
theorem fabs32_some {c : F} (h : fin32 c = true) : fabs32 c ≠ none := by
  cases c with
  | none => cases h
  | some a => simp [fabs32]
theorem max_flt {a b : Nat} (ha : FOk .f32 (some a)) (hb : FOk .f32 (some b)) (na : NN (some a)) : fmaxN .f32 (some a) (some b) = some (bif flt .f32 (some a) (some b) then some b else some a) := by
  have nn := read_neg_of Ieee.single (fmt_ok .f32) ha.some.2
  rw [na a rfl] at nn
  have ho : Ieee.single.order a b ≠ none := by
    have ma : (Ieee.single.read a).isNaN = false := ha.some.2
    have mb : (Ieee.single.read b).isNaN = false := hb.some.2
    unfold Ieee.Format.order
    cases hr : Ieee.single.read a with
    | nan s t => rw [hr] at ma; cases ma
    | infinity s =>
      cases hs : Ieee.single.read b with
      | nan s t => rw [hs] at mb; cases mb
      | infinity t => simp [Ieee.Datum.order]
      | number t n j => simp [Ieee.Datum.order]
    | number s m i =>
      cases hs : Ieee.single.read b with
      | nan s t => rw [hs] at mb; cases mb
      | infinity t => simp [Ieee.Datum.order]
      | number t n j => simp [Ieee.Datum.order]
  have hd : FloatKind.f32.decode a = Ieee.single.read a := rfl
  have hf : flt .f32 (some a) (some b) = (Ieee.single.order a b == some .lt) := rfl
  have hm : fmaxN .f32 (some a) (some b) = (match Ieee.single.order a b with
    | some .lt => some (some b)
    | some .gt => some (some a)
    | some .eq => some (some (if (FloatKind.f32.decode a).neg then b else a))
    | none => none) := rfl
  rw [hm, hf, hd, nn]
  cases hq : Ieee.single.order a b with
  | none => exact absurd hq ho
  | some r => cases r <;> rfl
def NNs (c : F) : Prop := NN c ∧ FOk .f32 c ∧ c ≠ none
theorem max_nns {x y : F} (hx : NNs x) (hy : NNs y) : fmaxN .f32 x y = some (bif flt .f32 x y then y else x) := by
  obtain ⟨h1, h2, h3⟩ := hx
  obtain ⟨_, k2, k3⟩ := hy
  cases x with
  | none => exact absurd rfl h3
  | some a =>
    cases y with
    | none => exact absurd rfl k3
    | some b => exact max_flt h2 k2 h1
def rowS (X : List F) (C i : Nat) : F := run (fun k s => fop .add .f32 s (fabs32 (gm none X C i k))) 0 C (some 0)
theorem zero_nns : NNs (some 0) := ⟨fun b h => by cases h; rfl, zero_ok, by simp⟩
theorem rowS_nns {A C i : Nat} {X : List F} (m : Mat A C X) (g : FOks X) (f : X.all fin32 = true) (hi : i < A) : NNs (rowS X C i) := by
  have := run_inv (f := fun k s => fop .add .f32 s (fabs32 (gm none X C i k))) (fun _ s => NNs s) C 0 (some 0) zero_nns fun k s _ hk h =>
    ⟨add_nn h.2.1 (fabs32_ok (g.getD _)) h.1 fabs32_nn, fop_fok _ _ _, add_some h.2.1 (fabs32_ok (g.getD _)) h.1 fabs32_nn h.2.2 (fabs32_some (fin_all.1 f _ (m.lt hi (by omega))))⟩
  exact this
def normR (X : List F) (A C : Nat) : F := run (fun i s => bif flt .f32 s (rowS X C i) then rowS X C i else s) 0 A (some 0)
theorem normR_step {A C i : Nat} {X : List F} (m : Mat A C X) (g : FOks X) (f : X.all fin32 = true) (hi : i < A) {s : F} (h : NNs s) : NNs (bif flt .f32 s (rowS X C i) then rowS X C i else s) := by
  cases flt .f32 s (rowS X C i) with
  | true => exact rowS_nns m g f hi
  | false => exact h
theorem i_rowNorm_row {A C i : Nat} {X : List F} (m : Mat A C X) (g : FOks X) (hi : i < A) : loopM (i_Matrix_rowNorm_s2 (A : Int) (C : Int) X (i : Int)) (some 0, 0) = some (.inl (rowS X C i)) := by
  have hC := m.C1
  exact (loop_run (step := i_Matrix_rowNorm_s2 (A : Int) (C : Int) X (i : Int)) (fun (k : Nat) (s : F) => (s, (k : Int))) (fun k s => fop .add .f32 s (fabs32 (gm none X C i k))) (fun s => s) (fun _ _ => True) (lo := 0) (n := C) (Nat.zero_le _) (s0 := some 0) trivial
    (fun k s _ hk _ => by
      refine ⟨?_, trivial⟩
      show i_Matrix_rowNorm_b2 _ _ _ _ _ _ = _
      unfold i_Matrix_rowNorm_b2
      rw [dlt hk, bsel_true, i_Matrix_at_eq _ m hi hk, obind_eq, i_absolute_eq (g.getD _), obind_eq, olet_eq, wsucc (by omega)]
      rfl)
    (fun s _ => by
      show i_Matrix_rowNorm_b2 _ _ _ _ _ _ = _
      unfold i_Matrix_rowNorm_b2
      rw [dnlt, bsel_false])).1
theorem i_rowNorm_eq {A C : Nat} {X : List F} (m : Mat A C X) (g : FOks X) (f : X.all fin32 = true) : i_Matrix_rowNorm (A : Int) (C : Int) X = some (normR X A C) := by
  have hA := m.A1
  have e := (loop_run (step := i_Matrix_rowNorm_s3 (A : Int) (C : Int) X) (fun (i : Nat) (s : F) => (s, (i : Int))) (fun i s => bif flt .f32 s (rowS X C i) then rowS X C i else s) (fun s => s) (fun _ s => NNs s) (lo := 0) (n := A) (Nat.zero_le _) (s0 := some 0) zero_nns
    (fun i s _ hi h => by
      refine ⟨?_, normR_step m g f hi h⟩
      show i_Matrix_rowNorm_b3 _ _ _ _ _ = _
      unfold i_Matrix_rowNorm_b3
      rw [dlt hi, bsel_true, i_rowNorm_row m g hi, obind_eq, osum_inl]
      unfold i_Matrix_rowNorm_k2
      rw [max_nns h (rowS_nns m g f hi), obind_eq, wsucc (by omega)]
      rfl)
    (fun s _ => by
      show i_Matrix_rowNorm_b3 _ _ _ _ _ = _
      unfold i_Matrix_rowNorm_b3
      rw [dnlt, bsel_false])).1
  unfold i_Matrix_rowNorm
  replace e : loopM (i_Matrix_rowNorm_s3 (A : Int) (C : Int) X) (some 0, 0) = some (.inl (normR X A C)) := e
  rw [e]; rfl
theorem wi64 {n : Int} (h0 : -9000000000000000000 ≤ n) (h1 : n ≤ 9000000000000000000) : IntKind.i64.wrap n = n := wrap_i64 (by omega) (by omega)
def hexD (d : Nat) : Int := if d < 10 then 48 + (d : Int) else 87 + (d : Int)
theorem u64_wrap {n : Int} (h0 : 0 ≤ n) (h1 : n < 18446744073709551616) : IntKind.u64.wrap n = n := by
  simp only [IntKind.wrap, IntKind.bits, IntKind.signed]
  simp
  omega
def hxb (d : Nat) : UInt8 := UInt8.ofNat (hexD d).toNat
def hU : Nat → Nat → List UInt8
  | 0, _ => []
  | k + 1, n => hxb (n / 16 ^ k % 16) :: hU k n
def Byt (l : List Int) : Prop := ∀ z ∈ l, 0 ≤ z ∧ z < 256
theorem byt_of {l : List Int} (h : ∀ z ∈ l, (Lit.int .u8 z).wf = true) : Byt l := by
  intro z hz
  have := h z hz
  have e0 : IntKind.u8.min = 0 := by decide
  have e1 : IntKind.u8.max = 255 := by decide
  simp only [Lit.wf, e0, e1, Bool.and_eq_true, decide_eq_true_eq] at this
  constructor <;> omega
theorem iand255 (x : Int) : ∃ d : Nat, d < 256 ∧ iand .u64 x 255 = (d : Int) := by
  have hle : (BitVec.ofInt 64 x &&& BitVec.ofInt 64 255).toNat ≤ 255 := by
    rw [BitVec.toNat_and, show (BitVec.ofInt 64 255).toNat = 255 from by decide]
    exact Nat.and_le_right
  refine ⟨_, Nat.lt_of_le_of_lt hle (by decide), ?_⟩
  show IntKind.u64.wrap (((BitVec.ofInt 64 x &&& BitVec.ofInt 64 255).toNat : Nat) : Int) = _
  exact u64_wrap (by omega) (by omega)
theorem src_k1 {a : List Int} {t v : Nat} {s : Int} (ht : t ≤ 1000000) (hv : v < 256) : ∃ (w : Nat) (s' : Int), w < 256 ∧ s_l00Src_next_0p0_C0_k1 a (t : Int) s (v : Int) = some ((w : Int), ((t + 1 : Nat) : Int), s') := by
  unfold s_l00Src_next_0p0_C0_k1
  simp only [olet_eq]
  rw [wsucc (by omega)]
  generalize IntKind.u64.wrap (IntKind.u64.wrap (IntKind.u64.wrap (s * 6364136223846793005) + IntKind.u64.wrap (v : Int)) + 1442695040888963407) = X
  by_cases h : t + 1 ≤ a.length
  · rw [decide_eq_true (by omega), bsel_true]; exact ⟨v, _, hv, rfl⟩
  · obtain ⟨d, hd, e⟩ := iand255 (ishr .u64 X 40)
    rw [decide_eq_false (by omega), bsel_false, show decide ((0 : Int) ≤ 40) = true from rfl, need_true, e, wi64 (by omega) (by omega)]
    exact ⟨d, _, hd, rfl⟩
theorem src_next {a : List Int} (ha : Byt a) {t : Nat} (ht : t ≤ 1000000) (s : Int) : ∃ (v : Nat) (s' : Int), v < 256 ∧ s_l00Src_next_0p0_C0 a (t : Int) s = some ((v : Int), ((t + 1 : Nat) : Int), s') := by
  by_cases h : t < a.length
  · obtain ⟨x, hx⟩ : ∃ x, a[t]? = some x := ⟨_, List.getElem?_eq_getElem h⟩
    obtain ⟨x0, x1⟩ := ha x (List.mem_of_getElem? hx)
    have e : s_l00Src_next_0p0_C0 a (t : Int) s = s_l00Src_next_0p0_C0_k1 a (t : Int) s ((x.toNat : Nat) : Int) := by
      unfold s_l00Src_next_0p0_C0
      rw [decide_eq_true (by omega), bsel_true, at?_of (by omega) (by rw [show (t : Int).toNat = t from by omega]; exact hx), obind_eq, olet_eq, wi64 (by omega) (by omega)]
      congr 1; omega
    rw [e]; exact src_k1 ht (by omega)
  · have e : s_l00Src_next_0p0_C0 a (t : Int) s = s_l00Src_next_0p0_C0_k1 a (t : Int) s ((0 : Nat) : Int) := by
      unfold s_l00Src_next_0p0_C0
      rw [decide_eq_false (by omega), bsel_false]
      congr 1
    rw [e]; exact src_k1 ht (by decide)
theorem src_pick {a : List Int} (ha : Byt a) {n t : Nat} (h1 : 1 ≤ n) (h2 : n ≤ 200) (ht : t ≤ 1000000) (s : Int) : ∃ (v t' : Nat) (s' : Int), v < n ∧ t' ≤ t + 1 ∧ s_l00Src_pick_0p0_C0 (n : Int) a (t : Int) s = some ((v : Int), (t' : Int), s') := by
  unfold s_l00Src_pick_0p0_C0
  by_cases h : n ≤ 1
  · rw [decide_eq_true (by omega), bsel_true]; exact ⟨0, t, s, by omega, by omega, rfl⟩
  · obtain ⟨v, s', hv, e⟩ := src_next ha ht s
    rw [decide_eq_false (by omega), bsel_false, e, obind3_eq, decide_eq_false (by omega), bsel_false]
    unfold s_l00Src_pick_0p0_C0_k1
    rw [decide_eq_false (by omega), Bool.not_false, need_true]
    simp only [olet_eq]
    refine ⟨v % n, t + 1, s', Nat.mod_lt _ (by omega), Nat.le_refl _, ?_⟩
    rw [Int.tmod_eq_emod_of_nonneg (by omega), Int.natCast_emod]
theorem r8at {a : List Int} (ha : Byt a) {k n : Nat} (h1 : 1 ≤ n) : ∃ v : Nat, v < n ∧ w_r8At a (k : Int) (n : Int) = some (v : Int) := by
  unfold w_r8At
  by_cases h : n ≤ 1
  · rw [decide_eq_true (by omega), bsel_true]; exact ⟨0, by omega, rfl⟩
  · rw [decide_eq_false (by omega), bsel_false]
    by_cases hk : a.length ≤ k
    · rw [decide_eq_true (by omega), bsel_true]; exact ⟨0, by omega, rfl⟩
    · obtain ⟨x, hx⟩ : ∃ x, a[k]? = some x := ⟨_, List.getElem?_eq_getElem (by omega)⟩
      obtain ⟨x0, x1⟩ := ha x (List.mem_of_getElem? hx)
      rw [decide_eq_false (by omega), bsel_false, at?_of (by omega) (by rw [show (k : Int).toNat = k from by omega]; exact hx), obind_eq]
      simp only [olet_eq]
      rw [wi64 (by omega) (by omega), decide_eq_false (by omega), Bool.not_false, need_true]
      refine ⟨x.toNat % n, Nat.mod_lt _ (by omega), ?_⟩
      rw [Int.tmod_eq_emod_of_nonneg (by omega), Int.natCast_emod, show ((x.toNat : Nat) : Int) = x from by omega]
def Qd (x : F) : Prop := ∃ q : Int, q.natAbs ≤ 16 ∧ Dy .f32 2 q x
open Classical in
noncomputable def qv (x : F) : Int := if h : Qd x then h.choose else 0
theorem qv_le (x : F) : (qv x).natAbs ≤ 16 := by
  unfold qv
  split
  · rename_i h; exact h.choose_spec.1
  · decide
theorem qd_dy {x : F} (h : Qd x) : Dy .f32 2 (qv x) x := by
  unfold qv
  rw [dif_pos h]; exact h.choose_spec.2
theorem four_dy : Dy .f32 0 4 (some 1082130432) := by
  have e : fint .f32 4 = some 1082130432 := by decide +kernel
  rw [← e]; exact Dy.int (by decide)
structure QM (A C : Nat) (L : List F) : Prop where
  m : Mat A C L
  q : ∀ x ∈ L, Qd x
theorem QM.at {A C : Nat} {L : List F} (h : QM A C L) {i k : Nat} (hi : i < A) (hk : k < C) : Qd (gm none L C i k) := by
  have := h.m.lt hi hk
  unfold gm
  exact h.q _ (List.mem_of_getElem? (getD_of_lt none this))
theorem QM.fin {A C : Nat} {L : List F} (h : QM A C L) : L.all fin32 = true := List.all_eq_true.2 fun x hx => (qd_dy (h.q x hx)).fin
def isum (f : Nat → Int) : Nat → Int
  | 0 => 0
  | n + 1 => isum f n + f n
theorem isum_le {f : Nat → Int} {B : Nat} : ∀ {n : Nat}, (∀ j, j < n → (f j).natAbs ≤ B) → (isum f n).natAbs ≤ n * B
  | 0, _ => by simp [isum]
  | n + 1, h => by
    have h1 := isum_le (n := n) fun j hj => h j (by omega)
    have h2 := h n (by omega)
    unfold isum
    rw [Nat.add_mul, Nat.one_mul]; omega
theorem dotN_dy {f g : Nat → F} {p q : Nat → Int} {s t B : Nat} (hst : s + t ≤ 149) : ∀ n : Nat, (∀ j, j < n → Dy .f32 s (p j) (f j) ∧ Dy .f32 t (q j) (g j) ∧ (p j * q j).natAbs ≤ B) → n * B < 16777216 → Dy .f32 (s + t) (isum (fun j => p j * q j) n) (dotN f g n)
  | 0, _, _ => Dy.zero .f32 hst
  | n + 1, h, hB => by
    rw [Nat.add_mul, Nat.one_mul] at hB
    have hd : (2 : Nat) ^ dgn .f32 = 16777216 := by decide
    have ih := dotN_dy hst n (fun j hj => h j (by omega)) (by omega)
    obtain ⟨h1, h2, h3⟩ := h n (by omega)
    have hs := isum_le (f := fun j => p j * q j) (n := n) (B := B) fun j hj => (h j (by omega)).2.2
    have e : dotN f g (n + 1) = fop .add .f32 (dotN f g n) (fop .mul .f32 (f n) (g n)) := by
      unfold dotN
      rw [run_last, Nat.zero_add]; rfl
    rw [e]
    exact ih.add (h1.mul h2 hst (by omega)) (by rw [hd]; show (isum (fun j => p j * q j) n + p n * q n).natAbs < _; omega)
theorem mul_bound {x y : Int} (hx : x.natAbs ≤ 16) (hy : y.natAbs ≤ 16) : (x * y).natAbs ≤ 256 := by
  rw [Int.natAbs_mul]
  exact Nat.mul_le_mul hx hy
theorem mem_gm {A C : Nat} {L : List F} (h : Mat A C L) {x : F} (hx : x ∈ L) : ∃ i k, i < A ∧ k < C ∧ x = gm none L C i k := by
  obtain ⟨q, hq, rfl⟩ := List.mem_iff_getElem.1 hx
  have hq' : q < A * C := by rw [← h.len]; exact hq
  have hC : 0 < C := by
    rcases Nat.eq_zero_or_pos C with h0 | h0
    · subst h0; simp at hq'
    · exact h0
  have h3 : q / C * C + q % C = q := by rw [Nat.mul_comm]; exact Nat.div_add_mod q C
  refine ⟨q / C, q % C, (Nat.div_lt_iff_lt_mul hC).2 hq', Nat.mod_lt _ hC, ?_⟩
  unfold gm
  rw [h3]
  simp [List.getD, hq]
theorem tab_fin {A C : Nat} {f : Nat → Nat → F} (hA : A ≤ 12) (hC : C ≤ 12) (hf : ∀ i k, i < A → k < C → fin32 (f i k) = true) : (tabM A C f).all fin32 = true := by
  refine List.all_eq_true.2 fun x hx => ?_
  obtain ⟨i, k, hi, hk, rfl⟩ := mem_gm (tabM_mat hA hC) hx
  rw [tabM_gm hA hC hi hk]; exact hf i k hi hk
theorem i_made_2Fi_weigh_1_mk {A C : Nat} (hA : A ≤ 12) (hC : C ≤ 12) (a2 : F) (a3 a4 : Int) (a5 : List F) (a6 : F) (a7 a8 : Int) (a9 : List F) {K : Nat → Nat → F} (hK : ∀ i k : Nat, i < A → k < C → i_weigh_1 (i : Int) (k : Int) a2 a3 a4 a5 a6 a7 a8 a9 = some (K i k)) : i_made_2Fi_weigh_1 (A : Int) (C : Int) a2 a3 a4 a5 a6 a7 a8 a9 = some ((A : Int), (C : Int), tabM A C K) := by
  have inner : ∀ (i : Nat) (L L0 : List F), i < A → Mat A C L → Mat A C L0 → loopM (i_made_2Fi_weigh_1_s2 (C : Int) a2 a3 a4 a5 a6 a7 a8 a9 (A : Int) (C : Int) L0 (i : Int)) (L, 0) = some (.inl (fillR K C i L)) := by
    intro i L L0 hi hL hL0
    exact (loop_run (step := i_made_2Fi_weigh_1_s2 (C : Int) a2 a3 a4 a5 a6 a7 a8 a9 (A : Int) (C : Int) L0 (i : Int)) (fun (k : Nat) (L : List F) => (L, (k : Int))) (fun k L => sm L C i k (K i k)) (fun L => L) (fun _ L => Mat A C L) (lo := 0) (n := C) (Nat.zero_le _) (s0 := L) hL
      (fun k L2 _ hk h3 => by
        refine ⟨?_, h3.set _ _ _⟩
        show i_made_2Fi_weigh_1_b2 (C : Int) a2 a3 a4 a5 a6 a7 a8 a9 (A : Int) (C : Int) L0 (i : Int) L2 (k : Int) = _
        unfold i_made_2Fi_weigh_1_b2
        have l1 : decide ((sm L2 C i k (K i k)).length = L0.length) = true := by simp [h3.len, hL0.len]
        rw [dlt hk, bsel_true, hK i k hi hk, obind_eq, i_Matrix_set_02o_eq _ h3 hi hk, obind_eq, l1, need_true, wsucc (by omega)]
        rfl)
      (fun L2 _ => by
        show i_made_2Fi_weigh_1_b2 (C : Int) a2 a3 a4 a5 a6 a7 a8 a9 (A : Int) (C : Int) L0 (i : Int) L2 (C : Int) = _
        unfold i_made_2Fi_weigh_1_b2
        rw [dnlt, bsel_false])).1
  have e := (loop_run (step := i_made_2Fi_weigh_1_s3 (A : Int) (C : Int) a2 a3 a4 a5 a6 a7 a8 a9 (A : Int) (C : Int) (List.replicate (A * C) (some 0))) (fun (i : Nat) (L : List F) => (L, (i : Int))) (fillR K C) (fun L => L) (fun _ L => Mat A C L) (lo := 0) (n := A) (Nat.zero_le _) (s0 := List.replicate (A * C) (some 0)) (zmat hA hC)
    (fun i L2 _ hi h3 => by
      refine ⟨?_, (fillR_spec h3 hi).1⟩
      show i_made_2Fi_weigh_1_b3 (A : Int) (C : Int) a2 a3 a4 a5 a6 a7 a8 a9 (A : Int) (C : Int) (List.replicate (A * C) (some 0)) L2 (i : Int) = _
      unfold i_made_2Fi_weigh_1_b3
      rw [dlt hi, bsel_true, inner i L2 _ hi h3 (zmat hA hC), obind_eq, osum_inl]
      unfold i_made_2Fi_weigh_1_k2
      rw [wsucc (by omega)]
      rfl)
    (fun L2 _ => by
      show i_made_2Fi_weigh_1_b3 (A : Int) (C : Int) a2 a3 a4 a5 a6 a7 a8 a9 (A : Int) (C : Int) (List.replicate (A * C) (some 0)) L2 (A : Int) = _
      unfold i_made_2Fi_weigh_1_b3
      rw [dnlt, bsel_false])).1
  unfold i_made_2Fi_weigh_1
  replace e : loopM (i_made_2Fi_weigh_1_s3 (A : Int) (C : Int) a2 a3 a4 a5 a6 a7 a8 a9 (A : Int) (C : Int) (List.replicate (A * C) (some 0))) (List.replicate (A * C) (some 0), 0) = some (.inl (tabM A C K)) := e
  rw [i_newMatrix_eq hA hC, obind3_eq, e]; rfl
theorem valid_q {A C : Nat} {L : List F} (m : Mat A C L) (g : FOks L) (hf : L.all fin32 = true) (hA : 0 < A) (hC : 0 < C) : i_Matrix_valid_02o (A : Int) (C : Int) L = some (.inl ((A : Int), (C : Int), true, L)) := by
  unfold i_Matrix_valid_02o
  rw [i_ValidMatrix_eq _ _ g m.le, mat_valid m hA hC, hf, obind_eq, bsel_true]
theorem same_refl {x y : Int} {L : List F} (g : FOks L) (h : L.length ≤ 1048576) : i_SameMatrix x y L x y L = some true := by
  unfold i_SameMatrix i_sameNumbers
  rw [decide_eq_true rfl, bsel_true, decide_eq_true rfl, bsel_true, x_slices_EqualFunc_float32_float32_float32_float32_2Fi_SameNumber_eq g g h, decide_eq_true rfl, obind_eq, obind_eq]
structure QV (n : Nat) (L : List F) : Prop where
  vlen : L.length = n
  vq : ∀ x ∈ L, Qd x
theorem dy_small {n : Int} (hn : n.natAbs ≤ 200) : Dy .f32 0 n (fint .f32 n) := by
  have hp : (2 : Nat) ^ dgn .f32 = 16777216 := by decide
  exact Dy.int (by omega)
theorem two_dy : Dy .f32 0 2 (some 1073741824) := by
  have e : fint .f32 2 = some 1073741824 := by decide +kernel
  rw [← e]; exact dy_small (by decide)
theorem quarter_dy {n : Int} (h : n.natAbs ≤ 1000) : Dy .f32 2 n (fop .quo .f32 (fint .f32 n) (some 1082130432)) := by
  have hd : (2 : Nat) ^ dgn .f32 = 16777216 := by decide
  have h1 : Dy .f32 0 n (fint .f32 n) := Dy.int (by omega)
  have h2 := h1.scale (t := 2) (by decide)
  exact Dy.quo (s := 2) (t := 0) h2 four_dy (by decide) (by omega) (by omega)
theorem qd_fv {x : F} (h : Qd x) : Fv x ∧ Ab (vl x) 4 := by
  have h1 := (qd_dy h).fv
  have h2 := qv_le x
  refine ⟨h1.1, ?_⟩
  rw [h1.2]
  have e : (2 : Rat) ^ 2 = 4 := by decide +kernel
  rw [e]
  have l1 : ((-16 : Int) : Rat) ≤ ((qv x : Int) : Rat) := by exact_mod_cast (show (-16 : Int) ≤ qv x by omega)
  have l2 : ((qv x : Int) : Rat) ≤ ((16 : Int) : Rat) := by exact_mod_cast (show qv x ≤ (16 : Int) by omega)
  have c1 : ((-16 : Int) : Rat) = -16 := by decide +kernel
  have c2 : ((16 : Int) : Rat) = 16 := by decide +kernel
  rw [c1] at l1
  rw [c2] at l2
  generalize ((qv x : Int) : Rat) = q at *
  exact ⟨by grind, by grind⟩
theorem one_fv : Fv (some 1065353216) ∧ vl (some 1065353216) = 1 := by
  have e : fint .f32 1 = some 1065353216 := by decide +kernel
  have := (Dy.int (k := .f32) (n := 1) (by decide)).fv
  rw [e, show ((1 : Int) : Rat) / 2 ^ 0 = 1 from by decide +kernel] at this
  exact this
theorem getD_mem {l : List F} {i : Nat} (h : i < l.length) : l.getD i none ∈ l := List.mem_of_getElem? (getD_of_lt none h)
theorem mem_getD {l : List F} {x : F} (h : x ∈ l) : ∃ i, i < l.length ∧ x = l.getD i none := by
  obtain ⟨i, hi, rfl⟩ := List.mem_iff_getElem.1 h
  exact ⟨i, hi, by rw [List.getD_eq_getElem?_getD, List.getElem?_eq_getElem hi]; rfl⟩
theorem dy_fix {n : Int} {s w : Nat} (h1 : w < 2 ^ FloatKind.f32.format.width) (h2 : wrung FloatKind.f32.format w < FloatKind.f32.format.infRung) (h3 : s ≤ lpn .f32) (h4 : fval .f32 w = n * ((2 ^ (lpn .f32 - s) : Nat) : Int)) : Dy .f32 s n (some w) := ⟨w, rfl, h1, h2, h3, h4⟩
def prn (x : Nat → Rat) (X : Rat) (a : Nat) : Nat → Rat
  | 0 => 1
  | m + 1 => prn x X a m * (X - x (a + m))
def pX (c : Nat) : Nat → Rat
  | 0 => 1
  | j + 1 => pX c j * (3 / 2 * ((c - j : Nat) : Rat))
def mT : Nat → Rat | 0 => 4 | 1 => 16001 / 1000 | 2 => 32003 / 1000 | 3 => 42672 / 1000 | 4 => 42674 / 1000 | _ => 34142 / 1000
def sT (v : Nat) : Rat := 2 * mT v + h32 (2 * mT v)
def eT (v : Nat) : Rat := h32 (2 * mT v) + sT v / 8388608 + 1 / 10000000000000
def eB (m : Nat) : Rat := rs (fun j => eT j * pX (m - 1) j) m
def eK (k : Nat) : Rat := rs (fun j => eB (j + 1)) k
def hp (d x : Nat → Rat) (X : Rat) (i : Nat) : Nat → Rat
  | 0 => 0
  | m + 1 => hp d x X i m + d (i + m) * prn x X i m
def hB (k : Nat) : Nat → Rat
  | 0 => 4 + eK k
  | i + 1 => (hB k i + mT i) / (((k - i : Nat) : Rat) / 2)
theorem loop_go {S ρ ε : Type} {step : S → Option (LR S ε ρ)} (mk : Nat → S) {e : ε} : ∀ (m i : Nat), (∀ j, i ≤ j → j < i + m → step (mk j) = some (.next (mk (j + 1)))) → step (mk (i + m)) = some (.out e) → loopM step (mk i) = some (.inl e)
  | 0, i, _, ho => loopM_out (by rw [Nat.add_zero] at ho; exact ho)
  | m + 1, i, hs, ho => by
    rw [loopM_next (hs i (Nat.le_refl _) (by omega))]
    exact loop_go mk m (i + 1) (fun j h1 h2 => hs j (by omega) (by omega)) (by rw [show i + 1 + m = i + (m + 1) from by omega]; exact ho)
def eN (k : Nat) : Nat → Rat
  | 0 => if k = 5 then 0 else 3 / 1000000
  | c + 1 =>
    let X := 3 / 2 * ((c + 1 : Nat) : Rat)
    let P := if c = 0 then (eN k 0 + mT k) * (3 / 2) else eN k c * X + (hB k (k - (c + 1)) + mT (k - (c + 1)))
    eN k c * X + h32 P + h32 (hB k (k - (c + 1)) + (eN k c * X + h32 P))
def cA (c : Nat → Int) (i j : Nat) : Int := if i = 0 then -c (j + 1) else if i = j + 1 then 4 else 0
def cP (c : Nat → Int) (k i j : Nat) : Int := if i < k then (if j ≤ i then 0 else -c (k + j - i)) else (if i ≤ k + j ∧ j ≤ i then c (k + j - i) else 0)
def cM (c : Nat → Int) (k i j : Nat) : Int := cP c k i j - if i = j then c k else 0
theorem comp_step {c : Nat → Int} (h0 : c 0 = 4) {n : Nat} (hn : n ≤ 4) (hz : ∀ j, n < j → c j = 0) {k i m : Nat} (k1 : 1 ≤ k) (hk : k < n) (hi : i < n) (hm : m < n) : isum (fun j => cA c i j * cP c k j m) n = 4 * cM c (k + 1) i m := by
  have hkk : k = 1 ∨ k = 2 ∨ k = 3 := by omega
  have hnn : n = 2 ∨ n = 3 ∨ n = 4 := by omega
  have hii : i = 0 ∨ i = 1 ∨ i = 2 ∨ i = 3 := by omega
  have hmm : m = 0 ∨ m = 1 ∨ m = 2 ∨ m = 3 := by omega
  rcases hnn with rfl | rfl | rfl <;> rcases hkk with rfl | rfl | rfl <;> rcases hii with rfl | rfl | rfl | rfl <;> rcases hmm with rfl | rfl | rfl | rfl <;> first
    | (exfalso; omega)
    | (simp [isum, cA, cP, cM, h0, hz] <;> grind)
theorem comp_one {c : Nat → Int} (h0 : c 0 = 4) (i j : Nat) : cM c 1 i j = cA c i j := by
  unfold cM cP cA
  by_cases e : i = 0
  · subst e
    by_cases e2 : j = 0
    · subst e2; simp
    · rw [if_pos (by omega), if_neg (by omega), if_neg (by omega), if_pos rfl, show 1 + j - 0 = j + 1 from by omega]; omega
  · rw [if_neg (by omega), if_neg e]
    by_cases e2 : i = j + 1
    · rw [if_pos ⟨by omega, by omega⟩, if_neg (by omega), if_pos e2, show 1 + j - i = 0 from by omega, h0]; omega
    · rw [if_neg e2]
      by_cases e3 : i = j
      · rw [if_pos ⟨by omega, by omega⟩, if_pos e3, show 1 + j - i = 1 from by omega]; omega
      · rw [if_neg (by omega), if_neg e3]; omega
theorem comp_tr {c : Nat → Int} {n : Nat} (hn : n ≤ 4) {k : Nat} (k1 : 1 ≤ k) (hk : k ≤ n) : isum (fun r => cM c k r r) n = -((k : Int) * c k) := by
  have hkk : k = 1 ∨ k = 2 ∨ k = 3 ∨ k = 4 := by omega
  have hnn : n = 1 ∨ n = 2 ∨ n = 3 ∨ n = 4 := by omega
  rcases hnn with rfl | rfl | rfl | rfl <;> rcases hkk with rfl | rfl | rfl | rfl <;> first
    | (exfalso; omega)
    | (simp [isum, cP, cM] <;> omega)
theorem cP_le {c : Nat → Int} (hc : ∀ j, (c j).natAbs ≤ 16) (k i j : Nat) : (cP c k i j).natAbs ≤ 16 := by
  unfold cP
  have := hc (k + j - i)
  split <;> split <;> omega
theorem cA_le {c : Nat → Int} (hc : ∀ j, (c j).natAbs ≤ 16) (i j : Nat) : (cA c i j).natAbs ≤ 16 := by
  unfold cA
  have := hc (j + 1)
  split
  · omega
  · split <;> omega
theorem cM_le {c : Nat → Int} (hc : ∀ j, (c j).natAbs ≤ 16) (k i j : Nat) : (cM c k i j).natAbs ≤ 32 := by
  unfold cM
  have := cP_le hc k i j
  have := hc k
  split <;> omega
theorem dy_down {s t : Nat} {n : Int} {x : F} (h : Dy .f32 (s + t) (n * ((2 ^ t : Nat) : Int)) x) : Dy .f32 s n x := by
  obtain ⟨b, e, h1, h2, h3, h4⟩ := h
  refine ⟨b, e, h1, h2, by omega, ?_⟩
  rw [h4, show lpn .f32 - s = t + (lpn .f32 - (s + t)) from by omega, Nat.pow_add]
  push_cast
  rw [Int.mul_assoc]
theorem dy_flip {s : Nat} {n : Int} {x : F} (h : Dy .f32 s n x) : Dy .f32 s (-n) (fneg .f32 x) := by
  obtain ⟨b, rfl, h1, h2, h3, h4⟩ := h
  have hw : (b ^^^ 2 ^ 31) % 2 ^ 31 = b % 2 ^ 31 := by
    apply Nat.eq_of_testBit_eq
    intro k
    rw [Nat.testBit_mod_two_pow, Nat.testBit_mod_two_pow, Nat.testBit_xor, Nat.testBit_two_pow]
    by_cases hk : k < 31
    · simp [hk, show ¬ 31 = k from by omega]
    · simp [hk]
  have hr : wrung FloatKind.f32.format (b ^^^ 2 ^ 31) = wrung FloatKind.f32.format b := hw
  have hs : wneg FloatKind.f32.format (b ^^^ 2 ^ 31) = !wneg FloatKind.f32.format b := by
    have t1 : ∀ w, wneg FloatKind.f32.format w = w.testBit 31 := fun w => by
      rw [Nat.testBit_eq_decide_div_mod_eq]
      show (w / 2 ^ 31 % 2 == 1) = _
      rw [Bool.beq_eq_decide_eq]
    rw [t1, t1, Nat.testBit_xor, Nat.testBit_two_pow]
    simp
  refine ⟨b ^^^ 2 ^ 31, rfl, Nat.xor_lt_two_pow h1 (by decide), by rw [hr]; exact h2, h3, ?_⟩
  unfold fval at h4 ⊢
  rw [hr, hs, sval_not, h4, Int.neg_mul]
theorem sgAdd_gm {n : Nat} {x : F} {M : List F} (m : Mat n n M) : ∀ i j, i < n → j < n → gm none (sgAdd n x M) n i j = if i = j then fop .add .f32 (gm none M n i i) x else gm none M n i j := by
  have inv := run_inv (f := fun r M => sm M n r r (fop .add .f32 (gm none M n r r) x)) (fun q (L : List F) => Mat n n L ∧ ∀ i j, i < n → j < n → gm none L n i j = if i = j ∧ i < q then fop .add .f32 (gm none M n i i) x else gm none M n i j) n 0 M ⟨m, fun i j _ _ => by rw [if_neg (by omega)]⟩ (fun q L _ h2 ⟨i1, i2⟩ => by
    have hq : q < n := by omega
    refine ⟨i1.set _ _ _, fun i j hi hj => ?_⟩
    have v : gm none L n q q = gm none M n q q := by rw [i2 q q hq hq, if_neg (by omega)]
    show gm none (sm L n q q (fop .add .f32 (gm none L n q q) x)) n i j = _
    rw [gm_set i1 hq hq hj, v]
    by_cases e : q = i ∧ q = j
    · obtain ⟨rfl, rfl⟩ := e
      rw [if_pos ⟨rfl, rfl⟩, if_pos ⟨rfl, by omega⟩]
    · rw [if_neg e, i2 i j hi hj]
      by_cases e2 : i = j ∧ i < q
      · rw [if_pos e2, if_pos ⟨e2.1, by omega⟩]
      · rw [if_neg e2, if_neg (by omega)])
  intro i j hi hj
  have := inv.2 i j hi hj
  show gm none (run _ 0 n M) n i j = _
  rw [this]
  by_cases e : i = j
  · rw [if_pos ⟨e, by omega⟩, if_pos e]
  · rw [if_neg (by omega), if_neg e]
theorem trN_dy {n : Nat} {M : List F} {d : Nat → Int} (hn : n ≤ 4) (h : ∀ r, r < n → Dy .f32 2 (d r) (gm none M n r r) ∧ (d r).natAbs ≤ 32) : Dy .f32 2 (isum d n) (trN n M) := by
  have hd : (2 : Nat) ^ dgn .f32 = 16777216 := by decide
  have key : ∀ q, q ≤ n → Dy .f32 2 (isum d q) (run (trE n M) 0 q (some 0)) := by
    intro q
    induction q with
    | zero => intro _; exact Dy.zero .f32 (by decide)
    | succ q ih =>
      intro hq
      rw [run_last, Nat.zero_add]
      have b := isum_le (f := d) (n := q) (B := 32) fun j hj => (h j (by omega)).2
      obtain ⟨h1, h2⟩ := h q (by omega)
      exact (ih (by omega)).add h1 (by rw [hd]; omega)
  exact key n (Nat.le_refl _)
structure CmpI (n : Nat) (c : Nat → Int) (i : Nat) (s : SG) : Prop where
  m : Mat n n s.1
  e : ∀ r k, r < n → k < n → Dy .f32 2 (cM c (if i = 0 then 1 else i) r k) (gm none s.1 n r k)
  l : s.2.length = i
  o : ∀ j, j < i → Dy .f32 2 (c (j + 1)) (s.2.getD j none)
theorem cmp_tr {n : Nat} {c : Nat → Int} {i : Nat} {M out : List F} (hn : n ≤ 4) (hc : ∀ j, (c j).natAbs ≤ 16) (hi : i < n) (m : Mat n n M) (he : ∀ r k, r < n → k < n → Dy .f32 2 (cM c (i + 1) r k) (gm none M n r k)) (hl : out.length = i) (ho : ∀ j, j < i → Dy .f32 2 (c (j + 1)) (out.getD j none)) :
    ∃ s', sgTr i M out (trQ n M) = .inl s' ∧ CmpI n c (i + 1) s' := by
  have t := trN_dy (M := M) (d := fun r => cM c (i + 1) r r) hn fun r hr => ⟨he r r hr hr, cM_le hc _ _ _⟩
  rw [comp_tr hn (by omega) (by omega)] at t
  have f : M.all fin32 = true := List.all_eq_true.2 fun x hx => by
    obtain ⟨r, k, hr, hk, rfl⟩ := mem_gm m hx
    exact (he r k hr hk).fin
  have tq : trQ n M = (trN n M, true) := by unfold trQ; rw [f, t.fin]; rfl
  have x : Dy .f32 2 (c (i + 1)) (sgX i (trN n M)) := by
    have ng := dy_flip t
    rw [Int.neg_neg] at ng
    unfold sgX
    by_cases e : 0 < i
    · rw [decide_eq_true e, cond_true]
      have hd : (2 : Nat) ^ dgn .f32 = 16777216 := by decide
      have d2 : Dy .f32 0 ((i + 1 : Nat) : Int) (fint .f32 ((i + 1 : Nat) : Int)) := Dy.int (by omega)
      rw [Int.mul_comm] at ng
      have := hc (i + 1)
      exact Dy.quo (s := 2) (t := 0) ng d2 (by omega) (by omega) (by omega)
    · rw [decide_eq_false e, cond_false]
      have : i = 0 := by omega
      subst this
      have e1 : (((0 + 1 : Nat) : Int) * c (0 + 1)) = c (0 + 1) := by simp
      rw [e1] at ng
      exact ng
  refine ⟨(M, out ++ [sgX i (trN n M)]), ?_, m, fun r k hr hk => by rw [if_neg (by omega)]; exact he r k hr hk, by simp [hl], fun j hj => ?_⟩
  · unfold sgTr
    rw [tq, cond_true]
  · dsimp only
    by_cases e : j = i
    · subst e
      rw [List.getD_eq_getElem?_getD, ← hl, List.getElem?_append_right (Nat.le_refl _), Nat.sub_self, hl]
      exact x
    · rw [List.getD_eq_getElem?_getD, List.getElem?_append_left (by omega), ← List.getD_eq_getElem?_getD]
      exact ho j (by omega)
theorem cmp_step {n : Nat} {c : Nat → Int} {i : Nat} {L : List F} {s : SG} (hn : n ≤ 4) (h0 : c 0 = 4) (hz : ∀ j, n < j → c j = 0) (hc : ∀ j, (c j).natAbs ≤ 16) (hi : i < n) (mL : Mat n n L) (hL : ∀ r k, r < n → k < n → Dy .f32 2 (cA c r k) (gm none L n r k)) (h : CmpI n c i s) : ∃ s', sgStep n L i s = .inl s' ∧ CmpI n c (i + 1) s' := by
  have hd : (2 : Nat) ^ dgn .f32 = 16777216 := by decide
  unfold sgStep
  by_cases e : 0 < i
  · rw [decide_eq_true e, cond_true]
    have out := h.o (i - 1) (by omega)
    rw [show i - 1 + 1 = i from by omega] at out
    have mA := sgAdd_mat (x := s.2.getD (i - 1) none) h.m
    have eP : ∀ r k, r < n → k < n → Dy .f32 2 (cP c i r k) (gm none (sgAdd n (s.2.getD (i - 1) none) s.1) n r k) := fun r k hr hk => by
      have a := h.e r k hr hk
      rw [if_neg (by omega)] at a
      rw [sgAdd_gm h.m r k hr hk]
      by_cases e2 : r = k
      · subst e2
        rw [if_pos rfl]
        have b := cM_le hc i r r
        have b2 := hc i
        have := a.add out (by rw [hd]; omega)
        rw [show cM c i r r + c i = cP c i r r from by unfold cM; rw [if_pos rfl]; omega] at this
        exact this
      · rw [if_neg e2]
        rw [show cM c i r k = cP c i r k from by unfold cM; rw [if_neg e2]; omega] at a
        exact a
    generalize sgAdd n (s.2.getD (i - 1) none) s.1 = Q at *
    have eM : ∀ r k, r < n → k < n → Dy .f32 2 (cM c (i + 1) r k) (mulE n n L Q r k) := fun r k hr hk => by
      have d := dotN_dy (s := 2) (t := 2) (B := 256) (f := fun j => gm none L n r j) (g := fun j => gm none Q n j k) (p := fun j => cA c r j) (q := fun j => cP c i j k) (by decide) n (fun j hj => ⟨hL r j hr hj, eP j k hj hk, mul_bound (cA_le hc _ _) (cP_le hc _ _ _)⟩) (by omega)
      rw [comp_step h0 hn hz (by omega) hi hr hk] at d
      refine dy_down (s := 2) (t := 2) ?_
      rw [Int.mul_comm] at d
      exact d
    have fT : (tabM n n (mulE n n L Q)).all fin32 = true := tab_fin mL.A1 mL.A1 fun r k hr hk => (eM r k hr hk).fin
    have fl : ∀ {A : List F}, Mat n n A → (∀ r k, r < n → k < n → fin32 (gm none A n r k) = true) → A.all fin32 = true := fun mA hA => List.all_eq_true.2 fun x hx => by
      obtain ⟨r, k, hr, hk, rfl⟩ := mem_gm mA hx
      exact hA r k hr hk
    have mq : mulQ n n n L Q = ((n : Int), (n : Int), true, tabM n n (mulE n n L Q)) := by
      unfold mulQ
      rw [fl mL fun r k hr hk => (hL r k hr hk).fin, fl mA fun r k hr hk => (eP r k hr hk).fin, fT]; rfl
    unfold sgMul
    rw [mq, cond_true]
    exact cmp_tr hn hc hi (tabM_mat mL.A1 mL.A1) (fun r k hr hk => by rw [tabM_gm mL.A1 mL.A1 hr hk]; exact eM r k hr hk) h.l h.o
  · rw [decide_eq_false e, cond_false]
    have : i = 0 := by omega
    subst this
    exact cmp_tr hn hc hi h.m (fun r k hr hk => by have := h.e r k hr hk; rw [if_pos rfl] at this; exact this) h.l h.o
theorem i_made_2Fi_CompanionMatrix_1_mk {A C : Nat} (hA : A ≤ 12) (hC : C ≤ 12) (a2 : List F) {K : Nat → Nat → F} (hK : ∀ i k : Nat, i < A → k < C → i_CompanionMatrix_1 (i : Int) (k : Int) a2 = some (K i k)) : i_made_2Fi_CompanionMatrix_1 (A : Int) (C : Int) a2 = some ((A : Int), (C : Int), tabM A C K) := by
  have inner : ∀ (i : Nat) (L L0 : List F), i < A → Mat A C L → Mat A C L0 → loopM (i_made_2Fi_CompanionMatrix_1_s2 (C : Int) a2 (A : Int) (C : Int) L0 (i : Int)) (L, 0) = some (.inl (fillR K C i L)) := by
    intro i L L0 hi hL hL0
    exact (loop_run (step := i_made_2Fi_CompanionMatrix_1_s2 (C : Int) a2 (A : Int) (C : Int) L0 (i : Int)) (fun (k : Nat) (L : List F) => (L, (k : Int))) (fun k L => sm L C i k (K i k)) (fun L => L) (fun _ L => Mat A C L) (lo := 0) (n := C) (Nat.zero_le _) (s0 := L) hL
      (fun k L2 _ hk h3 => by
        refine ⟨?_, h3.set _ _ _⟩
        show i_made_2Fi_CompanionMatrix_1_b2 (C : Int) a2 (A : Int) (C : Int) L0 (i : Int) L2 (k : Int) = _
        unfold i_made_2Fi_CompanionMatrix_1_b2
        have l1 : decide ((sm L2 C i k (K i k)).length = L0.length) = true := by simp [h3.len, hL0.len]
        rw [dlt hk, bsel_true, hK i k hi hk, obind_eq, i_Matrix_set_02o_eq _ h3 hi hk, obind_eq, l1, need_true, wsucc (by omega)]
        rfl)
      (fun L2 _ => by
        show i_made_2Fi_CompanionMatrix_1_b2 (C : Int) a2 (A : Int) (C : Int) L0 (i : Int) L2 (C : Int) = _
        unfold i_made_2Fi_CompanionMatrix_1_b2
        rw [dnlt, bsel_false])).1
  have e := (loop_run (step := i_made_2Fi_CompanionMatrix_1_s3 (A : Int) (C : Int) a2 (A : Int) (C : Int) (List.replicate (A * C) (some 0))) (fun (i : Nat) (L : List F) => (L, (i : Int))) (fillR K C) (fun L => L) (fun _ L => Mat A C L) (lo := 0) (n := A) (Nat.zero_le _) (s0 := List.replicate (A * C) (some 0)) (zmat hA hC)
    (fun i L2 _ hi h3 => by
      refine ⟨?_, (fillR_spec h3 hi).1⟩
      show i_made_2Fi_CompanionMatrix_1_b3 (A : Int) (C : Int) a2 (A : Int) (C : Int) (List.replicate (A * C) (some 0)) L2 (i : Int) = _
      unfold i_made_2Fi_CompanionMatrix_1_b3
      rw [dlt hi, bsel_true, inner i L2 _ hi h3 (zmat hA hC), obind_eq, osum_inl]
      unfold i_made_2Fi_CompanionMatrix_1_k2
      rw [wsucc (by omega)]
      rfl)
    (fun L2 _ => by
      show i_made_2Fi_CompanionMatrix_1_b3 (A : Int) (C : Int) a2 (A : Int) (C : Int) (List.replicate (A * C) (some 0)) L2 (A : Int) = _
      unfold i_made_2Fi_CompanionMatrix_1_b3
      rw [dnlt, bsel_false])).1
  unfold i_made_2Fi_CompanionMatrix_1
  replace e : loopM (i_made_2Fi_CompanionMatrix_1_s3 (A : Int) (C : Int) a2 (A : Int) (C : Int) (List.replicate (A * C) (some 0))) (List.replicate (A * C) (some 0), 0) = some (.inl (tabM A C K)) := e
  rw [i_newMatrix_eq hA hC, obind3_eq, e]; rfl
theorem i_made_2Fi_ExpMatrix_1_mk {A C : Nat} (hA : A ≤ 12) (hC : C ≤ 12) (a2 a3 : Int) (a4 : List F) {K : Nat → Nat → F} (hK : ∀ i k : Nat, i < A → k < C → i_ExpMatrix_1 (i : Int) (k : Int) a2 a3 a4 = some (K i k)) : i_made_2Fi_ExpMatrix_1 (A : Int) (C : Int) a2 a3 a4 = some ((A : Int), (C : Int), tabM A C K) := by
  have inner : ∀ (i : Nat) (L L0 : List F), i < A → Mat A C L → Mat A C L0 → loopM (i_made_2Fi_ExpMatrix_1_s2 (C : Int) a2 a3 a4 (A : Int) (C : Int) L0 (i : Int)) (L, 0) = some (.inl (fillR K C i L)) := by
    intro i L L0 hi hL hL0
    exact (loop_run (step := i_made_2Fi_ExpMatrix_1_s2 (C : Int) a2 a3 a4 (A : Int) (C : Int) L0 (i : Int)) (fun (k : Nat) (L : List F) => (L, (k : Int))) (fun k L => sm L C i k (K i k)) (fun L => L) (fun _ L => Mat A C L) (lo := 0) (n := C) (Nat.zero_le _) (s0 := L) hL
      (fun k L2 _ hk h3 => by
        refine ⟨?_, h3.set _ _ _⟩
        show i_made_2Fi_ExpMatrix_1_b2 (C : Int) a2 a3 a4 (A : Int) (C : Int) L0 (i : Int) L2 (k : Int) = _
        unfold i_made_2Fi_ExpMatrix_1_b2
        have l1 : decide ((sm L2 C i k (K i k)).length = L0.length) = true := by simp [h3.len, hL0.len]
        rw [dlt hk, bsel_true, hK i k hi hk, obind_eq, i_Matrix_set_02o_eq _ h3 hi hk, obind_eq, l1, need_true, wsucc (by omega)]
        rfl)
      (fun L2 _ => by
        show i_made_2Fi_ExpMatrix_1_b2 (C : Int) a2 a3 a4 (A : Int) (C : Int) L0 (i : Int) L2 (C : Int) = _
        unfold i_made_2Fi_ExpMatrix_1_b2
        rw [dnlt, bsel_false])).1
  have e := (loop_run (step := i_made_2Fi_ExpMatrix_1_s3 (A : Int) (C : Int) a2 a3 a4 (A : Int) (C : Int) (List.replicate (A * C) (some 0))) (fun (i : Nat) (L : List F) => (L, (i : Int))) (fillR K C) (fun L => L) (fun _ L => Mat A C L) (lo := 0) (n := A) (Nat.zero_le _) (s0 := List.replicate (A * C) (some 0)) (zmat hA hC)
    (fun i L2 _ hi h3 => by
      refine ⟨?_, (fillR_spec h3 hi).1⟩
      show i_made_2Fi_ExpMatrix_1_b3 (A : Int) (C : Int) a2 a3 a4 (A : Int) (C : Int) (List.replicate (A * C) (some 0)) L2 (i : Int) = _
      unfold i_made_2Fi_ExpMatrix_1_b3
      rw [dlt hi, bsel_true, inner i L2 _ hi h3 (zmat hA hC), obind_eq, osum_inl]
      unfold i_made_2Fi_ExpMatrix_1_k2
      rw [wsucc (by omega)]
      rfl)
    (fun L2 _ => by
      show i_made_2Fi_ExpMatrix_1_b3 (A : Int) (C : Int) a2 a3 a4 (A : Int) (C : Int) (List.replicate (A * C) (some 0)) L2 (A : Int) = _
      unfold i_made_2Fi_ExpMatrix_1_b3
      rw [dnlt, bsel_false])).1
  unfold i_made_2Fi_ExpMatrix_1
  replace e : loopM (i_made_2Fi_ExpMatrix_1_s3 (A : Int) (C : Int) a2 a3 a4 (A : Int) (C : Int) (List.replicate (A * C) (some 0))) (List.replicate (A * C) (some 0), 0) = some (.inl (tabM A C K)) := e
  rw [i_newMatrix_eq hA hC, obind3_eq, e]; rfl
theorem i_made_2Fi_ExpMatrix_2_mk {A C : Nat} (hA : A ≤ 12) (hC : C ≤ 12) (a2 a3 : Int) (a4 : List F) (a5 : Int) {K : Nat → Nat → F} (hK : ∀ i k : Nat, i < A → k < C → i_ExpMatrix_2 (i : Int) (k : Int) a2 a3 a4 a5 = some (K i k)) : i_made_2Fi_ExpMatrix_2 (A : Int) (C : Int) a2 a3 a4 a5 = some ((A : Int), (C : Int), tabM A C K) := by
  have inner : ∀ (i : Nat) (L L0 : List F), i < A → Mat A C L → Mat A C L0 → loopM (i_made_2Fi_ExpMatrix_2_s2 (C : Int) a2 a3 a4 a5 (A : Int) (C : Int) L0 (i : Int)) (L, 0) = some (.inl (fillR K C i L)) := by
    intro i L L0 hi hL hL0
    exact (loop_run (step := i_made_2Fi_ExpMatrix_2_s2 (C : Int) a2 a3 a4 a5 (A : Int) (C : Int) L0 (i : Int)) (fun (k : Nat) (L : List F) => (L, (k : Int))) (fun k L => sm L C i k (K i k)) (fun L => L) (fun _ L => Mat A C L) (lo := 0) (n := C) (Nat.zero_le _) (s0 := L) hL
      (fun k L2 _ hk h3 => by
        refine ⟨?_, h3.set _ _ _⟩
        show i_made_2Fi_ExpMatrix_2_b2 (C : Int) a2 a3 a4 a5 (A : Int) (C : Int) L0 (i : Int) L2 (k : Int) = _
        unfold i_made_2Fi_ExpMatrix_2_b2
        have l1 : decide ((sm L2 C i k (K i k)).length = L0.length) = true := by simp [h3.len, hL0.len]
        rw [dlt hk, bsel_true, hK i k hi hk, obind_eq, i_Matrix_set_02o_eq _ h3 hi hk, obind_eq, l1, need_true, wsucc (by omega)]
        rfl)
      (fun L2 _ => by
        show i_made_2Fi_ExpMatrix_2_b2 (C : Int) a2 a3 a4 a5 (A : Int) (C : Int) L0 (i : Int) L2 (C : Int) = _
        unfold i_made_2Fi_ExpMatrix_2_b2
        rw [dnlt, bsel_false])).1
  have e := (loop_run (step := i_made_2Fi_ExpMatrix_2_s3 (A : Int) (C : Int) a2 a3 a4 a5 (A : Int) (C : Int) (List.replicate (A * C) (some 0))) (fun (i : Nat) (L : List F) => (L, (i : Int))) (fillR K C) (fun L => L) (fun _ L => Mat A C L) (lo := 0) (n := A) (Nat.zero_le _) (s0 := List.replicate (A * C) (some 0)) (zmat hA hC)
    (fun i L2 _ hi h3 => by
      refine ⟨?_, (fillR_spec h3 hi).1⟩
      show i_made_2Fi_ExpMatrix_2_b3 (A : Int) (C : Int) a2 a3 a4 a5 (A : Int) (C : Int) (List.replicate (A * C) (some 0)) L2 (i : Int) = _
      unfold i_made_2Fi_ExpMatrix_2_b3
      rw [dlt hi, bsel_true, inner i L2 _ hi h3 (zmat hA hC), obind_eq, osum_inl]
      unfold i_made_2Fi_ExpMatrix_2_k2
      rw [wsucc (by omega)]
      rfl)
    (fun L2 _ => by
      show i_made_2Fi_ExpMatrix_2_b3 (A : Int) (C : Int) a2 a3 a4 a5 (A : Int) (C : Int) (List.replicate (A * C) (some 0)) L2 (A : Int) = _
      unfold i_made_2Fi_ExpMatrix_2_b3
      rw [dnlt, bsel_false])).1
  unfold i_made_2Fi_ExpMatrix_2
  replace e : loopM (i_made_2Fi_ExpMatrix_2_s3 (A : Int) (C : Int) a2 a3 a4 a5 (A : Int) (C : Int) (List.replicate (A * C) (some 0))) (List.replicate (A * C) (some 0), 0) = some (.inl (tabM A C K)) := e
  rw [i_newMatrix_eq hA hC, obind3_eq, e]; rfl
theorem i_made_2Fi_ExpMatrix_3_mk {A C : Nat} (hA : A ≤ 12) (hC : C ≤ 12) (a2 a3 : Int) (a4 : List F) (a5 a6 : Int) (a7 : List F) {K : Nat → Nat → F} (hK : ∀ i k : Nat, i < A → k < C → i_ExpMatrix_3 (i : Int) (k : Int) a2 a3 a4 a5 a6 a7 = some (K i k)) : i_made_2Fi_ExpMatrix_3 (A : Int) (C : Int) a2 a3 a4 a5 a6 a7 = some ((A : Int), (C : Int), tabM A C K) := by
  have inner : ∀ (i : Nat) (L L0 : List F), i < A → Mat A C L → Mat A C L0 → loopM (i_made_2Fi_ExpMatrix_3_s2 (C : Int) a2 a3 a4 a5 a6 a7 (A : Int) (C : Int) L0 (i : Int)) (L, 0) = some (.inl (fillR K C i L)) := by
    intro i L L0 hi hL hL0
    exact (loop_run (step := i_made_2Fi_ExpMatrix_3_s2 (C : Int) a2 a3 a4 a5 a6 a7 (A : Int) (C : Int) L0 (i : Int)) (fun (k : Nat) (L : List F) => (L, (k : Int))) (fun k L => sm L C i k (K i k)) (fun L => L) (fun _ L => Mat A C L) (lo := 0) (n := C) (Nat.zero_le _) (s0 := L) hL
      (fun k L2 _ hk h3 => by
        refine ⟨?_, h3.set _ _ _⟩
        show i_made_2Fi_ExpMatrix_3_b2 (C : Int) a2 a3 a4 a5 a6 a7 (A : Int) (C : Int) L0 (i : Int) L2 (k : Int) = _
        unfold i_made_2Fi_ExpMatrix_3_b2
        have l1 : decide ((sm L2 C i k (K i k)).length = L0.length) = true := by simp [h3.len, hL0.len]
        rw [dlt hk, bsel_true, hK i k hi hk, obind_eq, i_Matrix_set_02o_eq _ h3 hi hk, obind_eq, l1, need_true, wsucc (by omega)]
        rfl)
      (fun L2 _ => by
        show i_made_2Fi_ExpMatrix_3_b2 (C : Int) a2 a3 a4 a5 a6 a7 (A : Int) (C : Int) L0 (i : Int) L2 (C : Int) = _
        unfold i_made_2Fi_ExpMatrix_3_b2
        rw [dnlt, bsel_false])).1
  have e := (loop_run (step := i_made_2Fi_ExpMatrix_3_s3 (A : Int) (C : Int) a2 a3 a4 a5 a6 a7 (A : Int) (C : Int) (List.replicate (A * C) (some 0))) (fun (i : Nat) (L : List F) => (L, (i : Int))) (fillR K C) (fun L => L) (fun _ L => Mat A C L) (lo := 0) (n := A) (Nat.zero_le _) (s0 := List.replicate (A * C) (some 0)) (zmat hA hC)
    (fun i L2 _ hi h3 => by
      refine ⟨?_, (fillR_spec h3 hi).1⟩
      show i_made_2Fi_ExpMatrix_3_b3 (A : Int) (C : Int) a2 a3 a4 a5 a6 a7 (A : Int) (C : Int) (List.replicate (A * C) (some 0)) L2 (i : Int) = _
      unfold i_made_2Fi_ExpMatrix_3_b3
      rw [dlt hi, bsel_true, inner i L2 _ hi h3 (zmat hA hC), obind_eq, osum_inl]
      unfold i_made_2Fi_ExpMatrix_3_k2
      rw [wsucc (by omega)]
      rfl)
    (fun L2 _ => by
      show i_made_2Fi_ExpMatrix_3_b3 (A : Int) (C : Int) a2 a3 a4 a5 a6 a7 (A : Int) (C : Int) (List.replicate (A * C) (some 0)) L2 (A : Int) = _
      unfold i_made_2Fi_ExpMatrix_3_b3
      rw [dnlt, bsel_false])).1
  unfold i_made_2Fi_ExpMatrix_3
  replace e : loopM (i_made_2Fi_ExpMatrix_3_s3 (A : Int) (C : Int) a2 a3 a4 a5 a6 a7 (A : Int) (C : Int) (List.replicate (A * C) (some 0))) (List.replicate (A * C) (some 0), 0) = some (.inl (tabM A C K)) := e
  rw [i_newMatrix_eq hA hC, obind3_eq, e]; rfl
theorem i_made_2Fi_PolarPart_1_mk {A C : Nat} (hA : A ≤ 12) (hC : C ≤ 12) (a2 a3 : Int) (a4 : List F) (a5 : F) {K : Nat → Nat → F} (hK : ∀ i k : Nat, i < A → k < C → i_PolarPart_1 (i : Int) (k : Int) a2 a3 a4 a5 = some (K i k)) : i_made_2Fi_PolarPart_1 (A : Int) (C : Int) a2 a3 a4 a5 = some ((A : Int), (C : Int), tabM A C K) := by
  have inner : ∀ (i : Nat) (L L0 : List F), i < A → Mat A C L → Mat A C L0 → loopM (i_made_2Fi_PolarPart_1_s2 (C : Int) a2 a3 a4 a5 (A : Int) (C : Int) L0 (i : Int)) (L, 0) = some (.inl (fillR K C i L)) := by
    intro i L L0 hi hL hL0
    exact (loop_run (step := i_made_2Fi_PolarPart_1_s2 (C : Int) a2 a3 a4 a5 (A : Int) (C : Int) L0 (i : Int)) (fun (k : Nat) (L : List F) => (L, (k : Int))) (fun k L => sm L C i k (K i k)) (fun L => L) (fun _ L => Mat A C L) (lo := 0) (n := C) (Nat.zero_le _) (s0 := L) hL
      (fun k L2 _ hk h3 => by
        refine ⟨?_, h3.set _ _ _⟩
        show i_made_2Fi_PolarPart_1_b2 (C : Int) a2 a3 a4 a5 (A : Int) (C : Int) L0 (i : Int) L2 (k : Int) = _
        unfold i_made_2Fi_PolarPart_1_b2
        have l1 : decide ((sm L2 C i k (K i k)).length = L0.length) = true := by simp [h3.len, hL0.len]
        rw [dlt hk, bsel_true, hK i k hi hk, obind_eq, i_Matrix_set_02o_eq _ h3 hi hk, obind_eq, l1, need_true, wsucc (by omega)]
        rfl)
      (fun L2 _ => by
        show i_made_2Fi_PolarPart_1_b2 (C : Int) a2 a3 a4 a5 (A : Int) (C : Int) L0 (i : Int) L2 (C : Int) = _
        unfold i_made_2Fi_PolarPart_1_b2
        rw [dnlt, bsel_false])).1
  have e := (loop_run (step := i_made_2Fi_PolarPart_1_s3 (A : Int) (C : Int) a2 a3 a4 a5 (A : Int) (C : Int) (List.replicate (A * C) (some 0))) (fun (i : Nat) (L : List F) => (L, (i : Int))) (fillR K C) (fun L => L) (fun _ L => Mat A C L) (lo := 0) (n := A) (Nat.zero_le _) (s0 := List.replicate (A * C) (some 0)) (zmat hA hC)
    (fun i L2 _ hi h3 => by
      refine ⟨?_, (fillR_spec h3 hi).1⟩
      show i_made_2Fi_PolarPart_1_b3 (A : Int) (C : Int) a2 a3 a4 a5 (A : Int) (C : Int) (List.replicate (A * C) (some 0)) L2 (i : Int) = _
      unfold i_made_2Fi_PolarPart_1_b3
      rw [dlt hi, bsel_true, inner i L2 _ hi h3 (zmat hA hC), obind_eq, osum_inl]
      unfold i_made_2Fi_PolarPart_1_k2
      rw [wsucc (by omega)]
      rfl)
    (fun L2 _ => by
      show i_made_2Fi_PolarPart_1_b3 (A : Int) (C : Int) a2 a3 a4 a5 (A : Int) (C : Int) (List.replicate (A * C) (some 0)) L2 (A : Int) = _
      unfold i_made_2Fi_PolarPart_1_b3
      rw [dnlt, bsel_false])).1
  unfold i_made_2Fi_PolarPart_1
  replace e : loopM (i_made_2Fi_PolarPart_1_s3 (A : Int) (C : Int) a2 a3 a4 a5 (A : Int) (C : Int) (List.replicate (A * C) (some 0))) (List.replicate (A * C) (some 0), 0) = some (.inl (tabM A C K)) := e
  rw [i_newMatrix_eq hA hC, obind3_eq, e]; rfl
def cmpE (l : List F) (i j : Nat) : F := if i = 0 then fneg .f32 (l.getD j none) else if i = j + 1 then some 1065353216 else some 0
theorem i_CompanionMatrix_fv {n : Nat} {l : List F} (n0 : 0 < n) (hn : n ≤ 12) (hl : l.length = n) (f : ∀ x ∈ l, Fv x) : i_CompanionMatrix l = some ((n : Int), (n : Int), true, tabM n n (cmpE l)) := by
  unfold i_CompanionMatrix i_length_float32
  rw [obind_eq, i_isSide_eq, obind_eq]
  unfold side
  rw [hl, decide_eq_true (by omega), decide_eq_true (by omega), Bool.and_self, bsel_true, i_areFinite_eq (fun x hx => (f x hx).fok) (by omega), List.all_eq_true.2 fun x hx => (f x hx).fin, obind_eq, bsel_true, i_made_2Fi_CompanionMatrix_1_mk hn hn l (K := cmpE l) (fun i k hi hk => by
    unfold i_CompanionMatrix_1 cmpE
    by_cases e : i = 0
    · rw [if_pos e, decide_eq_true (by omega), bsel_true, at?_n none (by omega), obind_eq, olet_eq]
    · rw [if_neg e, decide_eq_false (by omega), bsel_false, wsucc (by omega), olet_eq]
      by_cases e2 : i = k + 1
      · rw [if_pos e2, decide_eq_true (by omega), bsel_true]
      · rw [if_neg e2, decide_eq_false (by omega), bsel_false]), obind3_eq]
noncomputable def cmC (n : Nat) (l : List F) (j : Nat) : Int := if j = 0 then 4 else if j ≤ n then qv (l.getD (j - 1) none) else 0
theorem signs_fv {n : Nat} {l : List F} (n0 : 0 < n) (hn : n ≤ 4) (h : QV n l) : ∃ o : List F, o.length = n ∧ (∀ j, j < n → Dy .f32 2 (qv (l.getD j none)) (o.getD j none)) ∧ i_SignsOf (n : Int) (n : Int) (tabM n n (cmpE l)) = some (true, o) := by
  have c0 : cmC n l 0 = 4 := rfl
  have cz : ∀ j, n < j → cmC n l j = 0 := fun j hj => by unfold cmC; rw [if_neg (by omega), if_neg (by omega)]
  have cl : ∀ j, (cmC n l j).natAbs ≤ 16 := fun j => by
    unfold cmC
    split
    · decide
    · split
      · exact qv_le _
      · decide
  have qd : ∀ j, j < n → Dy .f32 2 (cmC n l (j + 1)) (l.getD j none) := fun j hj => by
    unfold cmC
    rw [if_neg (by omega), if_pos (by omega), Nat.add_sub_cancel]
    exact qd_dy (h.vq _ (getD_mem (by rw [h.vlen]; exact hj)))
  have one : Dy .f32 2 4 (some 1065353216) := dy_fix (by decide) (by decide +kernel) (by decide) (by decide +kernel)
  have mL : Mat n n (tabM n n (cmpE l)) := tabM_mat (by omega) (by omega)
  have eL : ∀ r k, r < n → k < n → Dy .f32 2 (cA (cmC n l) r k) (gm none (tabM n n (cmpE l)) n r k) := fun r k hr hk => by
    rw [tabM_gm (by omega) (by omega) hr hk]
    unfold cmpE cA
    by_cases e : r = 0
    · rw [if_pos e, if_pos e]; exact dy_flip (qd k hk)
    · rw [if_neg e, if_neg e]
      by_cases e2 : r = k + 1
      · rw [if_pos e2, if_pos e2]; exact one
      · rw [if_neg e2, if_neg e2]; exact Dy.zero .f32 (by decide)
  generalize tabM n n (cmpE l) = L at *
  have gL : FOks L := fun x hx => by
    obtain ⟨r, k, hr, hk, rfl⟩ := mem_gm mL hx
    exact (eL r k hr hk).fok
  have fL : L.all fin32 = true := List.all_eq_true.2 fun x hx => by
    obtain ⟨r, k, hr, hk, rfl⟩ := mem_gm mL hx
    exact (eL r k hr hk).fin
  have I0 : CmpI n (cmC n l) 0 (L, []) := ⟨mL, fun r k hr hk => by rw [if_pos rfl, comp_one c0]; exact eL r k hr hk, rfl, fun j hj => absurd hj (Nat.not_lt_zero j)⟩
  have go : ∀ (m i : Nat) (s : SG), i + m = n → CmpI n (cmC n l) i s → SGInv n i s → ∃ o : List F, o.length = n ∧ (∀ j, j < n → Dy .f32 2 (cmC n l (j + 1)) (o.getD j none)) ∧ loopM (i_SignsOf_s7 (n : Int) (n : Int) L) (s.1, s.2, (n : Int), (n : Int), ((i + 1 : Nat) : Int)) = some (.inl o) := by
    intro m
    induction m with
    | zero =>
      intro i s hi hI hS
      have : i = n := by omega
      subst this
      refine ⟨s.2, hI.l, hI.o, loopM_out ?_⟩
      show i_SignsOf_b7 (i : Int) (i : Int) L s.1 s.2 (i : Int) (i : Int) ((i + 1 : Nat) : Int) = _
      unfold i_SignsOf_b7
      rw [decide_eq_false (by omega), bsel_false]
    | succ m ih =>
      intro i s hi hI hS
      obtain ⟨s', e1, e2⟩ := cmp_step hn c0 cz cl (by omega) mL eL hI
      have st := i_SignsOf_step mL gL hS (show i < n by omega)
      rw [e1] at st
      obtain ⟨o, o1, o2, o3⟩ := ih (i + 1) s' (by omega) e2 (sgStep_inv hS e1)
      exact ⟨o, o1, o2, by rw [loopM_next (s' := (s'.1, s'.2, (n : Int), (n : Int), ((i + 1 + 1 : Nat) : Int))) st, o3]⟩
  obtain ⟨o, o1, o2, o3⟩ := go n 0 (L, []) (by omega) I0 ⟨mL, gL, fun x hx => (by cases hx), rfl⟩
  have o3 : loopM (i_SignsOf_s7 (n : Int) (n : Int) L) (L, [], (n : Int), (n : Int), 1) = some (.inl o) := o3
  have fo : ∀ x ∈ o, FOk .f32 x ∧ fin32 x = true := fun x hx => by
    obtain ⟨i, hi, rfl⟩ := mem_getD hx
    have := o2 i (by omega)
    exact ⟨this.fok, this.fin⟩
  refine ⟨o, o1, fun j hj => ?_, ?_⟩
  · have := o2 j hj
    unfold cmC at this
    rw [if_neg (by omega), if_pos (by omega), Nat.add_sub_cancel] at this
    exact this
  · unfold i_SignsOf
    rw [i_isSquare_eq _ _ gL mL.le, mat_valid mL n0 n0, fL, decide_eq_true rfl, Bool.and_self, obind_eq, bsel_true, i_Matrix_clone_eq _ _ mL.le, obind3_eq, o3, obind_eq, osum_inl]
    unfold i_SignsOf_k7 i_allFinite_0o
    rw [i_areFinite_eq (fun x hx => (fo x hx).1) (by omega), List.all_eq_true.2 fun x hx => (fo x hx).2, obind_eq, bsel_true, obind_eq, osum_inl, obind2_eq, decide_eq_true rfl, need_true]
def dm (a b : F) : F := fop .add .f32 (some 0) (fop .mul .f32 a b)
def okz (x : F) : Bool := fin32 x && (decide (fop .add .f32 x (some 0) = x) && (decide (dm x (some 0) = some 0) && decide (dm (some 0) x = some 0)))
theorem okz_use {x : F} (h : okz x = true) : fin32 x = true ∧ fop .add .f32 x (some 0) = x ∧ dm x (some 0) = some 0 ∧ dm (some 0) x = some 0 := by
  unfold okz at h
  simp only [Bool.and_eq_true, decide_eq_true_eq] at h
  exact h
structure DG (n : Nat) (d : Nat → F) (L : List F) : Prop where
  m : Mat n n L
  e : ∀ i k, i < n → k < n → gm none L n i k = if i = k then d i else some 0
  z : ∀ i, i < n → okz (d i) = true ∧ FOk .f32 (d i)
theorem dg_all {n : Nat} {d : Nat → F} {L : List F} (h : DG n d L) : FOks L ∧ L.all fin32 = true := by
  refine ⟨fun x hx => ?_, List.all_eq_true.2 fun x hx => ?_⟩ <;> obtain ⟨i, k, hi, hk, rfl⟩ := mem_gm h.m hx <;> rw [h.e i k hi hk]
  · split
    · exact (h.z i hi).2
    · exact zero_ok
  · split
    · exact (okz_use (h.z i hi).1).1
    · decide
theorem dg_tab {n : Nat} {d : Nat → F} {K : Nat → Nat → F} (hn : n ≤ 12) (hK : ∀ i k, i < n → k < n → K i k = if i = k then d i else some 0) (hz : ∀ i, i < n → okz (d i) = true ∧ FOk .f32 (d i)) : DG n d (tabM n n K) :=
  ⟨tabM_mat hn hn, fun i k hi hk => by rw [tabM_gm hn hn hi hk]; exact hK i k hi hk, hz⟩
theorem dg_mulE {n : Nat} {d e : Nat → F} {L M : List F} (hL : DG n d L) (hM : DG n e M) (hz : ∀ i, i < n → okz (dm (d i) (e i)) = true) {i k : Nat} (hi : i < n) (hk : k < n) : mulE n n L M i k = if i = k then dm (d i) (e i) else some 0 := by
  unfold mulE dotN
  have z00 : fop .mul .f32 (some 0) (some 0) = some 0 := by decide +kernel
  have a00 : fop .add .f32 (some 0) (some 0) = some 0 := by decide +kernel
  have step : ∀ j, j < n → ∀ y, dotE (fun j => gm none L n i j) (fun j => gm none M n j k) j y = fop .add .f32 y (fop .mul .f32 (if i = j then d i else some 0) (if j = k then e j else some 0)) := fun j hj y => by
    unfold dotE
    dsimp only
    rw [hL.e i j hi hj, hM.e j k hj hk]
  have inv := run_inv (f := dotE (fun j => gm none L n i j) (fun j => gm none M n j k)) (fun q y => y = if i = k ∧ i < q then dm (d i) (e i) else some 0) n 0 (some 0) (by rw [if_neg (by omega)]) (fun j y _ hj hy => by
    have hj : j < n := by omega
    rw [step j hj]
    by_cases e1 : i = j
    · subst e1
      rw [if_pos rfl, hy, if_neg (by omega)]
      by_cases e2 : i = k
      · subst e2
        rw [if_pos rfl, if_pos ⟨rfl, by omega⟩]; rfl
      · rw [if_neg e2, if_neg (by omega)]
        exact (okz_use (hL.z i hi).1).2.2.1
    · rw [if_neg e1]
      by_cases e2 : j = k
      · subst e2
        rw [if_pos rfl, hy, if_neg (by omega), if_neg (by omega)]
        exact (okz_use (hM.z j hj).1).2.2.2
      · rw [if_neg e2, z00, hy]
        by_cases e3 : i = k ∧ i < j
        · rw [if_pos e3, if_pos ⟨e3.1, by omega⟩]
          exact (okz_use (hz i hi)).2.1
        · rw [if_neg e3, if_neg (by omega), a00])
  rw [inv]
  by_cases e : i = k
  · rw [if_pos ⟨e, by omega⟩, if_pos e]
  · rw [if_neg (by omega), if_neg e]
theorem dg_mul {n : Nat} {d e : Nat → F} {L M : List F} (n0 : 0 < n) (hL : DG n d L) (hM : DG n e M) (hz : ∀ i, i < n → okz (dm (d i) (e i)) = true) : ∃ R, DG n (fun i => dm (d i) (e i)) R ∧ i_MulMatrices (n : Int) (n : Int) L (n : Int) (n : Int) M = some ((n : Int), (n : Int), true, R) := by
  have hn := hL.m.A1
  have T : DG n (fun i => dm (d i) (e i)) (tabM n n (mulE n n L M)) := dg_tab hn (fun i k hi hk => dg_mulE hL hM hz hi hk) fun i hi => ⟨hz i hi, fop_fok _ _ _⟩
  refine ⟨_, T, ?_⟩
  rw [i_MulMatrices_eq hL.m hM.m (dg_all hL).1 (dg_all hM).1 n0 n0 n0]
  unfold mulQ
  rw [(dg_all hL).2, (dg_all hM).2, (dg_all T).2]; rfl
def absz (x : F) : Bool := decide (fop .add .f32 (some 0) (fabs32 x) = fabs32 x) && decide (fop .add .f32 (fabs32 x) (some 0) = fabs32 x)
theorem dg_row {n : Nat} {d : Nat → F} {L : List F} (h : DG n d L) {i : Nat} (hi : i < n) (hz : absz (d i) = true) : rowS L n i = fabs32 (d i) := by
  unfold absz at hz
  simp only [Bool.and_eq_true, decide_eq_true_eq] at hz
  have f0 : fabs32 (some 0) = some 0 := by decide +kernel
  have a00 : fop .add .f32 (some 0) (some 0) = some 0 := by decide +kernel
  have inv := run_inv (f := fun k s => fop .add .f32 s (fabs32 (gm none L n i k))) (fun q y => y = if i < q then fabs32 (d i) else some 0) n 0 (some 0) (by rw [if_neg (by omega)]) (fun j y _ hj hy => by
    have hj : j < n := by omega
    rw [h.e i j hi hj, hy]
    by_cases e : i = j
    · subst e
      rw [if_pos rfl, if_neg (by omega), if_pos (by omega)]; exact hz.1
    · rw [if_neg e, f0]
      by_cases e2 : i < j
      · rw [if_pos e2, if_pos (by omega)]; exact hz.2
      · rw [if_neg e2, if_neg (by omega), a00])
  unfold rowS
  rw [inv, if_pos (by omega)]
def vq (q : Int) : F := fop .quo .f32 (fop .quo .f32 (fint .f32 q) (some 1082130432)) (some 1073741824)
def vh : Nat → Int → F
  | 0, q => vq q
  | h + 1, q => fop .mul .f32 (some 1056964608) (vh h q)
def ints : List Int := (List.range 33).map fun k : Nat => (k : Int) - 16
theorem mem_ints {q : Int} (h : q.natAbs ≤ 16) : q ∈ ints := List.mem_map.2 ⟨(q + 16).toNat, List.mem_range.2 (by omega), by omega⟩
theorem vh_ok : ∀ h, h < 3 → ∀ q ∈ ints, okz (vh h q) = true ∧ absz (vh h q) = true ∧ fabs32 (vh h q) = vh h (q.natAbs : Int) := by decide +kernel
theorem vh_lt : ∀ h, h < 3 → ∀ a, a < 17 → (∀ b, b < 17 → flt .f32 (vh h ((a : Nat) : Int)) (vh h ((b : Nat) : Int)) = decide (a < b)) ∧ flt .f32 (some 1056964608) (vh h ((a : Nat) : Int)) = decide (4 * 2 ^ h < a) ∧ fin32 (vh h ((a : Nat) : Int)) = true ∧ vh h 0 = some 0 := by decide +kernel
theorem vh_fok (h : Nat) (q : Int) : FOk .f32 (vh h q) := by
  cases h <;> exact fop_fok _ _ _
def mx (q : Nat → Int) : Nat → Nat
  | 0 => 0
  | i + 1 => max (mx q i) (q i).natAbs
theorem mx_le {q : Nat → Int} : ∀ {n i : Nat}, i < n → (q i).natAbs ≤ mx q n
  | n + 1, i, h => by
    by_cases e : i = n
    · subst e; exact Nat.le_max_right _ _
    · exact Nat.le_trans (mx_le (n := n) (by omega)) (Nat.le_max_left _ _)
theorem mx_16 {q : Nat → Int} : ∀ {n : Nat}, (∀ i, i < n → (q i).natAbs ≤ 16) → mx q n ≤ 16
  | 0, _ => Nat.zero_le _
  | n + 1, h => Nat.max_le.2 ⟨mx_16 fun i hi => h i (by omega), h n (by omega)⟩
theorem dg_norm {n h : Nat} {q : Nat → Int} {L : List F} (hL : DG n (fun i => vh h (q i)) L) (hh : h < 3) (hq : ∀ i, i < n → (q i).natAbs ≤ 16) (n0 : 0 < n) : i_RowNorm (n : Int) (n : Int) L = some (vh h ((mx q n : Nat) : Int), true) := by
  have g := (dg_all hL).1
  have f := (dg_all hL).2
  have key : ∀ m, m ≤ n → run (fun i s => bif flt .f32 s (rowS L n i) then rowS L n i else s) 0 m (some 0) = vh h ((mx q m : Nat) : Int) := by
    intro m
    induction m with
    | zero => intro _; exact ((vh_lt h hh 0 (by decide)).2.2.2).symm
    | succ m ih =>
      intro hm
      have hmn : m < n := by omega
      obtain ⟨_, v2, v3⟩ := vh_ok h hh (q m) (mem_ints (hq m hmn))
      rw [run_last, Nat.zero_add, ih (by omega), dg_row hL hmn v2, v3]
      have b1 : mx q m ≤ 16 := mx_16 fun i hi => hq i (by omega)
      have b2 := hq m hmn
      rw [(vh_lt h hh (mx q m) (by omega)).1 _ (by omega)]
      by_cases e : mx q m < (q m).natAbs
      · rw [decide_eq_true e, cond_true]
        show _ = vh h ((max (mx q m) (q m).natAbs : Nat) : Int)
        rw [Nat.max_eq_right (by omega)]
      · rw [decide_eq_false e, cond_false]
        show _ = vh h ((max (mx q m) (q m).natAbs : Nat) : Int)
        rw [Nat.max_eq_left (by omega)]
  have nr : normR L n n = vh h ((mx q n : Nat) : Int) := key n (Nat.le_refl _)
  have fin := (vh_lt h hh (mx q n) (by have := mx_16 hq; omega)).2.2.1
  unfold i_RowNorm i_finite
  rw [i_ValidMatrix_eq _ _ g hL.m.le, mat_valid hL.m n0 n0, f, obind_eq, bsel_true, i_rowNorm_eq hL.m g f, obind_eq, nr, i_IsFinite_eq (vh_fok _ _), fin, obind_eq, bsel_true, obind2_eq]
theorem exp_half {n : Nat} {q : Nat → Int} (n0 : 0 < n) (hq : ∀ i, i < n → (q i).natAbs ≤ 16) : ∀ (m h : Nat) (L : List F), h + m = 2 → DG n (fun i => vh h (q i)) L →
    ∃ (h' : Nat) (L' : List F), h' < 3 ∧ mx q n ≤ 4 * 2 ^ h' ∧ DG n (fun i => vh h' (q i)) L' ∧ loopM i_ExpMatrix_s1 ((n : Int), (n : Int), L, (h : Int)) = some (.inl ((n : Int), (n : Int), L', (h' : Int))) := by
  intro m
  induction m with
  | zero =>
    intro h L hm hL
    have : h = 2 := by omega
    subst this
    have b := mx_16 hq
    refine ⟨2, L, by decide, by omega, hL, loopM_out ?_⟩
    show i_ExpMatrix_b1 (n : Int) (n : Int) L ((2 : Nat) : Int) = _
    unfold i_ExpMatrix_b1
    rw [dg_norm hL (by decide) hq n0, obind2_eq, bsel_true, (vh_lt 2 (by decide) (mx q n) (by omega)).2.1, decide_eq_false (by omega), bsel_false]
  | succ m ih =>
    intro h L hm hL
    have b := mx_16 hq
    have hn := hL.m.A1
    by_cases e : 4 * 2 ^ h < mx q n
    · have T : DG n (fun i => vh (h + 1) (q i)) (tabM n n fun i k => fop .mul .f32 (some 1056964608) (gm none L n i k)) := dg_tab hn (fun i k hi hk => by
        rw [hL.e i k hi hk]
        by_cases e2 : i = k
        · rw [if_pos e2, if_pos e2]; rfl
        · rw [if_neg e2, if_neg e2]; decide +kernel) fun i hi => ⟨(vh_ok (h + 1) (by omega) (q i) (mem_ints (hq i hi))).1, vh_fok _ _⟩
      obtain ⟨h', L', a1, a2, a3, a4⟩ := ih (h + 1) _ (by omega) T
      refine ⟨h', L', a1, a2, a3, ?_⟩
      rw [loopM_next (s' := ((n : Int), (n : Int), tabM n n fun i k => fop .mul .f32 (some 1056964608) (gm none L n i k), ((h + 1 : Nat) : Int))), a4]
      show i_ExpMatrix_b1 (n : Int) (n : Int) L (h : Int) = _
      unfold i_ExpMatrix_b1
      rw [dg_norm hL (by omega) hq n0, obind2_eq, bsel_true, (vh_lt h (by omega) (mx q n) (by omega)).2.1, decide_eq_true e, bsel_true, decide_eq_false (by omega), bsel_false, i_made_2Fi_ExpMatrix_1_mk hn hn (n : Int) (n : Int) L (K := fun i k => fop .mul .f32 (some 1056964608) (gm none L n i k)) (fun i k hi hk => by
        unfold i_ExpMatrix_1
        rw [i_Matrix_at_eq _ hL.m hi hk, obind_eq, i_mul_eq, obind_eq]), obind3_eq, wsucc (by omega), olet_eq]
    · refine ⟨h, L, by omega, by omega, hL, loopM_out ?_⟩
      show i_ExpMatrix_b1 (n : Int) (n : Int) L (h : Int) = _
      unfold i_ExpMatrix_b1
      rw [dg_norm hL (by omega) hq n0, obind2_eq, bsel_true, (vh_lt h (by omega) (mx q n) (by omega)).2.1, decide_eq_false e, bsel_false]
def tk (a : F) : Nat → F
  | 0 => some 1065353216
  | k + 1 => fop .quo .f32 (dm (tk a k) a) (fint .f32 ((k + 1 : Nat) : Int))
def sk (a : F) : Nat → F
  | 0 => some 1065353216
  | k + 1 => fop .add .f32 (sk a k) (tk a (k + 1))
def sqk (x : F) : Nat → F
  | 0 => x
  | k + 1 => dm (sqk x k) (sqk x k)
def serB (a : F) (t : Nat) : Bool := (List.range (t + 1)).all fun k => okz (tk a k) && (okz (sk a k) && okz (dm (tk a k) a))
def sqB (x : F) (h : Nat) : Bool := (List.range (h + 1)).all fun k => okz (sqk x k)
theorem tk_fok (a : F) (k : Nat) : FOk .f32 (tk a k) := by
  cases k with
  | zero => exact one_fv.1.fok
  | succ k => exact fop_fok _ _ _
theorem sk_fok (a : F) (k : Nat) : FOk .f32 (sk a k) := by
  cases k with
  | zero => exact one_fv.1.fok
  | succ k => exact fop_fok _ _ _
theorem serB_at {a : F} {t : Nat} (h : serB a t = true) {k : Nat} (hk : k ≤ t) : okz (tk a k) = true ∧ okz (sk a k) = true ∧ okz (dm (tk a k) a) = true := by
  have := List.all_eq_true.1 h k (List.mem_range.2 (by omega))
  simp only [Bool.and_eq_true] at this
  exact this
theorem dg_unit {n : Nat} (hn : n ≤ 12) : DG n (fun _ => some 1065353216) (tabM n n unitF) := dg_tab hn (fun i k hi hk => by
  unfold unitF
  by_cases e : i = k
  · rw [decide_eq_true e, if_pos e]; rfl
  · rw [decide_eq_false e, if_neg e]; rfl) fun i _ => ⟨by decide +kernel, one_fv.1.fok⟩
theorem zero_quo : ∀ k, k < 32 → fop .quo .f32 (some 0) (fint .f32 ((k + 1 : Nat) : Int)) = some 0 := by decide +kernel
theorem exp_series {n : Nat} {a : Nat → F} {A : List F} {t : Nat} (n0 : 0 < n) (ht : t ≤ 32) (hA : DG n a A) (hz : ∀ i, i < n → serB (a i) t = true) : ∀ (m k : Nat) (S T : List F), k + m = t → DG n (fun i => sk (a i) k) S → DG n (fun i => tk (a i) k) T →
    ∃ S', DG n (fun i => sk (a i) t) S' ∧ loopM (i_ExpMatrix_s2 (t : Int) (n : Int) (n : Int) A) ((n : Int), (n : Int), S, (n : Int), (n : Int), T, ((k + 1 : Nat) : Int)) = some (.inl ((n : Int), (n : Int), S')) := by
  intro m
  have hn := hA.m.A1
  induction m with
  | zero =>
    intro k S T hk hS hT
    have : k = t := by omega
    subst this
    refine ⟨S, hS, loopM_out ?_⟩
    show i_ExpMatrix_b2 (k : Int) (n : Int) (n : Int) A (n : Int) (n : Int) S (n : Int) (n : Int) T ((k + 1 : Nat) : Int) = _
    unfold i_ExpMatrix_b2
    rw [decide_eq_false (by omega), bsel_false]
  | succ m ih =>
    intro k S T hk hS hT
    obtain ⟨R, hR, eR⟩ := dg_mul n0 hT hA fun i hi => (serB_at (hz i hi) (k := k) (by omega)).2.2
    have hT' : DG n (fun i => tk (a i) (k + 1)) (tabM n n fun i j => fop .quo .f32 (gm none R n i j) (fint .f32 ((k + 1 : Nat) : Int))) := dg_tab hn (fun i j hi hj => by
      rw [hR.e i j hi hj]
      by_cases e : i = j
      · rw [if_pos e, if_pos e]; rfl
      · rw [if_neg e, if_neg e]; exact zero_quo k (by omega)) fun i hi => ⟨(serB_at (hz i hi) (k := k + 1) (by omega)).1, tk_fok _ _⟩
    have hS' : DG n (fun i => sk (a i) (k + 1)) (tabM n n fun i j => fop .add .f32 (gm none S n i j) (gm none (tabM n n fun i j => fop .quo .f32 (gm none R n i j) (fint .f32 ((k + 1 : Nat) : Int))) n i j)) := dg_tab hn (fun i j hi hj => by
      rw [hS.e i j hi hj, hT'.e i j hi hj]
      by_cases e : i = j
      · rw [if_pos e, if_pos e, if_pos e]; rfl
      · rw [if_neg e, if_neg e, if_neg e]; decide +kernel) fun i hi => ⟨(serB_at (hz i hi) (k := k + 1) (by omega)).2.1, sk_fok _ _⟩
    obtain ⟨S', s1, s2⟩ := ih (k + 1) _ _ (by omega) hS' hT'
    refine ⟨S', s1, ?_⟩
    rw [loopM_next (s' := ((n : Int), (n : Int), tabM n n fun i j => fop .add .f32 (gm none S n i j) (gm none (tabM n n fun i j => fop .quo .f32 (gm none R n i j) (fint .f32 ((k + 1 : Nat) : Int))) n i j), (n : Int), (n : Int), tabM n n fun i j => fop .quo .f32 (gm none R n i j) (fint .f32 ((k + 1 : Nat) : Int)), ((k + 1 + 1 : Nat) : Int))), s2]
    show i_ExpMatrix_b2 (t : Int) (n : Int) (n : Int) A (n : Int) (n : Int) S (n : Int) (n : Int) T ((k + 1 : Nat) : Int) = _
    unfold i_ExpMatrix_b2
    have v := dg_all hS'
    rw [decide_eq_true (by omega), bsel_true, eR, obind4_eq, bsel_true, i_made_2Fi_ExpMatrix_2_mk hn hn (n : Int) (n : Int) R ((k + 1 : Nat) : Int) (K := fun i j => fop .quo .f32 (gm none R n i j) (fint .f32 ((k + 1 : Nat) : Int))) (fun i j hi hj => by
        unfold i_ExpMatrix_2
        rw [i_Matrix_at_eq _ hR.m hi hj, obind_eq, olet_eq, olet_eq]), obind3_eq,
      i_made_2Fi_ExpMatrix_3_mk hn hn (n : Int) (n : Int) S (n : Int) (n : Int) _ (K := fun i j => fop .add .f32 (gm none S n i j) (gm none (tabM n n fun i j => fop .quo .f32 (gm none R n i j) (fint .f32 ((k + 1 : Nat) : Int))) n i j)) (fun i j hi hj => by
        unfold i_ExpMatrix_3
        rw [i_Matrix_at_eq _ hS.m hi hj, obind_eq, i_Matrix_at_eq _ hT'.m hi hj, obind_eq, olet_eq]), obind3_eq,
      i_ValidMatrix_eq _ _ v.1 hS'.m.le, mat_valid hS'.m n0 n0, v.2, obind_eq, bsel_true, wsucc (by omega), olet_eq]
theorem exp_square {n : Nat} {x : Nat → F} {h : Nat} (n0 : 0 < n) (hh : h ≤ 64) (hz : ∀ i, i < n → sqB (x i) h = true) : ∀ (m k : Nat) (X : List F), k + m = h → DG n (fun i => sqk (x i) k) X →
    ∃ X', DG n (fun i => sqk (x i) h) X' ∧ loopM (i_ExpMatrix_s3 (h : Int)) ((n : Int), (n : Int), X, (k : Int)) = some (.inl ((n : Int), (n : Int), X')) := by
  intro m
  induction m with
  | zero =>
    intro k X hk hX
    have : k = h := by omega
    subst this
    refine ⟨X, hX, loopM_out ?_⟩
    show i_ExpMatrix_b3 (k : Int) (n : Int) (n : Int) X (k : Int) = _
    unfold i_ExpMatrix_b3
    rw [decide_eq_false (by omega), bsel_false]
  | succ m ih =>
    intro k X hk hX
    obtain ⟨R, hR, eR⟩ := dg_mul n0 hX hX fun i hi => List.all_eq_true.1 (hz i hi) (k + 1) (List.mem_range.2 (by omega))
    obtain ⟨X', x1, x2⟩ := ih (k + 1) R (by omega) hR
    refine ⟨X', x1, ?_⟩
    rw [loopM_next (s' := ((n : Int), (n : Int), R, ((k + 1 : Nat) : Int))), x2]
    show i_ExpMatrix_b3 (h : Int) (n : Int) (n : Int) X (k : Int) = _
    unfold i_ExpMatrix_b3
    rw [decide_eq_true (by omega), bsel_true, eR, obind4_eq, bsel_true, wsucc (by omega), olet_eq]
def expD (h t : Nat) (q : Int) : F := sqk (sk (vh h q) t) h
theorem exp_dg {n t : Nat} {q : Nat → Int} {L : List F} (n0 : 0 < n) (t1 : 1 ≤ t) (ht : t ≤ 32) (hq : ∀ i, i < n → (q i).natAbs ≤ 16) (hL : DG n (fun i => vq (q i)) L) (hz : ∀ h, h < 3 → ∀ i, i < n → (q i).natAbs ≤ 4 * 2 ^ h → serB (vh h (q i)) t = true ∧ sqB (sk (vh h (q i)) t) h = true) :
    ∃ (h : Nat) (S : List F), h < 3 ∧ (∀ i, i < n → (q i).natAbs ≤ 4 * 2 ^ h) ∧ DG n (fun i => expD h t (q i)) S ∧ i_ExpMatrix (n : Int) (n : Int) L (t : Int) = some (Sum.inr ((n : Int), (n : Int), S, true)) := by
  have hn := hL.m.A1
  obtain ⟨h, A, a1, a2, a3, a4⟩ := exp_half n0 hq 2 0 L (by decide) hL
  have le : ∀ i, i < n → (q i).natAbs ≤ 4 * 2 ^ h := fun i hi => Nat.le_trans (mx_le hi) a2
  obtain ⟨S, s1, s2⟩ := exp_series (t := t) n0 ht a3 (fun i hi => (hz h a1 i hi (le i hi)).1) t 0 _ _ (by omega) (dg_unit hn) (dg_unit hn)
  obtain ⟨X, x1, x2⟩ := exp_square (x := fun i => sk (vh h (q i)) t) n0 (by omega) (fun i hi => (hz h a1 i hi (le i hi)).2) h 0 S (by omega) s1
  refine ⟨h, X, a1, le, x1, ?_⟩
  have a4 : loopM i_ExpMatrix_s1 ((n : Int), (n : Int), L, 0) = _ := a4
  have s2 : loopM (i_ExpMatrix_s2 (t : Int) (n : Int) (n : Int) A) ((n : Int), (n : Int), tabM n n unitF, (n : Int), (n : Int), tabM n n unitF, 1) = _ := s2
  have x2 : loopM (i_ExpMatrix_s3 (h : Int)) ((n : Int), (n : Int), S, 0) = _ := x2
  have g := dg_all hL
  unfold i_ExpMatrix
  rw [i_isSquare_eq _ _ g.1 hL.m.le, mat_valid hL.m n0 n0, g.2, decide_eq_true rfl, Bool.and_self, obind_eq, bsel_true, i_inRange_eq, decide_eq_true (by omega), decide_eq_true (by omega), Bool.and_self, obind_eq, bsel_true, a4, obind_eq, osum_inl]
  unfold i_ExpMatrix_k1
  rw [i_unit_eq hn, obind3_eq, obind3_eq, s2, obind_eq, osum_inl]
  unfold i_ExpMatrix_k2
  rw [x2, obind_eq, osum_inl]
  rfl
theorem exp_chk : ∀ h, h < 3 → ∀ q ∈ ints, q.natAbs ≤ 4 * 2 ^ h → serB (vh h q) 12 = true ∧ sqB (sk (vh h q) 12) h = true := by decide +kernel
theorem exp_none : ∀ h, h < 3 → serB (vh h 0) 5 = true ∧ sqB (sk (vh h 0) 5) h = true ∧ expD h 5 0 = some 1065353216 := by decide +kernel
theorem dg_weigh {n : Nat} {d e : Nat → F} {L M : List F} {x y : F} (n0 : 0 < n) (hL : DG n d L) (hM : DG n e M) (hx : FOk .f32 x ∧ fin32 x = true) (hy : FOk .f32 y ∧ fin32 y = true) (z0 : fop .add .f32 (fop .mul .f32 x (some 0)) (fop .mul .f32 y (some 0)) = some 0) (hz : ∀ i, i < n → okz (fop .add .f32 (fop .mul .f32 x (d i)) (fop .mul .f32 y (e i))) = true) :
    ∃ R, DG n (fun i => fop .add .f32 (fop .mul .f32 x (d i)) (fop .mul .f32 y (e i))) R ∧ i_WeighMatrices (n : Int) (n : Int) L (n : Int) (n : Int) M x y = some ((n : Int), (n : Int), true, R) := by
  have hn := hL.m.A1
  have T : DG n (fun i => fop .add .f32 (fop .mul .f32 x (d i)) (fop .mul .f32 y (e i))) (tabM n n fun i k => fop .add .f32 (fop .mul .f32 x (gm none L n i k)) (fop .mul .f32 y (gm none M n i k))) := dg_tab hn (fun i k hi hk => by
    rw [hL.e i k hi hk, hM.e i k hi hk]
    by_cases h : i = k
    · rw [if_pos h, if_pos h, if_pos h]
    · rw [if_neg h, if_neg h, if_neg h, z0]) fun i hi => ⟨hz i hi, fop_fok _ _ _⟩
  refine ⟨_, T, ?_⟩
  have g := dg_all hL
  have k := dg_all hM
  have t := dg_all T
  unfold i_WeighMatrices i_weigh
  rw [i_ValidMatrix_eq _ _ g.1 hL.m.le, mat_valid hL.m n0 n0, g.2, obind_eq, bsel_true, i_ValidMatrix_eq _ _ k.1 hM.m.le, mat_valid hM.m n0 n0, k.2, obind_eq, bsel_true, decide_eq_true rfl, Bool.not_true, bsel_false, bsel_false, i_areFinite_two hx.1 hy.1, hx.2, hy.2, Bool.and_self, obind_eq, bsel_true,
    i_made_2Fi_weigh_1_mk hn hn _ _ _ _ _ _ _ _ (K := fun i k => fop .add .f32 (fop .mul .f32 x (gm none L n i k)) (fop .mul .f32 y (gm none M n i k))) (fun i k hi hk => by
    unfold i_weigh_1
    rw [i_Matrix_at_eq _ hL.m hi hk, obind_eq, i_mul_eq, obind_eq, i_Matrix_at_eq _ hM.m hi hk, obind_eq, i_mul_eq, obind_eq, olet_eq]), obind3_eq, obind3_eq, valid_q T.m t.1 t.2 n0 n0, obind_eq, osum_inl, obind4_eq, decide_eq_true rfl, need_true]
theorem dg_flip {n : Nat} {d : Nat → F} {L : List F} (h : DG n d L) : DG n d (flipM n L) := ⟨flipM_mat h.m.A1, fun i k hi hk => by
  rw [flipM_gm h.m.A1 hi hk, h.e k i hk hi]
  by_cases e : i = k
  · subst e; rw [if_pos rfl]
  · rw [if_neg (Ne.symm e), if_neg e], h.z⟩
def px0 (n : Nat) : F := fop .quo .f32 (some 1077936128) (rootN (fint .f32 ((9 * n : Nat) : Int)))
def pStep (x : F) : F := fop .add .f32 (fop .mul .f32 (some 1069547520) x) (fop .mul .f32 (some 3204448256) (dm x (dm x x)))
def px (n : Nat) : Nat → F
  | 0 => px0 n
  | k + 1 => pStep (px n k)
def pxB (n : Nat) : Bool := fin32 (rootN (fint .f32 ((9 * n : Nat) : Int))) && (flt .f32 (some 0) (rootN (fint .f32 ((9 * n : Nat) : Int))) && (decide (fop .quo .f32 (some 0) (rootN (fint .f32 ((9 * n : Nat) : Int))) = some 0) && (List.range 21).all fun k => okz (px n k) && (okz (dm (px n k) (px n k)) && okz (dm (px n k) (dm (px n k) (px n k))))))
theorem px_chk : ∀ n, n < 5 → 0 < n → pxB n = true := by decide +kernel
theorem px_fok (n k : Nat) : FOk .f32 (px n k) := by
  cases k with
  | zero => unfold px px0; exact fop_fok _ _ _
  | succ k => unfold px pStep; exact fop_fok _ _ _
theorem dg_three {n : Nat} {L : List F} (n0 : 0 < n) (n4 : n < 5) (h : DG n (fun _ => some 1077936128) L) : dotL L L = fint .f32 ((9 * n : Nat) : Int) := by
  have three : Dy .f32 0 3 (some 1077936128) := dy_fix (by decide) (by decide +kernel) (by decide) (by decide +kernel)
  have hl := h.m.len
  have at_ : ∀ p, p < n * n → Dy .f32 0 (if p / n = p % n then 3 else 0) (L.getD p none) := fun p hp => by
    have hi : p / n < n := (Nat.div_lt_iff_lt_mul n0).2 hp
    have hk := Nat.mod_lt p n0
    rw [← getD_gm (A := n) (C := n), h.e _ _ hi hk]
    by_cases e : p / n = p % n
    · rw [if_pos e, if_pos e]; exact three
    · rw [if_neg e, if_neg e]; exact Dy.zero .f32 (by decide)
  have d := dotN_dy (s := 0) (t := 0) (B := 9) (f := fun j => L.getD j none) (g := fun j => L.getD j none) (p := fun p => if p / n = p % n then 3 else 0) (q := fun p => if p / n = p % n then 3 else 0) (by decide) (n * n) (fun j hj => ⟨at_ j hj, at_ j hj, by by_cases e : j / n = j % n <;> simp [e]⟩) (by
    have : n * n ≤ 4 * 4 := Nat.mul_le_mul (by omega) (by omega)
    omega)
  have s : isum (fun j => (if j / n = j % n then (3 : Int) else 0) * (if j / n = j % n then 3 else 0)) (n * n) = ((9 * n : Nat) : Int) := by
    have : n = 1 ∨ n = 2 ∨ n = 3 ∨ n = 4 := by omega
    rcases this with rfl | rfl | rfl | rfl <;> decide +kernel
  have d : Dy .f32 0 (isum (fun j => (if j / n = j % n then (3 : Int) else 0) * (if j / n = j % n then 3 else 0)) (n * n)) (dotN (fun j => L.getD j none) (fun j => L.getD j none) (n * n)) := d
  rw [s] at d
  unfold dotL
  rw [hl]
  have hd : (2 : Nat) ^ dgn .f32 = 16777216 := by decide
  exact Dy.inj d (Dy.int (by omega)) (by omega)
theorem polar_go {n : Nat} (n0 : 0 < n) (n4 : n < 5) : ∀ (m k : Nat) (X : List F), k + m = 20 → DG n (fun _ => px n k) X → ∃ X', DG n (fun _ => px n 20) X' ∧ loopM (i_PolarPart_s4 20) (X, (n : Int), (n : Int), true, (k : Int)) = some (.inl (X', (n : Int), (n : Int), true)) := by
  have ck := px_chk n n4 n0
  unfold pxB at ck
  simp only [Bool.and_eq_true, decide_eq_true_eq] at ck
  obtain ⟨_, _, _, ck⟩ := ck
  have at_ : ∀ k, k < 21 → okz (px n k) = true ∧ okz (dm (px n k) (px n k)) = true ∧ okz (dm (px n k) (dm (px n k) (px n k))) = true := fun k hk => by
    have := List.all_eq_true.1 ck k (List.mem_range.2 hk)
    simp only [Bool.and_eq_true] at this
    exact this
  intro m
  induction m with
  | zero =>
    intro k X hk hX
    have : k = 20 := by omega
    subst this
    refine ⟨X, hX, loopM_out ?_⟩
    show i_PolarPart_b4 20 X (n : Int) (n : Int) true ((20 : Nat) : Int) = _
    unfold i_PolarPart_b4
    rw [decide_eq_false (by omega), bsel_false]
  | succ m ih =>
    intro k X hk hX
    obtain ⟨c1, c2, c3⟩ := at_ k (by omega)
    obtain ⟨S, hS, eS⟩ := dg_mul n0 (dg_flip hX) hX fun i hi => c2
    obtain ⟨C, hC, eC⟩ := dg_mul n0 hX hS fun i hi => c3
    obtain ⟨W, hW, eW⟩ := dg_weigh (x := some 1069547520) (y := some 3204448256) n0 hX hC ⟨(dy_fix (n := 3) (s := 1) (by decide) (by decide +kernel) (by decide) (by decide +kernel)).fok, by decide +kernel⟩ ⟨(dy_fix (n := -1) (s := 1) (by decide) (by decide +kernel) (by decide) (by decide +kernel)).fok, by decide +kernel⟩ (by decide +kernel) fun i hi => (at_ (k + 1) (by omega)).1
    obtain ⟨X', x1, x2⟩ := ih (k + 1) W (by omega) hW
    refine ⟨X', x1, ?_⟩
    rw [loopM_next (s' := (W, (n : Int), (n : Int), true, ((k + 1 : Nat) : Int))), x2]
    show i_PolarPart_b4 20 X (n : Int) (n : Int) true (k : Int) = _
    unfold i_PolarPart_b4 i_PolarPart_k3
    rw [decide_eq_true (by omega), bsel_true, bsel_true, i_Matrix_flip_eq hX.m, obind3_eq, eS, obind4_eq, bsel_true, eC, obind4_eq, bsel_true, eW, obind4_eq, bsel_true, wsucc (by omega), olet_eq]
theorem polar_dg {n : Nat} {L : List F} (n0 : 0 < n) (n4 : n < 5) (h : DG n (fun _ => some 1077936128) L) : ∃ X, DG n (fun _ => px n 20) X ∧ i_PolarPart (n : Int) (n : Int) L 20 = some ((n : Int), (n : Int), true, X) := by
  have hn := h.m.A1
  have g := dg_all h
  have ck := px_chk n n4 n0
  unfold pxB at ck
  simp only [Bool.and_eq_true, decide_eq_true_eq] at ck
  obtain ⟨k1, k2, k3, ck⟩ := ck
  have nm : normL L = rootN (fint .f32 ((9 * n : Nat) : Int)) := by unfold normL; rw [dg_three n0 n4 h]
  have hd : (2 : Nat) ^ dgn .f32 = 16777216 := by decide
  have fr : FOk .f32 (rootN (fint .f32 ((9 * n : Nat) : Int))) := rootN_ok (Dy.int (k := .f32) (by omega)).fok
  generalize hr : rootN (fint .f32 ((9 * n : Nat) : Int)) = r at *
  have T : DG n (fun _ => px n 0) (tabM n n fun i k => fop .quo .f32 (gm none L n i k) r) := dg_tab hn (fun i k hi hk => by
    rw [h.e i k hi hk]
    by_cases e : i = k
    · rw [if_pos e, if_pos e, ← hr]; rfl
    · rw [if_neg e, if_neg e]; exact k3) fun i hi => ⟨by
      have := List.all_eq_true.1 ck 0 (List.mem_range.2 (by decide))
      simp only [Bool.and_eq_true] at this
      exact this.1, px_fok _ _⟩
  obtain ⟨X, x1, x2⟩ := polar_go n0 n4 20 0 _ (by decide) T
  have x2 : loopM (i_PolarPart_s4 20) (tabM n n fun i k => fop .quo .f32 (gm none L n i k) r, (n : Int), (n : Int), true, 0) = _ := x2
  refine ⟨X, x1, ?_⟩
  have t := dg_all T
  unfold i_PolarPart i_isRounds i_WholeNorm i_finite
  rw [i_isSquare_eq _ _ g.1 h.m.le, mat_valid h.m n0 n0, g.2, decide_eq_true rfl, Bool.and_self, obind_eq, bsel_true, i_inRange_eq, decide_eq_true (by decide), decide_eq_true (by decide), Bool.and_self, obind_eq, obind_eq, bsel_true, i_ValidMatrix_eq _ _ g.1 h.m.le, mat_valid h.m n0 n0, g.2, obind_eq, bsel_true, i_norm_eq (by have := h.m.small; omega), nm, obind_eq, i_IsFinite_eq fr, k1, obind_eq, bsel_true, obind2_eq, obind2_eq, bsel_true, k2, bsel_true,
    i_made_2Fi_PolarPart_1_mk hn hn (n : Int) (n : Int) L r (K := fun i k => fop .quo .f32 (gm none L n i k) r) (fun i k hi hk => by
      unfold i_PolarPart_1
      rw [i_Matrix_at_eq _ h.m hi hk, obind_eq, olet_eq]), obind3_eq, valid_q T.m t.1 t.2 n0 n0, obind_eq, osum_inl, obind4_eq, decide_eq_true rfl, need_true, bsel_true, x2, obind_eq, osum_inl]
  rfl
def exh (x : F) : Nat → F → F
  | 0, y => y
  | m + 1, y => exh x m (fop .add .f64 (some 4607182418800017408) (fop .quo .f64 (fop .mul .f64 x y) (fint .f64 ((m + 1 : Nat) : Int))))
def exq : Nat → F → F
  | 0, y => y
  | m + 1, y => exq m (fop .mul .f64 y y)
def expn (m : F) : Option F := fnarrow (exq 8 (exh (fop .quo .f64 (fwiden m) (some 4643211215818981376)) 12 (some 4607182418800017408)))
theorem exh_loop (x : F) : ∀ (m : Nat) (y : F), m ≤ 12 → loopM (i_ExpNumber_s1 x) (y, (m : Int)) = some (.inl (exh x m y))
  | 0, y, _ => by
    refine loopM_out ?_
    show i_ExpNumber_b1 x y ((0 : Nat) : Int) = _
    unfold i_ExpNumber_b1
    rw [decide_eq_false (by omega), bsel_false]; rfl
  | m + 1, y, hm => by
    rw [loopM_next (s' := (fop .add .f64 (some 4607182418800017408) (fop .quo .f64 (fop .mul .f64 x y) (fint .f64 ((m + 1 : Nat) : Int))), (m : Int))), exh_loop x m _ (by omega)]
    · rfl
    · show i_ExpNumber_b1 x y ((m + 1 : Nat) : Int) = _
      unfold i_ExpNumber_b1 i_mul64
      rw [decide_eq_true (by omega), bsel_true, olet_eq, obind_eq, olet_eq, olet_eq, olet_eq, wi64 (by omega) (by omega), olet_eq, show ((m + 1 : Nat) : Int) - 1 = (m : Int) from by omega]
theorem exq_loop : ∀ (m i : Nat) (y : F), i + m = 8 → loopM i_ExpNumber_s2 (y, (i : Int)) = some (.inl (exq m y))
  | 0, i, y, h => by
    have : i = 8 := by omega
    subst this
    refine loopM_out ?_
    show i_ExpNumber_b2 y ((8 : Nat) : Int) = _
    unfold i_ExpNumber_b2
    rw [decide_eq_false (by omega), bsel_false]; rfl
  | m + 1, i, y, h => by
    rw [loopM_next (s' := (fop .mul .f64 y y, ((i + 1 : Nat) : Int))), exq_loop m (i + 1) _ (by omega)]
    · rfl
    · show i_ExpNumber_b2 y (i : Int) = _
      unfold i_ExpNumber_b2 i_mul64
      rw [decide_eq_true (by omega), bsel_true, olet_eq, obind_eq, wsucc (by omega), olet_eq]
theorem i_ExpNumber_fv {m r : F} (h1 : flt .f32 (some 1128792064) m = false) (h2 : flt .f32 m (some 3276275712) = false) (hr : expn m = some r) : i_ExpNumber m = some r := by
  have e1 : loopM (i_ExpNumber_s1 (fop .quo .f64 (fwiden m) (some 4643211215818981376))) (some 4607182418800017408, 12) = _ := exh_loop (fop .quo .f64 (fwiden m) (some 4643211215818981376)) 12 (some 4607182418800017408) (Nat.le_refl _)
  have e2 : ∀ y, loopM i_ExpNumber_s2 (y, 0) = some (.inl (exq 8 y)) := fun y => exq_loop 8 0 y rfl
  unfold i_ExpNumber
  rw [h1, bsel_false, h2, bsel_false, olet_eq, olet_eq, e1, obind_eq, osum_inl]
  unfold i_ExpNumber_k1
  rw [e2, obind_eq, osum_inl]
  unfold i_ExpNumber_k2
  unfold expn at hr
  rw [hr, obind_eq]
def gapB (s m : F) : Bool := (!flt .f32 (some 1128792064) m && !flt .f32 m (some 3276275712)) && match expn m with
  | none => false
  | some r => match fmaxN .f64 (fop .sub .f64 (fwiden s) (fwiden r)) (fop .sub .f64 (fwiden r) (fwiden s)) with
    | none => false
    | some g => !flt .f64 (fop .mul .f64 (some 4576918229304087675) (fop .add .f64 (some 4607182418800017408) (fwiden r))) g
theorem gap_chk : ∀ h, h < 3 → ∀ q ∈ ints, q.natAbs ≤ 4 * 2 ^ h → gapB (expD h 12 q) (vq q) = true := by decide +kernel
theorem gap_use {s m : F} (h : gapB s m = true) : ∃ r g, i_ExpNumber m = some r ∧ w_r8Gap (fwiden s) (fwiden r) = some g ∧ flt .f64 (fop .mul .f64 (some 4576918229304087675) (fop .add .f64 (some 4607182418800017408) (fwiden r))) g = false := by
  unfold gapB at h
  simp only [Bool.and_eq_true, Bool.not_eq_true'] at h
  obtain ⟨⟨h1, h2⟩, h3⟩ := h
  cases hr : expn m with
  | none => rw [hr] at h3; cases h3
  | some r =>
    rw [hr] at h3
    dsimp only at h3
    cases hg : fmaxN .f64 (fop .sub .f64 (fwiden s) (fwiden r)) (fop .sub .f64 (fwiden r) (fwiden s)) with
    | none => rw [hg] at h3; cases h3
    | some g =>
      rw [hg] at h3
      dsimp only at h3
      refine ⟨r, g, i_ExpNumber_fv h1 h2 hr, ?_, by simpa using h3⟩
      unfold w_r8Gap
      rw [olet_eq, olet_eq, hg, obind_eq]
def gap2B (c : Nat) (a b : F) : Bool := match fmaxN .f64 (fop .sub .f64 (fwiden a) (fwiden b)) (fop .sub .f64 (fwiden b) (fwiden a)) with
  | none => false
  | some g => !flt .f64 (some c) g
theorem gap2_use {c : Nat} {a b : F} (h : gap2B c a b = true) : ∃ g, w_r8Gap (fwiden a) (fwiden b) = some g ∧ flt .f64 (some c) g = false := by
  unfold gap2B at h
  cases hg : fmaxN .f64 (fop .sub .f64 (fwiden a) (fwiden b)) (fop .sub .f64 (fwiden b) (fwiden a)) with
  | none => rw [hg] at h; cases h
  | some g =>
    rw [hg] at h
    dsimp only at h
    refine ⟨g, ?_, by simpa using h⟩
    unfold w_r8Gap
    rw [olet_eq, olet_eq, hg, obind_eq]
theorem px_near : ∀ n, n < 5 → 0 < n → gap2B 4576918229304087675 (px n 20) (some 1065353216) = true := by decide +kernel
def lq (q : Int) : F := fop .quo .f32 (fint .f32 q) (some 1082130432)
theorem sign_chk : ∀ q ∈ ints, gap2B 4562254508917369340 (lq q) (lq q) = true ∧ (q = 0 → gap2B 4562254508917369340 (some 2147483648) (lq q) = true) := by decide +kernel
theorem sign_near {q : Int} {x : F} (hq : q.natAbs ≤ 16) (hx : Dy .f32 2 q x) : gap2B 4562254508917369340 x (lq q) = true := by
  obtain ⟨c1, c2⟩ := sign_chk q (mem_ints hq)
  by_cases e : q = 0
  · subst e
    rcases hx.zero_is with rfl | rfl
    · have e0 : lq 0 = some 0 := by decide +kernel
      rw [e0] at c1 ⊢; exact c1
    · exact c2 rfl
  · have : x = lq q := Dy.inj hx (quarter_dy (by omega)) e
    rw [this]; exact c1
theorem vecx_loop {a : List Int} (ha : Byt a) : ∀ (m t : Nat) (L : List F) (s : Int), t + m ≤ 800000 → L.length + m ≤ 1000 →
    ∃ (L' : List F) (t' : Nat) (s' : Int), L'.length = m ∧ t' ≤ t + m ∧ (∀ x ∈ L', ∃ q : Int, q.natAbs ≤ 16 ∧ x = lq q) ∧ loopM (s_l08DrawVector_0p0_C0_s1 a) (L, (t : Int), s, (m : Int)) = some (.inl (L ++ L', (t' : Int), s'))
  | 0, t, L, s, ht, hL => by
    refine ⟨[], t, s, rfl, by omega, fun x hx => by simp at hx, ?_⟩
    rw [loopM_out (e := (L, (t : Int), s))]
    · simp
    · show s_l08DrawVector_0p0_C0_b1 a L (t : Int) s ((0 : Nat) : Int) = _
      unfold s_l08DrawVector_0p0_C0_b1
      rw [decide_eq_false (by omega), bsel_false]
  | m + 1, t, L, s, ht, hL => by
    obtain ⟨v, t1, s1, hv, ht1, e⟩ := src_pick ha (n := 33) (t := t) (by decide) (by decide) (by omega) s
    have e : s_l00Src_pick_0p0_C0 33 a (t : Int) s = _ := e
    have st : s_l08DrawVector_0p0_C0_s1 a (L, (t : Int), s, ((m + 1 : Nat) : Int)) = some (.next (L ++ [lq ((v : Int) - 16)], (t1 : Int), s1, (m : Int))) := by
      show s_l08DrawVector_0p0_C0_b1 a L (t : Int) s ((m + 1 : Nat) : Int) = _
      unfold s_l08DrawVector_0p0_C0_b1
      rw [decide_eq_true (by omega), bsel_true, e, obind3_eq]
      simp only [olet_eq]
      rw [wi64 (by omega) (by omega), show apok 4 L.length 1 = true from by simp only [apok, Bool.and_eq_true, decide_eq_true_eq]; omega, need_true, wi64 (by omega) (by omega), show ((m + 1 : Nat) : Int) - 1 = (m : Int) from by omega]
      rfl
    obtain ⟨L', t', s', h1, h2, h3, h4⟩ := vecx_loop ha m t1 (L ++ [lq ((v : Int) - 16)]) s1 (by omega) (by simp; omega)
    refine ⟨lq ((v : Int) - 16) :: L', t', s', by simp [h1], by omega, ?_, ?_⟩
    · intro x hx
      rcases List.mem_cons.1 hx with rfl | hx
      · exact ⟨_, by omega, rfl⟩
      · exact h3 x hx
    · rw [loopM_next st, h4]; simp
theorem r8vecx {a : List Int} (ha : Byt a) {n : Nat} (hn : n ≤ 100) : ∃ (L : List F) (q : Nat → Int), L.length = n ∧ (∀ i, i < n → (q i).natAbs ≤ 16 ∧ L.getD i none = lq (q i)) ∧ s_R8Vector a (n : Int) = some L := by
  obtain ⟨L, t', s', h1, _, h3, h4⟩ := vecx_loop ha n 0 [] 0 (by omega) (by simp; omega)
  have ch : ∀ i, ∃ q : Int, i < n → q.natAbs ≤ 16 ∧ L.getD i none = lq q := fun i => by
    by_cases h : i < n
    · obtain ⟨q, q1, q2⟩ := h3 _ (getD_mem (show i < L.length by omega))
      exact ⟨q, fun _ => ⟨q1, q2⟩⟩
    · exact ⟨0, fun e => absurd e h⟩
  refine ⟨L, fun i => (ch i).choose, h1, fun i hi => (ch i).choose_spec hi, ?_⟩
  have h4 : loopM (s_l08DrawVector_0p0_C0_s1 a) ([], 0, 0, (n : Int)) = some (.inl ([] ++ L, (t' : Int), s')) := h4
  unfold s_R8Vector s_l00From s_l08DrawVector_0p0_C0
  rw [obind3_eq, h4]
  simp only [obind_eq, osum]
  unfold s_l08DrawVector_0p0_C0_k1
  rw [obind3_eq, List.nil_append]
theorem fn_signs {n : Nat} {l o : List F} {q : Nat → Int} (ln : n ≤ 4) (hl : l.length = n) (ho : o.length = n) (hq : ∀ i, i < n → (q i).natAbs ≤ 16 ∧ l.getD i none = lq (q i)) (hd : ∀ i, i < n → Dy .f32 2 (q i) (o.getD i none)) : loopM (w_FnFunctions_s5 (n : Int) l o) 0 = some (.inl ()) := by
  refine loop_go (step := w_FnFunctions_s5 (n : Int) l o) (fun j : Nat => (j : Int)) n 0 (fun k _ hk => ?_) ?_
  · have hk : k < n := by omega
    obtain ⟨g, g1, g2⟩ := gap2_use (sign_near (hq k hk).1 (hd k hk))
    show w_FnFunctions_b5 (n : Int) l o (k : Int) = _
    unfold w_FnFunctions_b5
    rw [decide_eq_true (by omega), bsel_true, at?_n none (by omega), obind_eq, olet_eq, at?_n none (by omega), obind_eq, olet_eq, (hq k hk).2, g1, obind_eq, g2, bsel_false, wsucc (by omega), olet_eq]
  · show w_FnFunctions_b5 (n : Int) l o ((0 + n : Nat) : Int) = _
    unfold w_FnFunctions_b5
    rw [decide_eq_false (by omega), bsel_false]
theorem fn_mid {n : Nat} {l : List F} {q : Nat → Int} (hn : n ≤ 4) (hl : l.length = n) (hq : ∀ i, i < n → (q i).natAbs ≤ 16 ∧ l.getD i none = lq (q i)) : ∀ (m v : Nat) (L : List F), v + m = n → Mat n n L → (∀ i k, i < n → k < n → gm none L n i k = if i = k ∧ i < v then vq (q i) else some 0) →
    ∃ L', DG n (fun i => vq (q i)) L' ∧ loopM (w_FnFunctions_s6 (n : Int) l) (L, (v : Int)) = some (.inl L')
  | 0, v, L, hv, hL, e => by
    have : v = n := by omega
    subst this
    refine ⟨L, ⟨hL, fun i k hi hk => ?_, fun i hi => ⟨(vh_ok 0 (by decide) (q i) (mem_ints (hq i hi).1)).1, vh_fok 0 _⟩⟩, loopM_out ?_⟩
    · rw [e i k hi hk]
      by_cases h : i = k
      · rw [if_pos ⟨h, hi⟩, if_pos h]
      · rw [if_neg (fun x => h x.1), if_neg h]
    · show w_FnFunctions_b6 (v : Int) l L (v : Int) = _
      unfold w_FnFunctions_b6
      rw [dnlt, bsel_false]
  | m + 1, v, L, hv, hL, e => by
    have hvn : v < n := by omega
    obtain ⟨L', l1, l2⟩ := fn_mid hn hl hq m (v + 1) (sm L n v v (vq (q v))) (by omega) (hL.set _ _ _) (fun i k hi hk => by
      rw [gm_set hL hvn hvn hk, e i k hi hk]
      by_cases h : v = i ∧ v = k
      · obtain ⟨rfl, rfl⟩ := h
        rw [if_pos ⟨rfl, rfl⟩, if_pos ⟨rfl, by omega⟩]
      · rw [if_neg h]
        by_cases h2 : i = k ∧ i < v
        · rw [if_pos h2, if_pos ⟨h2.1, by omega⟩]
        · rw [if_neg h2, if_neg (by omega)])
    refine ⟨L', l1, ?_⟩
    rw [loopM_next (s' := (sm L n v v (vq (q v)), ((v + 1 : Nat) : Int))), l2]
    show w_FnFunctions_b6 (n : Int) l L (v : Int) = _
    unfold w_FnFunctions_b6
    obtain ⟨e1, e2⟩ := idx_w hL.A1 hL.A1 hvn hvn
    rw [decide_eq_true (by omega), bsel_true, e1, olet_eq, e2, olet_eq, at?_n none (by omega), obind_eq, (hq v hvn).2, olet_eq, setAt?_n _ (hL.lt hvn hvn), obind_eq, wsucc (by omega), olet_eq]
    rfl
theorem fn_series {n h : Nat} {L S : List F} {q : Nat → Int} (n0 : 0 < n) (hn : n ≤ 4) (hh : h < 3) (hq : ∀ i, i < n → (q i).natAbs ≤ 16 ∧ (q i).natAbs ≤ 4 * 2 ^ h) (hL : DG n (fun i => vq (q i)) L) (hS : DG n (fun i => expD h 12 (q i)) S) : loopM (w_FnFunctions_s17 (n : Int) L S) 0 = some (.inl ()) := by
  have nn : n * n ≤ 4 * 4 := Nat.mul_le_mul hn hn
  have w2 : IntKind.i64.wrap ((n : Int) * (n : Int)) = ((n * n : Nat) : Int) := by rw [← Int.natCast_mul]; exact wn (by omega)
  refine loop_go (step := w_FnFunctions_s17 (n : Int) L S) (fun j : Nat => (j : Int)) (n * n) 0 (fun p _ hp => ?_) ?_
  · have hp : p < n * n := by omega
    have hi : p / n < n := (Nat.div_lt_iff_lt_mul n0).2 hp
    have hk := Nat.mod_lt p n0
    have eL : L.getD p none = if p / n = p % n then vq (q (p / n)) else some 0 := by rw [← getD_gm (A := n) (C := n), hL.e _ _ hi hk]
    have eS : S.getD p none = if p / n = p % n then expD h 12 (q (p / n)) else some 0 := by rw [← getD_gm (A := n) (C := n), hS.e _ _ hi hk]
    have lS := hS.m.len
    have lL := hL.m.len
    show w_FnFunctions_b17 (n : Int) L S (p : Int) = _
    unfold w_FnFunctions_b17 w_FnFunctions_k16
    rw [w2, olet_eq, decide_eq_true (by omega), bsel_true, dne0 n0, need_true, tmod_n, olet_eq, need_true, tdiv_n, wn (by have := Nat.div_le_self p n; omega), olet_eq]
    by_cases e : p / n = p % n
    · rw [if_pos e] at eL eS
      obtain ⟨r, g, g1, g2, g3⟩ := gap_use (gap_chk h hh (q (p / n)) (mem_ints (hq _ hi).1) (hq _ hi).2)
      rw [decide_eq_true (by omega), Bool.not_true, bsel_false, at?_n none (by omega), obind_eq, eL, g1, obind_eq, olet_eq, at?_n none (by omega), obind_eq, olet_eq, eS, g2, obind_eq, olet_eq, olet_eq, g3, bsel_false, wsucc (by omega), olet_eq]
    · rw [if_neg e] at eL eS
      rw [decide_eq_false (by omega), Bool.not_false, bsel_true, at?_n none (by omega), obind_eq, eS, show feq .f32 (some 0) (some 0) = true from by decide +kernel, Bool.not_true, bsel_false, wsucc (by omega), olet_eq]
  · show w_FnFunctions_b17 (n : Int) L S ((0 + n * n : Nat) : Int) = _
    unfold w_FnFunctions_b17
    rw [w2, olet_eq, decide_eq_false (by omega), bsel_false]
theorem fn_last {n : Nat} (n0 : 0 < n) (n4 : n < 5) {X : List F} (hX : DG n (fun _ => px n 20) X) : loopM (w_FnFunctions_s22 (tabM n n unitF) X) 0 = some (.inl ()) := by
  have nn : n * n ≤ 4 * 4 := Nat.mul_le_mul (by omega) (by omega)
  have hU := dg_unit (n := n) (by omega)
  generalize tabM n n unitF = U at *
  have lU := hU.m.len
  have lX := hX.m.len
  refine loop_go (step := w_FnFunctions_s22 U X) (fun j : Nat => (j : Int)) (n * n) 0 (fun p _ hp => ?_) ?_
  · have hp : p < n * n := by omega
    have hi : p / n < n := (Nat.div_lt_iff_lt_mul n0).2 hp
    have hk := Nat.mod_lt p n0
    have eU : U.getD p none = if p / n = p % n then some 1065353216 else some 0 := by rw [← getD_gm (A := n) (C := n), hU.e _ _ hi hk]
    have eX : X.getD p none = if p / n = p % n then px n 20 else some 0 := by rw [← getD_gm (A := n) (C := n), hX.e _ _ hi hk]
    have gp : gap2B 4576918229304087675 (X.getD p none) (U.getD p none) = true := by
      rw [eU, eX]
      by_cases e : p / n = p % n
      · rw [if_pos e, if_pos e]; exact px_near n n4 n0
      · rw [if_neg e, if_neg e]; decide +kernel
    obtain ⟨g, g1, g2⟩ := gap2_use gp
    show w_FnFunctions_b22 U X (p : Int) = _
    unfold w_FnFunctions_b22
    rw [decide_eq_true (by omega), bsel_true, at?_n none (by omega), obind_eq, olet_eq, at?_n none (by omega), obind_eq, olet_eq, g1, obind_eq, g2, bsel_false, wsucc (by omega), olet_eq]
  · show w_FnFunctions_b22 U X ((0 + n * n : Nat) : Int) = _
    unfold w_FnFunctions_b22
    rw [decide_eq_false (by omega), bsel_false]
theorem w_FnFunctions_true (a0 a1 : List Int) (t0 : Small a0) (t1 : Small a1) (g0 : ∀ z ∈ a0, (Lit.int .u8 z).wf = true) (g1 : ∀ z ∈ a1, (Lit.int .u8 z).wf = true) : w_FnFunctions a0 a1 = some true := by
  have b0 := byt_of g0
  have b1 := byt_of g1
  unfold w_FnFunctions
  obtain ⟨r, hr⟩ : ∃ r, w_r8Long a0 a1 = some r := by
    unfold w_r8Long
    cases decide (48 < (a0.length : Int)) <;> exact ⟨_, rfl⟩
  rw [hr, obind_eq]
  cases r with
  | true => rw [bsel_true]
  | false =>
    rw [bsel_false]
    obtain ⟨v, hv, ev⟩ := r8at b1 (k := 40) (n := 4) (by decide)
    have ev : w_r8At a1 40 4 = some (v : Int) := ev
    rw [ev, obind_eq, wi64 (by omega) (by omega), olet_eq, show (1 : Int) + (v : Int) = ((1 + v : Nat) : Int) from by omega]
    generalize hn : 1 + v = n
    have n0 : 0 < n := by omega
    have n4 : n ≤ 4 := by omega
    obtain ⟨l, q, ll, hq, el⟩ := r8vecx b0 (n := n) (by omega)
    have qd : ∀ i, i < n → Dy .f32 2 (q i) (l.getD i none) := fun i hi => by
      rw [(hq i hi).2]; exact quarter_dy (by have := (hq i hi).1; omega)
    have V : QV n l := ⟨ll, fun x hx => by
      obtain ⟨i, hi, rfl⟩ := mem_getD hx
      exact ⟨q i, (hq i (by omega)).1, qd i (by omega)⟩⟩
    have fl : ∀ x ∈ l, Fv x := fun x hx => (qd_fv (V.vq x hx)).1
    obtain ⟨o, o1, o2, o3⟩ := signs_fv n0 n4 V
    rw [el, obind_eq, i_CompanionMatrix_fv n0 (by omega) ll fl, obind4_eq, o3, obind2_eq, bsel_true, bsel_true, decide_eq_true (by omega), Bool.not_true, bsel_false]
    unfold w_FnFunctions_k4
    have same : ∀ i, i < n → qv (l.getD i none) = q i := fun i hi => by
      have a := (qd_fv (V.vq _ (getD_mem (show i < l.length by omega)))).1
      have x := qd_dy (V.vq _ (getD_mem (show i < l.length by omega)))
      obtain ⟨b, e1, _, _, _, e4⟩ := x
      obtain ⟨c, f1, _, _, _, f4⟩ := qd i hi
      rw [e1] at f1
      obtain rfl := Option.some.inj f1
      rw [e4] at f4
      exact Int.eq_of_mul_eq_mul_right (by decide) f4
    rw [fn_signs n4 ll o1 hq fun i hi => by rw [← same i hi]; exact o2 i hi, obind_eq, osum_inl]
    unfold w_FnFunctions_k5
    have nn : n * n ≤ 4 * 4 := Nat.mul_le_mul n4 n4
    have w2 : IntKind.i64.wrap ((n : Int) * (n : Int)) = ((n * n : Nat) : Int) := by rw [← Int.natCast_mul]; exact wn (by omega)
    have mk : mkok 4 ((n * n : Nat) : Int) = true := by simp only [mkok, Bool.and_eq_true, decide_eq_true_eq]; omega
    obtain ⟨M, hM, eM⟩ := fn_mid n4 ll hq n 0 (List.replicate (n * n) (some 0)) (by omega) (zmat (by omega) (by omega)) (fun i k hi hk => by
      rw [if_neg (by omega)]
      unfold gm
      have lt : i * n + k < n * n := Nat.lt_of_lt_of_le (show i * n + k < (i + 1) * n by rw [Nat.succ_mul]; omega) (Nat.mul_le_mul_right n hi)
      rw [List.getD_eq_getElem?_getD, List.getElem?_replicate_of_lt lt]; rfl)
    have eM : loopM (w_FnFunctions_s6 (n : Int) l) (List.replicate (n * n) (some 0), 0) = _ := eM
    rw [w2, olet_eq, mk, need_true, Int.toNat_natCast, eM, obind_eq, osum_inl]
    unfold w_FnFunctions_k6
    obtain ⟨h, S, h3, hle, hS, eS⟩ := exp_dg (t := 12) n0 (by decide) (by decide) (fun i hi => (hq i hi).1) hM (fun h hh i hi hle => exp_chk h hh (q i) (mem_ints (hq i hi).1) hle)
    have eS : i_ExpMatrix (n : Int) (n : Int) M 12 = _ := eS
    rw [eS, obind_eq, osum_inr, obind4_eq]
    unfold w_FnFunctions_k8
    have v0 : vq 0 = some 0 := by decide +kernel
    have Z : DG n (fun i => vq ((fun _ => (0 : Int)) i)) (List.replicate (n * n) (some 0)) := ⟨zmat (by omega) (by omega), fun i k hi hk => by
      unfold gm
      have lt : i * n + k < n * n := Nat.lt_of_lt_of_le (show i * n + k < (i + 1) * n by rw [Nat.succ_mul]; omega) (Nat.mul_le_mul_right n hi)
      rw [List.getD_eq_getElem?_getD, List.getElem?_replicate_of_lt lt, v0]
      split <;> rfl, fun i hi => ⟨by rw [v0]; decide +kernel, by rw [v0]; exact zero_ok⟩⟩
    obtain ⟨h', N, h4, _, hN, eN⟩ := exp_dg (t := 5) n0 (by decide) (by decide) (fun i hi => by decide) Z (fun h hh i hi _ => ⟨(exp_none h hh).1, (exp_none h hh).2.1⟩)
    have eN : i_ExpMatrix (n : Int) (n : Int) (List.replicate (n * n) (some 0)) 5 = _ := eN
    rw [w2, olet_eq, mk, need_true, Int.toNat_natCast, eN, obind_eq, osum_inr, obind4_eq]
    unfold w_FnFunctions_k10
    have hU := dg_unit (n := n) (by omega)
    have NU : N = tabM n n unitF := mat_ext hN.m hU.m fun i k hi hk => by
      rw [hN.e i k hi hk, hU.e i k hi hk]
      by_cases e : i = k
      · rw [if_pos e, if_pos e]; exact (exp_none h' h4).2.2
      · rw [if_neg e, if_neg e]
    have um : i_UnitMatrix (n : Int) = some ((n : Int), (n : Int), true, tabM n n unitF) := by
      unfold i_UnitMatrix
      rw [i_isSide_eq, obind_eq]
      unfold side
      rw [decide_eq_true (by omega), decide_eq_true (by omega), Bool.and_self, bsel_true, i_unit_eq (by omega), obind3_eq]
    rw [um, obind4_eq, bsel_true, bsel_true, bsel_true, NU, same_refl (dg_all hU).1 hU.m.le, obind_eq, bsel_true, decide_eq_true (by rw [hS.m.len, hU.m.len]), Bool.not_true, bsel_false]
    unfold w_FnFunctions_k14
    rw [fn_series n0 n4 h3 (fun i hi => ⟨(hq i hi).1, hle i hi⟩) hM hS, obind_eq, osum_inl]
    unfold w_FnFunctions_k17
    have d2 : FOk .f32 (some 1073741824) := two_dy.fok
    obtain ⟨W, hW, eW⟩ := dg_weigh (x := some 1073741824) (y := some 1065353216) n0 hU hU ⟨d2, by decide +kernel⟩ ⟨one_fv.1.fok, by decide +kernel⟩ (by decide +kernel) (fun i hi => by decide +kernel)
    have t3 : (fun _ : Nat => fop .add .f32 (fop .mul .f32 (some 1073741824) (some 1065353216)) (fop .mul .f32 (some 1065353216) (some 1065353216))) = fun _ => some 1077936128 := by
      funext i; decide +kernel
    rw [t3] at hW
    obtain ⟨X, hX, eX⟩ := polar_dg n0 (by omega) hW
    rw [eW, obind4_eq, eX, obind4_eq, bsel_true, bsel_true, decide_eq_true (by rw [hX.m.len, hU.m.len]), Bool.not_true, bsel_false]
    unfold w_FnFunctions_k21 w_FnFunctions_k22
    rw [fn_last n0 (by omega) hX, obind_eq, osum_inl]


end Go.Proofs.Ytkdociaoknmgbaa
