/- The plain law of FnOrders. -/
import Derived.Test.YtcjbfpoaidjpaaaG3
namespace Go.Proofs.Ytcjbfpoaidjpaaa
set_option linter.unusedSimpArgs false
set_option linter.unusedVariables false
open Go Go.AM
def Small {α : Type} (l : List α) : Prop := l.length ≤ 9223372036854775807
theorem x_math_Signbit_widen {b : Nat} (h : FOk .f32 (some b)) : x_math_Signbit (fwiden (some b)) = some (wneg Ieee.single b) := by
  unfold x_math_Signbit
  have hok := (fwiden_ok h)
  simp only [fwiden, Option.map_some] at hok ⊢
  have hlt : FloatKind.f64.encode (FloatKind.f32.decode b) < 18446744073709551616 := hok.some.1
  have hn := widen_neg h
  generalize FloatKind.f64.encode (FloatKind.f32.decode b) = w at hlt hn
  rw [← hn]
  simp only [obind_eq, olet_eq]
  congr 1
  have e : wneg Ieee.double w = decide (9223372036854775808 ≤ w) := by
    unfold wneg
    show (w / 9223372036854775808 % 2 == 1) = _
    by_cases h1 : 9223372036854775808 ≤ w
    · have : w / 9223372036854775808 = 1 := by omega
      simp [this, h1]
    · have : w / 9223372036854775808 = 0 := by omega
      simp [this, h1]
  rw [e]
  have : IntKind.i64.wrap (w : Int) = if w < 9223372036854775808 then (w : Int) else (w : Int) - 18446744073709551616 := by
    simp only [IntKind.wrap, IntKind.bits, IntKind.signed]
    simp
    split <;> split <;> omega
  rw [this]
  by_cases h1 : w < 9223372036854775808
  · rw [if_pos h1]; simp; omega
  · rw [if_neg h1]; simp; omega
theorem i_SameNumber_eq {c d : F} (hc : FOk .f32 c) (hd : FOk .f32 d) : i_SameNumber c d = some (decide (c = d)) := by
  unfold i_SameNumber
  cases c with
  | none =>
    cases d with
    | none => simp
    | some b => simp [feq_refl hd]
  | some a =>
    cases d with
    | none => simp [feq_refl hc]
    | some b =>
      rw [feq_refl hc, feq_refl hd]
      simp only [Bool.not_true, bsel_false, olet_eq, x_math_Signbit_widen hc, x_math_Signbit_widen hd, obind_eq]
      cases ho : feq .f32 (some a) (some b) with
      | false =>
        rw [bsel_false]
        have : a ≠ b := fun e => by subst e; rw [feq_refl hc] at ho; cases ho
        simp [this]
      | true =>
        rw [bsel_true]
        have ho' : Ieee.single.order a b = some .eq := by
          simp only [feq, ford, Option.bind_some] at ho
          have : FloatKind.f32.format.order a b = some .eq := by simpa using ho
          exact this
        congr 1
        by_cases hs : wneg Ieee.single a = wneg Ieee.single b
        · have := eq_of_order (f := Ieee.single) (fmt_ok .f32) hc.some.1 hd.some.1 hc.some.2 hd.some.2 ho' hs
          subst this; simp
        · have : a ≠ b := fun e => hs (by rw [e])
          simp [this, hs]
def FOks (l : List F) : Prop := ∀ c ∈ l, FOk .f32 c
theorem FOks.at {l : List F} (h : FOks l) {i : Nat} {c : F} (e : l[i]? = some c) : FOk .f32 c := h c (List.mem_of_getElem? e)
theorem x_slices_EqualFunc_float32_float32_float32_float32_2Fi_SameNumber_eq {a b : List F} (ha : FOks a) (hb : FOks b) (sa : a.length ≤ 1048576) : x_slices_EqualFunc_float32_float32_float32_float32_2Fi_SameNumber a b = some (decide (a = b)) := by
  unfold x_slices_EqualFunc_float32_float32_float32_float32_2Fi_SameNumber
  by_cases hl : a.length = b.length
  · rw [loop_eq (l := a) (m := b) hl ?_ ?_]
    · by_cases e : a = b
      · simp [e, x_slices_EqualFunc_float32_float32_float32_float32_2Fi_SameNumber_k1]
      · simp [hl, e]
    · intro v x y h0 hv hx hy
      show x_slices_EqualFunc_float32_float32_float32_float32_2Fi_SameNumber_b1 a b v = _
      unfold x_slices_EqualFunc_float32_float32_float32_float32_2Fi_SameNumber_b1
      rw [at?_of h0 hx, at?_of h0 hy, wrap_succ h0 hv (by omega)]
      simp [bsel_if, hv, i_SameNumber_eq (ha.at hx) (hb.at hy)]
    · show x_slices_EqualFunc_float32_float32_float32_float32_2Fi_SameNumber_b1 a b (a.length : Int) = _
      unfold x_slices_EqualFunc_float32_float32_float32_float32_2Fi_SameNumber_b1
      simp [bsel_if]
  · have : a ≠ b := fun e => hl (by rw [e])
    have hl' : ¬ (a.length : Int) = (b.length : Int) := by omega
    simp [hl', this]
theorem i_inRange_eq (n lo hi : Int) : i_inRange n lo hi = some (decide (lo ≤ n) && decide (n ≤ hi)) := by
  unfold i_inRange; cases decide (lo ≤ n) <;> rfl
theorem i_IsFinite_eq {c : F} (h : FOk .f32 c) : i_IsFinite c = some (fin32 c) := by
  unfold i_IsFinite i_isFinite64 x_math_IsNaN x_math_IsInf x_math_Abs x_math_IsInf_k1
  cases c with
  | none => simp [fwiden, fin32]
  | some b =>
    have hw := feq_refl (k := .f64) (b := FloatKind.f64.encode (FloatKind.f32.decode b)) (fwiden_ok h)
    have hw' : feq .f64 (fwiden (some b)) (fwiden (some b)) = true := hw
    have hm := fabs_max h (by simp)
    simp only [olet_eq, obind_eq, hw', Bool.not_true, bsel_false, decide_true, bsel_true, hm, Bool.not_not]
theorem i_areFinite_1_eq {c : F} (h : FOk .f32 c) : i_areFinite_1 c = some (!fin32 c) := by
  unfold i_areFinite_1; rw [i_IsFinite_eq h]; rfl
theorem any_not {α : Type} (l : List α) (p : α → Bool) : l.any (fun x => !p x) = !l.all p := by
  induction l with
  | nil => rfl
  | cons a l ih => simp [ih]
theorem i_areFinite_eq {a : List F} (ha : FOks a) (sa : a.length ≤ 1048576) : i_areFinite a = some (a.all fin32) := by
  unfold i_areFinite x_slices_ContainsFunc_float32_float32_1Fi_areFinite_1 x_slices_IndexFunc_float32_float32_1Fi_areFinite_1
  obtain ⟨r, h1, h2⟩ := loop_find (l := a) (p := fun c => !fin32 c) (step := x_slices_IndexFunc_float32_float32_1Fi_areFinite_1_s1 a) (by
    intro v x h0 hv hx
    show x_slices_IndexFunc_float32_float32_1Fi_areFinite_1_b1 a v = _
    unfold x_slices_IndexFunc_float32_float32_1Fi_areFinite_1_b1
    rw [at?_of h0 hx, wrap_succ h0 hv (by omega)]
    simp [bsel_if, hv, i_areFinite_1_eq (ha.at hx)]) (by
    show x_slices_IndexFunc_float32_float32_1Fi_areFinite_1_b1 a (a.length : Int) = _
    unfold x_slices_IndexFunc_float32_float32_1Fi_areFinite_1_b1
    simp [bsel_if])
  rw [h1, any_not]
  cases h : a.all fin32 <;> simp [x_slices_IndexFunc_float32_float32_1Fi_areFinite_1_k1, h2]
abbrev q1 : List F := [some 1073741824, some 1065353216, some 1065353216, some 1073741824]
theorem small_mul {x y : Nat} (hx : x ≤ 12) (hy : y ≤ 12) : x * y ≤ 144 := Nat.mul_le_mul hx hy
def side (n : Int) : Bool := decide (1 ≤ n) && decide (n ≤ 12)
theorem i_isSide_eq (x : Int) : i_isSide x = some (side x) := by
  unfold i_isSide; rw [i_inRange_eq]; rfl
def validM (a0 a1 : Int) (a2 : List F) : Bool := side a0 && side a1 && decide ((a2.length : Int) = IntKind.i64.wrap (a0 * a1)) && a2.all fin32
theorem i_ValidMatrix_eq (a0 a1 : Int) {a2 : List F} (g2 : FOks a2) (s2 : a2.length ≤ 1048576) : i_ValidMatrix a0 a1 a2 = some (validM a0 a1 a2) := by
  unfold i_ValidMatrix i_length_float32 validM
  rw [i_isSide_eq, i_isSide_eq, i_areFinite_eq g2 s2]
  cases side a0 <;> cases side a1 <;> simp [bsel_if] <;> split <;> simp_all
theorem FOks.getD {l : List F} (h : FOks l) (n : Nat) : FOk .f32 (l.getD n none) := by
  simp only [List.getD]
  cases e : l[n]? with
  | none => exact fok_none _
  | some c => exact h.at e
theorem FOks.set {l : List F} (h : FOks l) {n : Nat} {x : F} (hx : FOk .f32 x) : FOks (l.set n x) := by
  intro c hc
  rcases List.mem_or_eq_of_mem_set hc with h1 | h1
  · exact h c h1
  · exact h1 ▸ hx
theorem wsucc {i : Nat} (h : i ≤ 1000000000) : IntKind.i64.wrap ((i : Int) + 1) = ((i + 1 : Nat) : Int) := by
  rw [wrap_i64 (by omega) (by omega)]; omega
theorem dlt {i n : Nat} (h : i < n) : decide ((i : Int) < (n : Int)) = true := by simp; omega
theorem dnlt {n : Nat} : decide ((n : Int) < (n : Int)) = false := by simp
theorem i_Matrix_at_eq {A C i k : Nat} {L : List F} (r : Int) (h : Mat A C L) (hi : i < A) (hk : k < C) : i_Matrix_at r (C : Int) L (i : Int) (k : Int) = some (gm none L C i k) := by
  obtain ⟨e1, e2⟩ := idx_w h.A1 h.C1 hi hk
  unfold i_Matrix_at
  rw [e1, olet_eq, e2, olet_eq, at?_n none (h.lt hi hk), obind_eq]
theorem i_Matrix_set_02o_eq {A C i k : Nat} {L : List F} (r : Int) (h : Mat A C L) (hi : i < A) (hk : k < C) (x : F) : i_Matrix_set_02o r (C : Int) (i : Int) (k : Int) x L = some (sm L C i k x) := by
  obtain ⟨e1, e2⟩ := idx_w h.A1 h.C1 hi hk
  unfold i_Matrix_set_02o
  rw [e1, olet_eq, e2, olet_eq, setAt?_n x (h.lt hi hk), obind_eq]
theorem i_mul_eq (a b : F) : i_mul a b = some (fop .mul .f32 a b) := rfl
theorem getD_of_lt {α : Type} {l : List α} {n : Nat} (d : α) (h : n < l.length) : l[n]? = some (l.getD n d) := by simp [List.getD, h]
def upTo (n : Nat) : List Int := (List.range n).map fun (i : Nat) => (i : Int)
theorem upTo_len (n : Nat) : (upTo n).length = n := by simp [upTo]
theorem i_isSquare_eq (a0 a1 : Int) {a2 : List F} (g2 : FOks a2) (s2 : a2.length ≤ 1048576) : i_isSquare a0 a1 a2 = some (validM a0 a1 a2 && decide (a0 = a1)) := by
  unfold i_isSquare
  rw [i_ValidMatrix_eq a0 a1 g2 s2, obind_eq]
  cases validM a0 a1 a2 <;> rfl
theorem mat_valid {A C : Nat} {L : List F} (h : Mat A C L) (hA : 0 < A) (hC : 0 < C) : validM (A : Int) (C : Int) L = L.all fin32 := by
  unfold validM side
  have hAC := small_mul h.A1 h.C1
  have h1 := h.A1
  have h2 := h.C1
  rw [← Int.natCast_mul, wn (by omega), h.len]
  have e1 : decide ((1 : Int) ≤ (A : Int)) = true := by simp; omega
  have e2 : decide ((A : Int) ≤ 12) = true := by simp; omega
  have e3 : decide ((1 : Int) ≤ (C : Int)) = true := by simp; omega
  have e4 : decide ((C : Int) ≤ 12) = true := by simp; omega
  rw [e1, e2, e3, e4]
  simp
theorem i_newMatrix_eq {A C : Nat} (hA : A ≤ 12) (hC : C ≤ 12) : i_newMatrix (A : Int) (C : Int) = some ((A : Int), (C : Int), List.replicate (A * C) (some 0)) := by
  have hAC := small_mul hA hC
  unfold i_newMatrix
  have mk : mkok 4 ((A * C : Nat) : Int) = true := by simp [mkok]; omega
  rw [← Int.natCast_mul, wn (by omega), olet_eq, mk]; rfl
theorem mat_ext {A C : Nat} {L L' : List F} (h : Mat A C L) (h' : Mat A C L') (e : ∀ i k, i < A → k < C → gm none L C i k = gm none L' C i k) : L = L' := by
  apply List.ext_getElem?
  intro q
  by_cases hq : q < A * C
  · have hC : 0 < C := by
      rcases Nat.eq_zero_or_pos C with h0 | h0
      · subst h0; simp at hq
      · exact h0
    have h1 : q / C < A := (Nat.div_lt_iff_lt_mul hC).2 hq
    have h2 : q % C < C := Nat.mod_lt _ hC
    have h3 : q / C * C + q % C = q := by rw [Nat.mul_comm]; exact Nat.div_add_mod q C
    have := e _ _ h1 h2
    unfold gm at this
    rw [h3] at this
    rw [getD_of_lt none (by rw [h.len]; exact hq), getD_of_lt none (by rw [h'.len]; exact hq), this]
  · rw [List.getElem?_eq_none (by rw [h.len]; omega), List.getElem?_eq_none (by rw [h'.len]; omega)]
def fillR (f : Nat → Nat → F) (C i : Nat) (L : List F) : List F := run (fun k L => sm L C i k (f i k)) 0 C L
def fillA (f : Nat → Nat → F) (A C : Nat) (L : List F) : List F := run (fillR f C) 0 A L
theorem fillR_spec {f : Nat → Nat → F} {A C i : Nat} {L : List F} (h : Mat A C L) (hi : i < A) : Mat A C (fillR f C i L) ∧ ∀ j k, j < A → k < C → gm none (fillR f C i L) C j k = if j = i then f i k else gm none L C j k := by
  have := run_inv (f := fun k L => sm L C i k (f i k)) (fun c L' => Mat A C L' ∧ ∀ j k, j < A → k < C → gm none L' C j k = if j = i ∧ k < c then f i k else gm none L C j k) C 0 L ⟨h, fun j k _ _ => by simp⟩ (fun c L' _ hc hI => by
    refine ⟨hI.1.set _ _ _, fun j k hj hk => ?_⟩
    rw [gm_set hI.1 hi (by omega) hk, hI.2 j k hj hk]
    by_cases e1 : i = j
    · subst e1
      by_cases e2 : c = k
      · subst e2; simp
      · by_cases e3 : k < c
        · rw [if_neg (by omega), if_pos (by omega), if_pos (by omega)]
        · rw [if_neg (by omega), if_neg (by omega), if_neg (by omega)]
    · rw [if_neg (by omega), if_neg (by omega), if_neg (by omega)])
  refine ⟨this.1, fun j k hj hk => ?_⟩
  unfold fillR
  rw [this.2 j k hj hk]
  by_cases e : j = i
  · rw [if_pos ⟨e, by omega⟩, if_pos e]
  · rw [if_neg (by omega), if_neg e]
theorem fillA_spec {f : Nat → Nat → F} {A C : Nat} {L : List F} (h : Mat A C L) : Mat A C (fillA f A C L) ∧ ∀ j k, j < A → k < C → gm none (fillA f A C L) C j k = f j k := by
  have := run_inv (f := fillR f C) (fun r L' => Mat A C L' ∧ ∀ j k, j < r → j < A → k < C → gm none L' C j k = f j k) A 0 L ⟨h, fun j k hj _ _ => by omega⟩ (fun r L' _ hr hI => by
    obtain ⟨s1, s2⟩ := fillR_spec (f := f) hI.1 (show r < A by omega)
    refine ⟨s1, fun j k hj hjA hk => ?_⟩
    rw [s2 j k hjA hk]
    by_cases e : j = r
    · rw [if_pos e, e]
    · rw [if_neg e]; exact hI.2 j k (by omega) hjA hk)
  exact ⟨this.1, fun j k hj hk => this.2 j k (by omega) hj hk⟩
def tabM (A C : Nat) (f : Nat → Nat → F) : List F := fillA f A C (List.replicate (A * C) (some 0))
theorem zmat {A C : Nat} (hA : A ≤ 12) (hC : C ≤ 12) : Mat A C (List.replicate (A * C) (some 0 : F)) := ⟨hA, hC, by simp⟩
theorem tabM_mat {A C : Nat} {f : Nat → Nat → F} (hA : A ≤ 12) (hC : C ≤ 12) : Mat A C (tabM A C f) := (fillA_spec (zmat hA hC)).1
theorem tabM_gm {A C : Nat} {f : Nat → Nat → F} (hA : A ≤ 12) (hC : C ≤ 12) {i k : Nat} (hi : i < A) (hk : k < C) : gm none (tabM A C f) C i k = f i k := (fillA_spec (zmat hA hC)).2 i k hi hk
theorem oks_of_gm {A C : Nat} {L : List F} (h : Mat A C L) (e : ∀ i k, i < A → k < C → FOk .f32 (gm none L C i k)) : FOks L := by
  intro c hc
  obtain ⟨q, hq, rfl⟩ := List.mem_iff_getElem.1 hc
  have hq' : q < A * C := by rw [← h.len]; exact hq
  have hC : 0 < C := by
    rcases Nat.eq_zero_or_pos C with h0 | h0
    · subst h0; simp at hq'
    · exact h0
  have h1 : q / C < A := (Nat.div_lt_iff_lt_mul hC).2 hq'
  have h2 : q % C < C := Nat.mod_lt _ hC
  have h3 : q / C * C + q % C = q := by rw [Nat.mul_comm]; exact Nat.div_add_mod q C
  have := e _ _ h1 h2
  unfold gm at this
  rw [h3] at this
  simpa [List.getD, hq] using this
theorem tabM_oks {A C : Nat} {f : Nat → Nat → F} (hA : A ≤ 12) (hC : C ≤ 12) (hf : ∀ i k, FOk .f32 (f i k)) : FOks (tabM A C f) := oks_of_gm (tabM_mat hA hC) fun i k hi hk => by rw [tabM_gm hA hC hi hk]; exact hf i k
theorem run_map {α : Type} (f : Nat → α) : ∀ n : Nat, run (fun i (l : List α) => l ++ [f i]) 0 n [] = (List.range n).map f
  | 0 => rfl
  | n + 1 => by rw [run_last, run_map f n]; simp [List.range_succ]
def unitF (i k : Nat) : F := bif decide (i = k) then some 1065353216 else some 0
theorem unitF_ok (i k : Nat) : FOk .f32 (unitF i k) := by
  unfold unitF
  cases decide (i = k)
  · exact ⟨0, rfl, by decide, rfl⟩
  · exact ⟨1065353216, rfl, by decide, rfl⟩
theorem i_unit_1_eq (i k : Nat) : i_unit_1 (i : Int) (k : Int) = some (unitF i k) := by
  unfold i_unit_1 unitF
  by_cases h : i = k
  · subst h; simp
  · rw [show decide ((i : Int) = (k : Int)) = false by simp; omega, show decide (i = k) = false by simp [h]]; rfl
theorem i_made_2Fi_unit_1_eq {A C : Nat} (hA : A ≤ 12) (hC : C ≤ 12) : i_made_2Fi_unit_1 (A : Int) (C : Int) = some ((A : Int), (C : Int), tabM A C unitF) := by
  have inner : ∀ (i : Nat) (L L0 : List F), i < A → Mat A C L → Mat A C L0 → loopM (i_made_2Fi_unit_1_s2 (C : Int) (A : Int) (C : Int) L0 (i : Int)) (L, 0) = some (.inl (fillR unitF C i L)) := by
    intro i L L0 hi hL hL0
    exact (loop_run (step := i_made_2Fi_unit_1_s2 (C : Int) (A : Int) (C : Int) L0 (i : Int)) (fun (k : Nat) (L : List F) => (L, (k : Int))) (fun k L => sm L C i k (unitF i k)) (fun L => L) (fun _ L => Mat A C L) (lo := 0) (n := C) (Nat.zero_le _) (s0 := L) hL
      (fun k L2 _ hk h3 => by
        refine ⟨?_, h3.set _ _ _⟩
        show i_made_2Fi_unit_1_b2 _ _ _ _ _ _ _ = _
        unfold i_made_2Fi_unit_1_b2
        have l1 : decide ((sm L2 C i k (unitF i k)).length = L0.length) = true := by simp [h3.len, hL0.len]
        rw [dlt hk, bsel_true, i_unit_1_eq, obind_eq, i_Matrix_set_02o_eq _ h3 hi hk, obind_eq, l1, need_true, wsucc (by omega)]
        rfl)
      (fun L2 _ => by
        show i_made_2Fi_unit_1_b2 _ _ _ _ _ _ _ = _
        unfold i_made_2Fi_unit_1_b2
        rw [dnlt, bsel_false])).1
  have e := (loop_run (step := i_made_2Fi_unit_1_s3 (A : Int) (C : Int) (A : Int) (C : Int) (List.replicate (A * C) (some 0))) (fun (i : Nat) (L : List F) => (L, (i : Int))) (fillR unitF C) (fun L => L) (fun _ L => Mat A C L) (lo := 0) (n := A) (Nat.zero_le _) (s0 := List.replicate (A * C) (some 0)) (zmat hA hC)
    (fun i L2 _ hi h3 => by
      refine ⟨?_, (fillR_spec h3 hi).1⟩
      show i_made_2Fi_unit_1_b3 _ _ _ _ _ _ _ = _
      unfold i_made_2Fi_unit_1_b3
      rw [dlt hi, bsel_true, inner i L2 _ hi h3 (zmat hA hC), obind_eq, osum_inl]
      unfold i_made_2Fi_unit_1_k2
      rw [wsucc (by omega)]
      rfl)
    (fun L2 _ => by
      show i_made_2Fi_unit_1_b3 _ _ _ _ _ _ _ = _
      unfold i_made_2Fi_unit_1_b3
      rw [dnlt, bsel_false])).1
  unfold i_made_2Fi_unit_1
  replace e : loopM (i_made_2Fi_unit_1_s3 (A : Int) (C : Int) (A : Int) (C : Int) (List.replicate (A * C) (some 0))) (List.replicate (A * C) (some 0), 0) = some (.inl (tabM A C unitF)) := e
  rw [i_newMatrix_eq hA hC, obind3_eq, e]; rfl
theorem i_unit_eq {n : Nat} (hn : n ≤ 12) : i_unit (n : Int) = some ((n : Int), (n : Int), tabM n n unitF) := by
  unfold i_unit
  rw [i_made_2Fi_unit_1_eq hn hn]; rfl
def colP (A C k : Nat) (L : List F) : List F := (List.range A).map fun i => gm none L C i k
theorem colP_len {A C k : Nat} {L : List F} : (colP A C k L).length = A := by simp [colP]
theorem colP_at {A C k i : Nat} {L : List F} (hi : i < A) : (colP A C k L).getD i none = gm none L C i k := by
  simp [colP, List.getD, hi]
theorem i_Matrix_column_eq {A C k : Nat} {L : List F} (h : Mat A C L) (hk : k < C) : i_Matrix_column (A : Int) (C : Int) L (k : Int) = some (colP A C k L) := by
  have hA := h.A1
  obtain ⟨e, _⟩ := loop_run (step := i_Matrix_column_s1 (A : Int) (C : Int) L (k : Int)) (fun (i : Nat) (l : List F) => (l, (i : Int))) (fun i l => l ++ [gm none L C i k]) (fun l => l) (fun i l => l.length = i) (lo := 0) (n := A) (Nat.zero_le _) (s0 := []) rfl
    (fun i l _ hi h3 => by
      refine ⟨?_, by simp [h3]⟩
      show i_Matrix_column_b1 _ _ _ _ _ _ = _
      unfold i_Matrix_column_b1
      have ap : apok 4 l.length 1 = true := by simp [apok]; omega
      rw [dlt hi, bsel_true, i_Matrix_at_eq _ h hi hk, obind_eq, ap, need_true, wsucc (by omega)]
      rfl)
    (fun l _ => by
      show i_Matrix_column_b1 _ _ _ _ _ _ = _
      unfold i_Matrix_column_b1
      rw [dnlt, bsel_false])
  unfold i_Matrix_column
  replace e : loopM (i_Matrix_column_s1 (A : Int) (C : Int) L (k : Int)) ([], 0) = some (.inl (run (fun i l => l ++ [gm none L C i k]) 0 (A - 0) [])) := e
  rw [e, Nat.sub_zero, run_map]; rfl
def dotE (f g : Nat → F) (i : Nat) (y : F) : F := fop .add .f32 y (fop .mul .f32 (f i) (g i))
def dotN (f g : Nat → F) (n : Nat) : F := run (dotE f g) 0 n (some 0)
theorem zero_ok : FOk .f32 (some 0) := ⟨0, rfl, by decide, rfl⟩
theorem dotN_ok (f g : Nat → F) (n : Nat) : FOk .f32 (dotN f g n) := run_inv (fun _ y => FOk .f32 y) n 0 (some 0) zero_ok fun _ _ _ _ _ => fop_fok _ _ _
theorem dotN_congr {f g f' g' : Nat → F} {n : Nat} (h : ∀ i, i < n → f i = f' i ∧ g i = g' i) : dotN f g n = dotN f' g' n :=
  run_congr (fun _ _ => True) n 0 _ trivial fun i y _ hi _ => ⟨by unfold dotE; rw [(h i (by omega)).1, (h i (by omega)).2], trivial⟩
theorem i_dot_eq {l m : List F} (hl : l.length ≤ m.length) (hs : l.length ≤ 1000000) : i_dot l m = some (dotN (fun i => l.getD i none) (fun i => m.getD i none) l.length) := by
  obtain ⟨e, _⟩ := loop_run (step := i_dot_s1 l m) (fun (i : Nat) (y : F) => (y, (i : Int))) (dotE (fun i => l.getD i none) (fun i => m.getD i none)) (fun y => y) (fun _ _ => True) (lo := 0) (n := l.length) (Nat.zero_le _) (s0 := some 0) trivial
    (fun i y _ hi _ => by
      refine ⟨?_, trivial⟩
      show i_dot_b1 _ _ _ _ = _
      unfold i_dot_b1
      rw [dlt hi, bsel_true, at?_n none hi, obind_eq, at?_n none (by omega), obind_eq, i_mul_eq, obind_eq, olet_eq, wsucc (by omega)]
      rfl)
    (fun y _ => by
      show i_dot_b1 _ _ _ _ = _
      unfold i_dot_b1
      rw [dnlt, bsel_false])
  unfold i_dot
  replace e : loopM (i_dot_s1 l m) (some 0, 0) = some (.inl (run (dotE (fun i => l.getD i none) (fun i => m.getD i none)) 0 (l.length - 0) (some 0))) := e
  rw [e]; rfl
def rowP (C i : Nat) (L : List F) : List F := (L.take ((i + 1) * C)).drop (i * C)
theorem rowP_at {A C i k : Nat} {L : List F} (m : Mat A C L) (hi : i < A) (hk : k < C) : (rowP C i L).getD k none = gm none L C i k := by
  have h1 := idx_lt hi hk
  have h2 : i * C + k < (i + 1) * C := by rw [Nat.add_mul, Nat.one_mul]; omega
  unfold rowP gm
  simp [List.getD, List.getElem?_drop, List.getElem?_take, h2]
theorem rowP_len {A C i : Nat} {L : List F} (m : Mat A C L) (hi : i < A) : (rowP C i L).length = C := by
  have h1 : (i + 1) * C ≤ A * C := Nat.mul_le_mul_right C hi
  unfold rowP
  rw [List.length_drop, List.length_take, m.len, Nat.min_eq_left h1, Nat.add_mul, Nat.one_mul]; omega
theorem sub?_n {α : Type} {L : List α} {a b : Nat} (h1 : a ≤ b) (h2 : b ≤ L.length) : sub? L (a : Int) (b : Int) = some ((L.take b).drop a) := by
  unfold sub?
  rw [if_pos (by omega)]; rfl
theorem i_Matrix_row_eq {A C i : Nat} {L : List F} (r : Int) (m : Mat A C L) (hi : i < A) : i_Matrix_row r (C : Int) L (i : Int) = some (rowP C i L) := by
  have hA := m.A1
  have h1 : (i + 1) * C ≤ A * C := Nat.mul_le_mul_right C hi
  have h2 : A * C ≤ 144 := small_mul m.A1 m.C1
  have h3 : i * C ≤ (i + 1) * C := Nat.mul_le_mul_right C (by omega)
  unfold i_Matrix_row x_slices_Clone_float32_float32
  rw [wsucc (by omega), ← Int.natCast_mul, wn (by omega), olet_eq, olet_eq, ← Int.natCast_mul, wn (by omega), olet_eq, sub?_n h3 (by rw [m.len]; exact h1), obind_eq]
  have ap : apok 4 0 ((L.take ((i + 1) * C)).drop (i * C)).length = true := by
    have := rowP_len m hi
    unfold rowP at this
    have hC := m.C1
    simp only [apok, this]; simp; omega
  rw [ap, need_true, obind_eq, List.nil_append]; rfl
def mulE (B C : Nat) (L M : List F) (i k : Nat) : F := dotN (fun j => gm none L B i j) (fun j => gm none M C j k) B
theorem mulE_ok (B C : Nat) (L M : List F) (i k : Nat) : FOk .f32 (mulE B C L M i k) := dotN_ok _ _ _
theorem i_product_1_eq {A B C i k : Nat} {L M : List F} (r : Int) (m : Mat A B L) (n : Mat B C M) (hi : i < A) (hk : k < C) : i_product_1 (i : Int) (k : Int) r (B : Int) L (B : Int) (C : Int) M = some (mulE B C L M i k) := by
  have hB := m.C1
  unfold i_product_1
  rw [i_Matrix_row_eq r m hi, obind_eq, i_Matrix_column_eq n hk, obind_eq, i_dot_eq (by rw [rowP_len m hi, colP_len]; exact Nat.le_refl _) (by rw [rowP_len m hi]; omega), obind_eq, rowP_len m hi]
  congr 1
  exact dotN_congr fun j hj => ⟨rowP_at m hi hj, colP_at hj⟩
theorem i_made_2Fi_product_1_eq {A B C : Nat} {P M : List F} (mP : Mat A B P) (mM : Mat B C M) : i_made_2Fi_product_1 (A : Int) (C : Int) (A : Int) (B : Int) P (B : Int) (C : Int) M = some ((A : Int), (C : Int), tabM A C (mulE B C P M)) := by
  have hA := mP.A1
  have hC := mM.C1
  have inner : ∀ (i : Nat) (L L0 : List F), i < A → Mat A C L → Mat A C L0 → loopM (i_made_2Fi_product_1_s2 (C : Int) (A : Int) (B : Int) P (B : Int) (C : Int) M (A : Int) (C : Int) L0 (i : Int)) (L, 0) = some (.inl (fillR (mulE B C P M) C i L)) := by
    intro i L L0 hi hL hL0
    exact (loop_run (step := i_made_2Fi_product_1_s2 (C : Int) (A : Int) (B : Int) P (B : Int) (C : Int) M (A : Int) (C : Int) L0 (i : Int)) (fun (k : Nat) (L : List F) => (L, (k : Int))) (fun k L => sm L C i k (mulE B C P M i k)) (fun L => L) (fun _ L => Mat A C L) (lo := 0) (n := C) (Nat.zero_le _) (s0 := L) hL
      (fun k L2 _ hk h3 => by
        refine ⟨?_, h3.set _ _ _⟩
        show i_made_2Fi_product_1_b2 _ _ _ _ _ _ _ _ _ _ _ _ _ = _
        unfold i_made_2Fi_product_1_b2
        have l1 : decide ((sm L2 C i k (mulE B C P M i k)).length = L0.length) = true := by simp [h3.len, hL0.len]
        rw [dlt hk, bsel_true, i_product_1_eq _ mP mM hi hk, obind_eq, i_Matrix_set_02o_eq _ h3 hi hk, obind_eq, l1, need_true, wsucc (by omega)]
        rfl)
      (fun L2 _ => by
        show i_made_2Fi_product_1_b2 _ _ _ _ _ _ _ _ _ _ _ _ _ = _
        unfold i_made_2Fi_product_1_b2
        rw [dnlt, bsel_false])).1
  have e := (loop_run (step := i_made_2Fi_product_1_s3 (A : Int) (C : Int) (A : Int) (B : Int) P (B : Int) (C : Int) M (A : Int) (C : Int) (List.replicate (A * C) (some 0))) (fun (i : Nat) (L : List F) => (L, (i : Int))) (fillR (mulE B C P M) C) (fun L => L) (fun _ L => Mat A C L) (lo := 0) (n := A) (Nat.zero_le _) (s0 := List.replicate (A * C) (some 0)) (zmat hA hC)
    (fun i L2 _ hi h3 => by
      refine ⟨?_, (fillR_spec h3 hi).1⟩
      show i_made_2Fi_product_1_b3 _ _ _ _ _ _ _ _ _ _ _ _ _ = _
      unfold i_made_2Fi_product_1_b3
      rw [dlt hi, bsel_true, inner i L2 _ hi h3 (zmat hA hC), obind_eq, osum_inl]
      unfold i_made_2Fi_product_1_k2
      rw [wsucc (by omega)]
      rfl)
    (fun L2 _ => by
      show i_made_2Fi_product_1_b3 _ _ _ _ _ _ _ _ _ _ _ _ _ = _
      unfold i_made_2Fi_product_1_b3
      rw [dnlt, bsel_false])).1
  unfold i_made_2Fi_product_1
  replace e : loopM (i_made_2Fi_product_1_s3 (A : Int) (C : Int) (A : Int) (B : Int) P (B : Int) (C : Int) M (A : Int) (C : Int) (List.replicate (A * C) (some 0))) (List.replicate (A * C) (some 0), 0) = some (.inl (tabM A C (mulE B C P M))) := e
  rw [i_newMatrix_eq hA hC, obind3_eq, e]; rfl
def mulQ (A B C : Nat) (L M : List F) : Int × Int × Bool × List F := bif (L.all fin32 && M.all fin32) && (tabM A C (mulE B C L M)).all fin32 then ((A : Int), (C : Int), true, tabM A C (mulE B C L M)) else (0, 0, false, [])
theorem i_MulMatrices_eq {A B C : Nat} {L M : List F} (m : Mat A B L) (n : Mat B C M) (g : FOks L) (h : FOks M) (hA : 0 < A) (hB : 0 < B) (hC : 0 < C) : i_MulMatrices (A : Int) (B : Int) L (B : Int) (C : Int) M = some (mulQ A B C L M) := by
  unfold i_MulMatrices i_areFactors mulQ
  have mR : Mat A C (tabM A C (mulE B C L M)) := tabM_mat m.A1 n.C1
  have gR : FOks (tabM A C (mulE B C L M)) := tabM_oks m.A1 n.C1 (mulE_ok B C L M)
  rw [i_ValidMatrix_eq _ _ g m.le, mat_valid m hA hB, i_ValidMatrix_eq _ _ h n.le, mat_valid n hB hC]
  cases L.all fin32 with
  | false => rfl
  | true =>
    cases M.all fin32 with
    | false => rfl
    | true =>
      have e : decide ((B : Int) = (B : Int)) = true := by simp
      simp only [obind_eq, bsel_true, e, Bool.true_and]
      unfold i_product
      rw [i_made_2Fi_product_1_eq m n, obind3_eq, obind3_eq]
      unfold i_Matrix_valid_02o
      rw [i_ValidMatrix_eq _ _ gR mR.le, mat_valid mR hA hC]
      cases (tabM A C (mulE B C L M)).all fin32 with
      | false => simp [osum, obind, need, obind5, bsel]
      | true => simp [osum, obind, need, obind4, bsel]
def trE (n : Nat) (L : List F) (i : Nat) (y : F) : F := fop .add .f32 y (gm none L n i i)
def trN (n : Nat) (L : List F) : F := run (trE n L) 0 n (some 0)
theorem trN_ok (n : Nat) (L : List F) : FOk .f32 (trN n L) := run_inv (fun _ y => FOk .f32 y) n 0 (some 0) zero_ok fun _ _ _ _ _ => fop_fok _ _ _
def trQ (n : Nat) (L : List F) : F × Bool := bif L.all fin32 && fin32 (trN n L) then (trN n L, true) else (some 0, false)
theorem i_tr_loop {n : Nat} {L : List F} (m : Mat n n L) : loopM (i_Matrix_trace_s1 (n : Int) (n : Int) L) (some 0, 0) = some (.inl (trN n L)) := by
  have hn := m.A1
  exact (loop_run (step := i_Matrix_trace_s1 (n : Int) (n : Int) L) (fun (i : Nat) (y : F) => (y, (i : Int))) (trE n L) (fun y => y) (fun _ _ => True) (lo := 0) (n := n) (Nat.zero_le _) (s0 := some 0) trivial
    (fun i y _ hi _ => by
      refine ⟨?_, trivial⟩
      show i_Matrix_trace_b1 _ _ _ _ _ = _
      unfold i_Matrix_trace_b1
      rw [dlt hi, bsel_true, i_Matrix_at_eq _ m hi hi, obind_eq, olet_eq, wsucc (by omega)]
      rfl)
    (fun y _ => by
      show i_Matrix_trace_b1 _ _ _ _ _ = _
      unfold i_Matrix_trace_b1
      rw [dnlt, bsel_false])).1
theorem i_TraceOf_eq {n : Nat} {L : List F} (m : Mat n n L) (g : FOks L) (hn : 0 < n) : i_TraceOf (n : Int) (n : Int) L = some (trQ n L) := by
  unfold i_TraceOf trQ
  rw [i_isSquare_eq _ _ g m.le, mat_valid m hn hn]
  have e : decide ((n : Int) = (n : Int)) = true := by simp
  rw [e, Bool.and_true, obind_eq]
  cases L.all fin32 with
  | false => rfl
  | true =>
    unfold i_Matrix_trace
    rw [bsel_true, i_tr_loop m, obind_eq, osum_inl]
    unfold i_Matrix_trace_k1 i_finite
    rw [obind_eq, i_IsFinite_eq (trN_ok n L), obind_eq]
    cases fin32 (trN n L) <;> rfl
abbrev gI (l : List Int) (i : Nat) : Int := l.getD i 0
structure SpIn (S : Nat) (a1 a2 : List Int) : Prop where
  S1 : 1 ≤ S
  S2 : S ≤ 32
  l1 : a1.length = S + 1
  l2 : a2.length ≤ 512
  z : gI a1 0 = 0
  e : gI a1 S = (a2.length : Int)
structure SpGood (S : Nat) (a1 a2 : List Int) : Prop where
  s : ∀ i, i < S → gI a1 i ≤ gI a1 (i + 1)
  c : ∀ k, k < a2.length → 0 ≤ gI a2 k ∧ gI a2 k ≤ (S : Int) - 1
  o : ∀ i, i < S → ∀ k : Nat, gI a1 i < (k : Int) → (k : Int) < gI a1 (i + 1) → gI a2 (k - 1) < gI a2 k
theorem SpGood.mono {S : Nat} {a1 a2 : List Int} (h : SpGood S a1 a2) : ∀ (d i : Nat), i + d ≤ S → gI a1 i ≤ gI a1 (i + d)
  | 0, i, _ => Int.le_refl _
  | d + 1, i, hd => Int.le_trans (h.mono d i (by omega)) (h.s (i + d) (by omega))
theorem SpGood.lo {S : Nat} {a1 a2 : List Int} (h : SpGood S a1 a2) (i0 : SpIn S a1 a2) {i : Nat} (hi : i ≤ S) : 0 ≤ gI a1 i ∧ gI a1 i ≤ (a2.length : Int) := by
  have h1 := h.mono i 0 (by omega)
  have h2 := h.mono (S - i) i (by omega)
  rw [Nat.zero_add, i0.z] at h1
  rw [show i + (S - i) = S by omega, i0.e] at h2
  exact ⟨h1, h2⟩
def zipW (f : F → F → F) (n : Nat) (l m : List F) : List F := (List.range n).map fun i => f (l.getD i none) (m.getD i none)
def fms (t x y : F) : F := fop .sub .f32 x (fop .mul .f32 t y)
structure SpOk (S : Nat) (a1 a2 : List Int) (a3 : List F) : Prop where
  i : SpIn S a1 a2
  g : SpGood S a1 a2
  l : a3.length = a2.length
theorem SpOk.row {S : Nat} {a1 a2 : List Int} {a3 : List F} (h : SpOk S a1 a2 a3) {i : Nat} (hi : i < S) : 0 ≤ gI a1 i ∧ gI a1 i ≤ gI a1 (i + 1) ∧ gI a1 (i + 1) ≤ (a2.length : Int) :=
  ⟨(h.g.lo h.i (by omega)).1, h.g.s i hi, (h.g.lo h.i (i := i + 1) (by omega)).2⟩
abbrev GrS := List F × List F × List F × F
def gR (S : Nat) (q : List F) (t : F) (s : GrS) : List F := zipW (fms t) S s.2.1 q
def loK (a1 : List Int) (i : Nat) : Nat := (gI a1 i).toNat
def laK (a1 : List Int) (i : Nat) : Nat := (gI a1 (i + 1)).toNat - 1
structure Root (S : Nat) (a1 a2 : List Int) (a3 : List F) : Prop where
  ok : SpOk S a1 a2 a3
  low : ∀ i, i < S → gI a1 i ≤ gI a1 (i + 1) - 1 ∧ gI a2 (laK a1 i) = (i : Int)
theorem Root.at {S : Nat} {a1 a2 : List Int} {a3 : List F} (h : Root S a1 a2 a3) {i : Nat} (hi : i < S) : loK a1 i ≤ laK a1 i ∧ laK a1 i < a2.length ∧ ((laK a1 i : Nat) : Int) = gI a1 (i + 1) - 1 ∧ ((loK a1 i : Nat) : Int) = gI a1 i := by
  obtain ⟨r1, r2, r3⟩ := h.ok.row hi
  obtain ⟨q1, _⟩ := h.low i hi
  unfold loK laK
  omega
def vget (v : List F) (x : Int) : F := v.getD x.toNat none
def Names (n : Nat) (L : List Int) : Prop := ∀ x ∈ L, 0 ≤ x ∧ x < (n : Int)
theorem Names.at {n : Nat} {L : List Int} (h : Names n L) {j : Nat} (hj : j < L.length) : 0 ≤ L.getD j 0 ∧ L.getD j 0 < (n : Int) := by
  rw [List.getD_eq_getElem?_getD, List.getElem?_eq_getElem hj]
  exact h _ (List.getElem_mem hj)
theorem Names.set {n : Nat} {L : List Int} (h : Names n L) {j : Nat} {x : Int} (hx : 0 ≤ x ∧ x < (n : Int)) : Names n (L.set j x) := fun y hy => (List.mem_or_eq_of_mem_set hy).elim (fun k => h y k) (fun k => by rw [k]; exact hx)
def swapG {α : Type} (d : α) (j : Nat) (L : List α) : List α := (L.set (j + 1) (L.getD j d)).set j (L.getD (j + 1) d)
def insG {α : Type} (d : α) (lt : α → α → Bool) : Nat → List α → List α
  | 0, L => L
  | j + 1, L => bif lt (L.getD (j + 1) d) (L.getD j d) then insG d lt j (swapG d j L) else L
theorem swapG_len {α : Type} {d : α} {j : Nat} {L : List α} : (swapG d j L).length = L.length := by simp [swapG]
theorem insG_len {α : Type} {d : α} {lt : α → α → Bool} : ∀ (j : Nat) (L : List α), (insG d lt j L).length = L.length
  | 0, _ => rfl
  | j + 1, L => by
    unfold insG
    cases lt (L.getD (j + 1) d) (L.getD j d) with
    | false => rfl
    | true => rw [cond_true, insG_len j, swapG_len]
theorem getD_appG {α : Type} {d : α} {P R : List α} {j : Nat} (h : j < P.length) : (P ++ R).getD j d = P.getD j d := by
  rw [List.getD_eq_getElem?_getD, List.getElem?_append_left h, ← List.getD_eq_getElem?_getD]
theorem swapG_app {α : Type} {d : α} {j : Nat} {P R : List α} (h : j + 1 < P.length) : swapG d j (P ++ R) = swapG d j P ++ R := by
  unfold swapG
  rw [getD_appG h, getD_appG (by omega), List.set_append_left _ _ h, List.set_append_left _ _ (by simp; omega)]
theorem insG_app {α : Type} {d : α} {lt : α → α → Bool} : ∀ (j : Nat) (P R : List α), j < P.length → insG d lt j (P ++ R) = insG d lt j P ++ R
  | 0, _, _, _ => rfl
  | j + 1, P, R, h => by
    unfold insG
    rw [getD_appG h, getD_appG (by omega)]
    cases lt (P.getD (j + 1) d) (P.getD j d) with
    | false => rfl
    | true => rw [cond_true, cond_true, swapG_app h]; exact insG_app j _ _ (by rw [swapG_len]; omega)
theorem swapG_end {α : Type} {d : α} (Q : List α) (a x : α) : swapG d Q.length (Q ++ [a, x]) = Q ++ [x, a] := by
  unfold swapG
  have e1 : (Q ++ [a, x]).getD Q.length d = a := by simp [List.getD_eq_getElem?_getD]
  have e2 : (Q ++ [a, x]).getD (Q.length + 1) d = x := by simp [List.getD_eq_getElem?_getD]
  rw [e1, e2, List.set_append_right _ _ (by omega), List.set_append_right _ _ (by omega)]
  simp
theorem insG_mem {α : Type} {d : α} {lt : α → α → Bool} : ∀ (j : Nat) (P : List α) (x : α), P.length = j → (insG d lt j (P ++ [x])).Perm (P ++ [x])
  | 0, _, _, _ => List.Perm.refl _
  | j + 1, P, x, h => by
    have hne : P ≠ [] := by intro e; rw [e] at h; cases h
    obtain ⟨Q, a, rfl⟩ : ∃ Q a, P = Q ++ [a] := ⟨P.dropLast, P.getLast hne, (List.dropLast_concat_getLast hne).symm⟩
    have hQ : Q.length = j := by simpa using h
    unfold insG
    have e0 : Q ++ [a] ++ [x] = Q ++ [a, x] := by simp
    have e1 : (Q ++ [a, x]).getD j d = a := by subst hQ; simp [List.getD_eq_getElem?_getD]
    have e2 : (Q ++ [a, x]).getD (j + 1) d = x := by subst hQ; simp [List.getD_eq_getElem?_getD]
    rw [e0, e1, e2]
    cases lt x a with
    | false => exact List.Perm.refl _
    | true =>
      rw [cond_true]
      have e3 : swapG d j (Q ++ [a, x]) = (Q ++ [x]) ++ [a] := by subst hQ; rw [swapG_end]; simp
      rw [e3, insG_app j _ _ (by simp; omega)]
      refine ((insG_mem j Q x hQ).append_right [a]).trans ?_
      rw [List.append_assoc]
      exact List.Perm.append_left Q (List.Perm.swap a x [])
def sortG {α : Type} (d : α) (lt : α → α → Bool) (L : List α) : Nat → List α
  | 0 => []
  | n + 1 => insG d lt n (sortG d lt L n ++ [L.getD n d])
theorem sortG_len {α : Type} {d : α} {lt : α → α → Bool} {L : List α} : ∀ n, (sortG d lt L n).length = n
  | 0 => rfl
  | n + 1 => by unfold sortG; rw [insG_len]; simp [sortG_len n]
theorem sortG_perm {α : Type} {d : α} {lt : α → α → Bool} {L : List α} : ∀ n, n ≤ L.length → (sortG d lt L n).Perm (L.take n)
  | 0, _ => by simp [sortG]
  | n + 1, h => by
    unfold sortG
    refine (insG_mem n _ _ (sortG_len n)).trans ?_
    rw [List.take_succ_eq_append_getElem (by omega)]
    have : L.getD n d = L[n] := by
      rw [List.getD_eq_getElem?_getD, List.getElem?_eq_getElem (by omega)]; rfl
    rw [this]
    exact (sortG_perm n (by omega)).append_right _
theorem sortG_mem {α : Type} {d : α} {lt : α → α → Bool} {L : List α} {n : Nat} (h : n ≤ L.length) {x : α} (hx : x ∈ sortG d lt L n) : x ∈ L := List.mem_of_mem_take ((sortG_perm n h).mem_iff.1 hx)
theorem wpredG {j : Nat} (h : j ≤ 1000000000) : IntKind.i64.wrap (((j + 1 : Nat) : Int) - 1) = (j : Int) := by rw [wrap_i64 (by omega) (by omega)]; omega
theorem loop_insG {α β ρ : Type} {d : α} {lt : α → α → Bool} {step : β × Int → Option (LR (β × Int) β ρ)} (f : List α → β) (h0 : ∀ L, step (f L, 0) = some (.out (f L))) (Ok : List α → Prop) (hok : ∀ j L, Ok L → j + 1 < L.length → Ok (swapG d j L))
    (hs : ∀ (j : Nat) (L : List α), Ok L → j + 1 < L.length → L.length ≤ 1000000 → step (f L, ((j + 1 : Nat) : Int)) = some (bif lt (L.getD (j + 1) d) (L.getD j d) then .next (f (swapG d j L), (j : Int)) else .out (f L))) :
    ∀ (j : Nat) (L : List α), Ok L → j < L.length → L.length ≤ 1000000 → loopM step (f L, (j : Int)) = some (.inl (f (insG d lt j L)))
  | 0, L, _, _, _ => loopM_out (h0 L)
  | j + 1, L, h, hj, hl => by
    have e := hs j L h hj hl
    unfold insG
    cases hc : lt (L.getD (j + 1) d) (L.getD j d) with
    | false => rw [hc, cond_false] at e; rw [loopM_out e]; rfl
    | true =>
      rw [hc, cond_true] at e
      rw [loopM_next e, cond_true]
      exact loop_insG f h0 Ok hok hs j _ (hok j L h hj) (by rw [swapG_len]; omega) (by rw [swapG_len]; omega)
theorem loop_sortG {α ρ : Type} {d : α} {lt : α → α → Bool} {step : List α × Int → Option (LR (List α × Int) (List α) ρ)} {R : List α} {n : Nat} (hR : R.length = n) (h0 : 0 < n)
    (hs : ∀ (i : Nat) (L : List α), 1 ≤ i → i < n → L.length = n → (∀ x ∈ L, x ∈ R) → step (L, (i : Int)) = some (.next (insG d lt i L, ((i + 1 : Nat) : Int)))) (he : ∀ L, step (L, (n : Int)) = some (.out L)) : loopM step (R, 1) = some (.inl (sortG d lt R n)) := by
  have hd : ∀ i, i < n → R.drop i = R.getD i d :: R.drop (i + 1) := fun i hi => by
    rw [List.drop_eq_getElem_cons (by omega)]
    congr 1
    rw [List.getD_eq_getElem?_getD, List.getElem?_eq_getElem (by omega)]; rfl
  have e := (loop_run (step := step) (fun (i : Nat) (_ : Unit) => (sortG d lt R i ++ R.drop i, (i : Int))) (fun _ _ => ()) (fun _ => sortG d lt R n) (fun _ _ => True) (lo := 1) (n := n) h0 (s0 := ()) trivial
    (fun i _ h1 hi _ => by
      refine ⟨?_, trivial⟩
      rw [hs i _ h1 hi (by rw [List.length_append, sortG_len, List.length_drop]; omega) (fun x hx => by
        rcases List.mem_append.1 hx with hx | hx
        · exact sortG_mem (by omega) hx
        · exact List.mem_of_mem_drop hx)]
      rw [hd i hi]
      have : sortG d lt R i ++ R.getD i d :: R.drop (i + 1) = (sortG d lt R i ++ [R.getD i d]) ++ R.drop (i + 1) := by simp
      rw [this, insG_app i _ _ (by simp [sortG_len])]
      rfl)
    (fun _ _ => by
      rw [he, List.drop_of_length_le (by omega), List.append_nil])).1
  have h1 : sortG d lt R 1 ++ R.drop 1 = R := by
    show [] ++ [R.getD 0 d] ++ R.drop 1 = R
    have := hd 0 h0
    rw [List.drop_zero] at this
    rw [List.nil_append, List.singleton_append, ← this]
  replace e : loopM step (sortG d lt R 1 ++ R.drop 1, 1) = some (.inl (sortG d lt R n)) := e
  rw [h1] at e
  exact e
theorem vget_mem {v : List F} {x : Int} (h0 : 0 ≤ x) (h1 : x < (v.length : Int)) : vget v x ∈ v := by
  unfold vget
  rw [List.getD_eq_getElem?_getD, List.getElem?_eq_getElem (by omega)]
  exact List.getElem_mem _
def wkey (c : F) : Nat := c.getD 0
def sqW (v : List F) (x : Int) : Nat := wkey (vget v x)
def SqOk (v : List F) : Prop := ∀ c ∈ v, ∃ b, c = some b ∧ b ≤ 2139095040
theorem SqOk.at {v : List F} (h : SqOk v) {x : Int} (h0 : 0 ≤ x) (h1 : x < (v.length : Int)) : vget v x = some (sqW v x) ∧ sqW v x ≤ 2139095040 := by
  obtain ⟨b, e, hb⟩ := h _ (vget_mem h0 h1)
  unfold sqW
  rw [e]; exact ⟨rfl, hb⟩
theorem upTo_getD {n m : Nat} (h : n < m) : (upTo m).getD n 0 = (n : Int) := by
  simp [upTo, List.getD_eq_getElem?_getD, List.getElem?_range, h]
def ltI (x y : Int) : Bool := decide (x < y)
theorem x_cmp_Less_int64_eq (x y : Int) : x_cmp_Less_int64 x y = some (ltI x y) := by
  unfold x_cmp_Less_int64 x_cmp_isNaN_int64
  rw [obind_eq, decide_eq_true (rfl : x = x)]
  rfl
theorem x_slices_insertionSortOrdered_int64_0o_eq {R : List Int} {n : Nat} (hR : R.length = n) (hn : n ≤ 12) : x_slices_insertionSortOrdered_int64_0o 0 (n : Int) R = some (sortG 0 ltI R n) := by
  have inner : ∀ (j : Nat) (L : List Int), j < L.length → L.length ≤ 1000000 → loopM (x_slices_insertionSortOrdered_int64_0o_s2 0) (L, (j : Int)) = some (.inl (insG 0 ltI j L)) := fun j L hj hl =>
    loop_insG (fun L => L) (fun L => by
      show x_slices_insertionSortOrdered_int64_0o_b2 _ _ _ = _
      unfold x_slices_insertionSortOrdered_int64_0o_b2
      rw [show decide ((0 : Int) < 0) = false from rfl, bsel_false]) (fun _ => True) (fun _ _ _ _ => trivial) (fun j L _ hj hl => by
      show x_slices_insertionSortOrdered_int64_0o_b2 _ _ _ = _
      unfold x_slices_insertionSortOrdered_int64_0o_b2
      dsimp only
      have hd : decide ((0 : Int) < ((j + 1 : Nat) : Int)) = true := decide_eq_true (by omega)
      have l1 : ∀ x : Int, j < (L.set (j + 1) x).length := fun x => by simp; omega
      rw [hd, bsel_true, at?_n 0 hj, obind_eq, wpredG (by omega), olet_eq, at?_n 0 (by omega), obind_eq, x_cmp_Less_int64_eq, obind_eq]
      cases ltI (L.getD (j + 1) 0) (L.getD j 0) with
      | false => rfl
      | true =>
        rw [bsel_true, olet_eq, olet_eq, at?_n 0 (by omega), obind_eq, obind_eq, setAt?_n _ hj, obind_eq, setAt?_n _ (l1 _), obind_eq, olet_eq]
        rfl) j L trivial hj hl
  unfold x_slices_insertionSortOrdered_int64_0o
  rw [show IntKind.i64.wrap (0 + 1) = 1 from rfl, olet_eq]
  have he : ∀ (L : List Int) (k : Int), (n : Int) ≤ k → x_slices_insertionSortOrdered_int64_0o_s3 0 (n : Int) (L, k) = some (.out L) := fun L k hk => by
    show x_slices_insertionSortOrdered_int64_0o_b3 _ _ _ _ = _
    unfold x_slices_insertionSortOrdered_int64_0o_b3
    dsimp only
    rw [show decide (k < (n : Int)) = false from decide_eq_false (by omega), bsel_false]
  by_cases h0 : 0 < n
  · have e := loop_sortG (d := 0) (lt := ltI) (step := x_slices_insertionSortOrdered_int64_0o_s3 0 (n : Int)) hR h0
      (fun i L h1 hi hl _ => by
        show x_slices_insertionSortOrdered_int64_0o_b3 _ _ _ _ = _
        unfold x_slices_insertionSortOrdered_int64_0o_b3
        dsimp only
        rw [dlt hi, bsel_true, inner i L (by omega) (by omega), obind_eq, osum_inl]
        unfold x_slices_insertionSortOrdered_int64_0o_k2
        rw [wsucc (by omega)]; rfl)
      (fun L => he L n (Int.le_refl _))
    rw [e]; rfl
  · have hn0 : n = 0 := by omega
    subst hn0
    have : R = [] := List.length_eq_zero_iff.1 hR
    subst this
    rw [loopM_out (he [] 1 (by omega))]; rfl
theorem bitsLen_some {n : Nat} (h : n ≤ 12) : ∃ r, x_math_bits_Len (n : Int) = some r := by
  have hn : n = 0 ∨ n = 1 ∨ n = 2 ∨ n = 3 ∨ n = 4 ∨ n = 5 ∨ n = 6 ∨ n = 7 ∨ n = 8 ∨ n = 9 ∨ n = 10 ∨ n = 11 ∨ n = 12 := by omega
  have : (x_math_bits_Len (n : Int)).isSome = true := by
    rcases hn with rfl | rfl | rfl | rfl | rfl | rfl | rfl | rfl | rfl | rfl | rfl | rfl | rfl <;> kernel_rfl
  exact Option.isSome_iff_exists.1 this
theorem x_slices_Sort_int64_int64_0o_eq {R : List Int} (hn : R.length ≤ 12) : x_slices_Sort_int64_int64_0o R = some (sortG 0 ltI R R.length) := by
  unfold x_slices_Sort_int64_int64_0o x_slices_pdqsortOrdered_int64_0o
  obtain ⟨r, hr⟩ := bitsLen_some hn
  have hw : IntKind.u64.wrap ((R.length : Nat) : Int) = ((R.length : Nat) : Int) := by
    simp only [IntKind.wrap, IntKind.bits, IntKind.signed]
    simp
    omega
  have e : loopM (x_slices_pdqsortOrdered_int64_0o_s1 0 ((R.length : Nat) : Int) r R) () = some (.inr (sortG 0 ltI R R.length)) := by
    refine loopM_ret ?_
    show x_slices_pdqsortOrdered_int64_0o_b1 _ _ _ _ = _
    unfold x_slices_pdqsortOrdered_int64_0o_b1
    have h1 : IntKind.i64.wrap ((R.length : Int) - 0) = (R.length : Int) := by rw [wrap_i64 (by omega) (by omega)]; omega
    rw [h1, olet_eq, show decide ((R.length : Int) ≤ 12) = true from decide_eq_true (by omega), bsel_true, x_slices_insertionSortOrdered_int64_0o_eq rfl hn, obind_eq, sortG_len, decide_eq_true rfl, need_true]
  rw [hw, olet_eq, hr, obind_eq, e, obind_eq, osum_inr, obind_eq, sortG_len, decide_eq_true rfl, need_true]
def ordB (l : List Int) : Bool := decide (1 ≤ l.length) && (decide (l.length ≤ 12) && decide (sortG 0 ltI l l.length = upTo l.length))
theorem x_slices_Sorted_eq {l : List Int} (h : l.length ≤ 12) : x_slices_Sorted_int64_0Fx_slices_Values_int64_int64_1 l = some (sortG 0 ltI l l.length) := by
  unfold x_slices_Sorted_int64_0Fx_slices_Values_int64_int64_1 x_slices_Collect_int64_0Fx_slices_Values_int64_int64_1 x_slices_AppendSeq
  rw [show decide ((l.length : Int) * 8 ≤ 140737488351232) = true from decide_eq_true (by omega), need_true, obind_eq, obind_eq, x_slices_Sort_int64_int64_0o_eq h, obind_eq, sortG_len, decide_eq_true rfl, need_true]
theorem i_IsOrder_eq (l : List Int) : i_IsOrder l = some (ordB l) := by
  unfold i_IsOrder i_length_int64 ordB
  rw [obind_eq, i_isSide_eq, obind_eq]
  unfold side
  by_cases h1 : 1 ≤ l.length
  · rw [decide_eq_true (show (1 : Int) ≤ (l.length : Int) by omega), decide_eq_true h1, Bool.true_and, Bool.true_and]
    by_cases h2 : l.length ≤ 12
    · rw [decide_eq_true (show (l.length : Int) ≤ 12 by omega), decide_eq_true h2, Bool.true_and, bsel_true]
      unfold i_isPermutation x_slices_Values_int64_int64
      rw [obind_eq, x_slices_Sorted_eq h2, obind_eq]
      have e := loop_eq (l := sortG 0 ltI l l.length) (m := upTo l.length) (by rw [sortG_len, upTo_len]) (step := i_isPermutation_s1 (sortG 0 ltI l l.length)) (fun v x y h0 h1 hx hy => by
        rw [sortG_len] at h1
        have hv : v = ((v.toNat : Nat) : Int) := by omega
        have hlt : v.toNat < l.length := by omega
        have hy : y = v := by
          have := upTo_getD hlt
          rw [List.getD_eq_getElem?_getD, hy] at this
          have : y = (v.toNat : Int) := this
          omega
        subst hy
        have ha : at? (sortG 0 ltI l l.length) y = some x := at?_of h0 hx
        show i_isPermutation_b1 _ _ = _
        unfold i_isPermutation_b1
        rw [sortG_len, show decide (y < ((l.length : Nat) : Int)) = true from decide_eq_true (by omega), bsel_true, ha, obind_eq, wrap_i64 (by omega) (by omega)]
        by_cases e : x = y
        · rw [if_pos e, decide_eq_true e]; rfl
        · rw [if_neg e, decide_eq_false e]; rfl) (by
        show i_isPermutation_b1 _ _ = _
        unfold i_isPermutation_b1
        rw [dnlt, bsel_false])
      rw [e]
      by_cases hs : sortG 0 ltI l l.length = upTo l.length
      · rw [if_pos hs, decide_eq_true hs]; rfl
      · rw [if_neg hs, decide_eq_false hs]; rfl
    · rw [decide_eq_false (show ¬ (l.length : Int) ≤ 12 by omega), decide_eq_false h2, Bool.false_and, bsel_false]
  · rw [decide_eq_false (show ¬ (1 : Int) ≤ (l.length : Int) by omega), decide_eq_false h1, Bool.false_and, Bool.false_and, bsel_false]
def vecB (b : List F) : Bool := decide (1 ≤ b.length) && (decide (b.length ≤ 256) && b.all fin32)
theorem i_IsVector_eq {b : List F} (g : FOks b) (s : b.length ≤ 1048576) : i_IsVector b = some (vecB b) := by
  unfold i_IsVector i_length_float32 vecB
  rw [obind_eq, i_inRange_eq, obind_eq]
  by_cases h1 : 1 ≤ b.length
  · rw [decide_eq_true h1, decide_eq_true (show (1 : Int) ≤ (b.length : Int) by omega), Bool.true_and, Bool.true_and]
    by_cases h2 : b.length ≤ 256
    · rw [decide_eq_true h2, decide_eq_true (show (b.length : Int) ≤ 256 by omega), bsel_true, Bool.true_and, i_areFinite_eq g s, obind_eq]
    · rw [decide_eq_false h2, decide_eq_false (show ¬ (b.length : Int) ≤ 256 by omega), bsel_false, Bool.false_and]
  · rw [decide_eq_false h1, decide_eq_false (show ¬ (1 : Int) ≤ (b.length : Int) by omega), Bool.false_and, Bool.false_and, bsel_false]
theorem wi64 {n : Int} (h0 : -9000000000000000000 ≤ n) (h1 : n ≤ 9000000000000000000) : IntKind.i64.wrap n = n := wrap_i64 (by omega) (by omega)
theorem drop_at {α : Type} {l : List α} {j : Nat} {x : α} (h : l[j]? = some x) : l.drop j = x :: l.drop (j + 1) := by
  have hj := lt_of_getElem? h
  rw [List.drop_eq_getElem_cons hj]
  rw [List.getElem?_eq_getElem hj] at h
  rw [Option.some.inj h]
def hexD (d : Nat) : Int := if d < 10 then 48 + (d : Int) else 87 + (d : Int)
theorem u64_wrap {n : Int} (h0 : 0 ≤ n) (h1 : n < 18446744073709551616) : IntKind.u64.wrap n = n := by
  simp only [IntKind.wrap, IntKind.bits, IntKind.signed]
  simp
  omega
def hxb (d : Nat) : UInt8 := UInt8.ofNat (hexD d).toNat
def hU : Nat → Nat → List UInt8
  | 0, _ => []
  | k + 1, n => hxb (n / 16 ^ k % 16) :: hU k n
def Byt (l : List Int) : Prop := ∀ z ∈ l, 0 ≤ z ∧ z < 256
theorem byt_of {l : List Int} (h : ∀ z ∈ l, (Lit.int .u8 z).wf = true) : Byt l := by
  intro z hz
  have := h z hz
  have e0 : IntKind.u8.min = 0 := by decide
  have e1 : IntKind.u8.max = 255 := by decide
  simp only [Lit.wf, e0, e1, Bool.and_eq_true, decide_eq_true_eq] at this
  constructor <;> omega
theorem iand255 (x : Int) : ∃ d : Nat, d < 256 ∧ iand .u64 x 255 = (d : Int) := by
  have hle : (BitVec.ofInt 64 x &&& BitVec.ofInt 64 255).toNat ≤ 255 := by
    rw [BitVec.toNat_and, show (BitVec.ofInt 64 255).toNat = 255 from by decide]
    exact Nat.and_le_right
  refine ⟨_, Nat.lt_of_le_of_lt hle (by decide), ?_⟩
  show IntKind.u64.wrap (((BitVec.ofInt 64 x &&& BitVec.ofInt 64 255).toNat : Nat) : Int) = _
  exact u64_wrap (by omega) (by omega)
theorem src_k1 {a : List Int} {t v : Nat} {s : Int} (ht : t ≤ 1000000) (hv : v < 256) : ∃ (w : Nat) (s' : Int), w < 256 ∧ s_l00Src_next_0p0_C0_k1 a (t : Int) s (v : Int) = some ((w : Int), ((t + 1 : Nat) : Int), s') := by
  unfold s_l00Src_next_0p0_C0_k1
  simp only [olet_eq]
  rw [wsucc (by omega)]
  generalize IntKind.u64.wrap (IntKind.u64.wrap (IntKind.u64.wrap (s * 6364136223846793005) + IntKind.u64.wrap (v : Int)) + 1442695040888963407) = X
  by_cases h : t + 1 ≤ a.length
  · rw [decide_eq_true (by omega), bsel_true]; exact ⟨v, _, hv, rfl⟩
  · obtain ⟨d, hd, e⟩ := iand255 (ishr .u64 X 40)
    rw [decide_eq_false (by omega), bsel_false, show decide ((0 : Int) ≤ 40) = true from rfl, need_true, e, wi64 (by omega) (by omega)]
    exact ⟨d, _, hd, rfl⟩
theorem src_next {a : List Int} (ha : Byt a) {t : Nat} (ht : t ≤ 1000000) (s : Int) : ∃ (v : Nat) (s' : Int), v < 256 ∧ s_l00Src_next_0p0_C0 a (t : Int) s = some ((v : Int), ((t + 1 : Nat) : Int), s') := by
  by_cases h : t < a.length
  · obtain ⟨x, hx⟩ : ∃ x, a[t]? = some x := ⟨_, List.getElem?_eq_getElem h⟩
    obtain ⟨x0, x1⟩ := ha x (List.mem_of_getElem? hx)
    have e : s_l00Src_next_0p0_C0 a (t : Int) s = s_l00Src_next_0p0_C0_k1 a (t : Int) s ((x.toNat : Nat) : Int) := by
      unfold s_l00Src_next_0p0_C0
      rw [decide_eq_true (by omega), bsel_true, at?_of (by omega) (by rw [show (t : Int).toNat = t from by omega]; exact hx), obind_eq, olet_eq, wi64 (by omega) (by omega)]
      congr 1; omega
    rw [e]; exact src_k1 ht (by omega)
  · have e : s_l00Src_next_0p0_C0 a (t : Int) s = s_l00Src_next_0p0_C0_k1 a (t : Int) s ((0 : Nat) : Int) := by
      unfold s_l00Src_next_0p0_C0
      rw [decide_eq_false (by omega), bsel_false]
      congr 1
    rw [e]; exact src_k1 ht (by decide)
theorem src_pick {a : List Int} (ha : Byt a) {n t : Nat} (h1 : 1 ≤ n) (h2 : n ≤ 200) (ht : t ≤ 1000000) (s : Int) : ∃ (v t' : Nat) (s' : Int), v < n ∧ t' ≤ t + 1 ∧ s_l00Src_pick_0p0_C0 (n : Int) a (t : Int) s = some ((v : Int), (t' : Int), s') := by
  unfold s_l00Src_pick_0p0_C0
  by_cases h : n ≤ 1
  · rw [decide_eq_true (by omega), bsel_true]; exact ⟨0, t, s, by omega, by omega, rfl⟩
  · obtain ⟨v, s', hv, e⟩ := src_next ha ht s
    rw [decide_eq_false (by omega), bsel_false, e, obind3_eq, decide_eq_false (by omega), bsel_false]
    unfold s_l00Src_pick_0p0_C0_k1
    rw [decide_eq_false (by omega), Bool.not_false, need_true]
    simp only [olet_eq]
    refine ⟨v % n, t + 1, s', Nat.mod_lt _ (by omega), Nat.le_refl _, ?_⟩
    rw [Int.tmod_eq_emod_of_nonneg (by omega), Int.natCast_emod]
theorem r8at {a : List Int} (ha : Byt a) {k n : Nat} (h1 : 1 ≤ n) : ∃ v : Nat, v < n ∧ w_r8At a (k : Int) (n : Int) = some (v : Int) := by
  unfold w_r8At
  by_cases h : n ≤ 1
  · rw [decide_eq_true (by omega), bsel_true]; exact ⟨0, by omega, rfl⟩
  · rw [decide_eq_false (by omega), bsel_false]
    by_cases hk : a.length ≤ k
    · rw [decide_eq_true (by omega), bsel_true]; exact ⟨0, by omega, rfl⟩
    · obtain ⟨x, hx⟩ : ∃ x, a[k]? = some x := ⟨_, List.getElem?_eq_getElem (by omega)⟩
      obtain ⟨x0, x1⟩ := ha x (List.mem_of_getElem? hx)
      rw [decide_eq_false (by omega), bsel_false, at?_of (by omega) (by rw [show (k : Int).toNat = k from by omega]; exact hx), obind_eq]
      simp only [olet_eq]
      rw [wi64 (by omega) (by omega), decide_eq_false (by omega), Bool.not_false, need_true]
      refine ⟨x.toNat % n, Nat.mod_lt _ (by omega), ?_⟩
      rw [Int.tmod_eq_emod_of_nonneg (by omega), Int.natCast_emod, show ((x.toNat : Nat) : Int) = x from by omega]
def Qd (x : F) : Prop := ∃ q : Int, q.natAbs ≤ 16 ∧ Dy .f32 2 q x
open Classical in
noncomputable def qv (x : F) : Int := if h : Qd x then h.choose else 0
theorem qv_le (x : F) : (qv x).natAbs ≤ 16 := by
  unfold qv
  split
  · rename_i h; exact h.choose_spec.1
  · decide
theorem qd_dy {x : F} (h : Qd x) : Dy .f32 2 (qv x) x := by
  unfold qv
  rw [dif_pos h]; exact h.choose_spec.2
theorem four_dy : Dy .f32 0 4 (some 1082130432) := by
  have e : fint .f32 4 = some 1082130432 := by decide +kernel
  rw [← e]; exact Dy.int (by decide)
theorem quarter {n : Int} (h : n.natAbs ≤ 16) : Qd (fop .quo .f32 (fint .f32 n) (some 1082130432)) := by
  have hd : (2 : Nat) ^ dgn .f32 = 16777216 := by decide
  have h1 : Dy .f32 0 n (fint .f32 n) := Dy.int (by omega)
  have h2 := h1.scale (t := 2) (by decide)
  exact ⟨n, h, Dy.quo (s := 2) (t := 0) h2 four_dy (by decide) (by omega) (by omega)⟩
theorem draw_loop {a : List Int} (ha : Byt a) : ∀ (m t : Nat) (L : List F) (s : Int), t + m ≤ 800000 → L.length + m ≤ 1000 →
    ∃ (L' : List F) (t' : Nat) (s' : Int), L'.length = m ∧ t' ≤ t + m ∧ (∀ x ∈ L', Qd x) ∧ loopM (s_l02DrawSides_0p0_C0_s1 a) (L, (t : Int), s, (m : Int)) = some (.inl (L ++ L', (t' : Int), s'))
  | 0, t, L, s, ht, hL => by
    refine ⟨[], t, s, rfl, by omega, fun x hx => by simp at hx, ?_⟩
    rw [loopM_out (e := (L, (t : Int), s))]
    · simp
    · show s_l02DrawSides_0p0_C0_b1 a L (t : Int) s ((0 : Nat) : Int) = _
      unfold s_l02DrawSides_0p0_C0_b1
      rw [decide_eq_false (by omega), bsel_false]
  | m + 1, t, L, s, ht, hL => by
    obtain ⟨v, t1, s1, hv, ht1, e⟩ := src_pick ha (n := 33) (t := t) (by decide) (by decide) (by omega) s
    have e : s_l00Src_pick_0p0_C0 33 a (t : Int) s = _ := e
    have st : s_l02DrawSides_0p0_C0_s1 a (L, (t : Int), s, ((m + 1 : Nat) : Int)) = some (.next (L ++ [fop .quo .f32 (fint .f32 ((v : Int) - 16)) (some 1082130432)], (t1 : Int), s1, (m : Int))) := by
      show s_l02DrawSides_0p0_C0_b1 a L (t : Int) s ((m + 1 : Nat) : Int) = _
      unfold s_l02DrawSides_0p0_C0_b1
      rw [decide_eq_true (by omega), bsel_true, e, obind3_eq]
      simp only [olet_eq]
      rw [wi64 (by omega) (by omega), show apok 4 L.length 1 = true from by simp only [apok, Bool.and_eq_true, decide_eq_true_eq]; omega, need_true, wi64 (by omega) (by omega), show ((m + 1 : Nat) : Int) - 1 = (m : Int) from by omega]
    obtain ⟨L', t', s', h1, h2, h3, h4⟩ := draw_loop ha m t1 (L ++ [fop .quo .f32 (fint .f32 ((v : Int) - 16)) (some 1082130432)]) s1 (by omega) (by simp; omega)
    refine ⟨fop .quo .f32 (fint .f32 ((v : Int) - 16)) (some 1082130432) :: L', t', s', by simp [h1], by omega, ?_, ?_⟩
    · intro x hx
      rcases List.mem_cons.1 hx with rfl | hx
      · exact quarter (by omega)
      · exact h3 x hx
    · rw [loopM_next st, h4]; simp
structure QM (A C : Nat) (L : List F) : Prop where
  m : Mat A C L
  q : ∀ x ∈ L, Qd x
theorem QM.at {A C : Nat} {L : List F} (h : QM A C L) {i k : Nat} (hi : i < A) (hk : k < C) : Qd (gm none L C i k) := by
  have := h.m.lt hi hk
  unfold gm
  exact h.q _ (List.mem_of_getElem? (getD_of_lt none this))
theorem QM.oks {A C : Nat} {L : List F} (h : QM A C L) : FOks L := fun x hx => (qd_dy (h.q x hx)).fok
theorem QM.fin {A C : Nat} {L : List F} (h : QM A C L) : L.all fin32 = true := List.all_eq_true.2 fun x hx => (qd_dy (h.q x hx)).fin
theorem draw_sides {a : List Int} (ha : Byt a) {R C t : Nat} (hR : R ≤ 12) (hC : C ≤ 12) (ht : t ≤ 1000) (s : Int) :
    ∃ (L : List F) (t' : Nat) (s' : Int), QM R C L ∧ t' ≤ t + 144 ∧ s_l02DrawSides_0p0_C0 (R : Int) (C : Int) a (t : Int) s = some ((R : Int), (C : Int), (t' : Int), s', L) := by
  have hRC := small_mul hR hC
  obtain ⟨L, t', s', h1, h2, h3, h4⟩ := draw_loop ha (R * C) t [] s (by omega) (by simp; omega)
  refine ⟨L, t', s', ⟨⟨hR, hC, h1⟩, h3⟩, by omega, ?_⟩
  unfold s_l02DrawSides_0p0_C0 s_l02Blank
  rw [obind3_eq, ← Int.natCast_mul, wn (by omega), olet_eq, h4]
  simp only [obind_eq, osum]
  unfold s_l02DrawSides_0p0_C0_k1
  rw [List.nil_append]
theorem r8sides {a : List Int} (ha : Byt a) {R C : Nat} (hR : R ≤ 12) (hC : C ≤ 12) : ∃ L : List F, QM R C L ∧ s_R8Sides a (R : Int) (C : Int) = some ((R : Int), (C : Int), L) := by
  obtain ⟨L, t', s', h1, _, h2⟩ := draw_sides ha (t := 0) hR hC (by omega) 0
  refine ⟨L, h1, ?_⟩
  unfold s_R8Sides s_l00From
  have h2 : s_l02DrawSides_0p0_C0 (R : Int) (C : Int) a 0 0 = _ := h2
  rw [obind3_eq, h2, obind5_eq]
def isum (f : Nat → Int) : Nat → Int
  | 0 => 0
  | n + 1 => isum f n + f n
theorem isum_le {f : Nat → Int} {B : Nat} : ∀ {n : Nat}, (∀ j, j < n → (f j).natAbs ≤ B) → (isum f n).natAbs ≤ n * B
  | 0, _ => by simp [isum]
  | n + 1, h => by
    have h1 := isum_le (n := n) fun j hj => h j (by omega)
    have h2 := h n (by omega)
    unfold isum
    rw [Nat.add_mul, Nat.one_mul]; omega
theorem isum_congr {f g : Nat → Int} : ∀ {n : Nat}, (∀ j, j < n → f j = g j) → isum f n = isum g n
  | 0, _ => rfl
  | n + 1, h => by
    unfold isum
    rw [isum_congr (n := n) fun j hj => h j (by omega), h n (by omega)]
theorem isum_delta (f : Nat → Int) (k : Nat) : ∀ n : Nat, isum (fun j => f j * (if j = k then 1 else 0)) n = if k < n then f k else 0
  | 0 => by simp [isum]
  | n + 1 => by
    unfold isum
    rw [isum_delta f k n]
    by_cases h : n = k
    · subst h
      rw [if_neg (by omega), if_pos rfl, if_pos (by omega)]; omega
    · rw [if_neg h]
      by_cases h2 : k < n
      · rw [if_pos h2, if_pos (by omega)]; omega
      · rw [if_neg h2, if_neg (by omega)]; omega
theorem dotN_dy {f g : Nat → F} {p q : Nat → Int} {s t B : Nat} (hst : s + t ≤ 149) : ∀ n : Nat, (∀ j, j < n → Dy .f32 s (p j) (f j) ∧ Dy .f32 t (q j) (g j) ∧ (p j * q j).natAbs ≤ B) → n * B < 16777216 → Dy .f32 (s + t) (isum (fun j => p j * q j) n) (dotN f g n)
  | 0, _, _ => Dy.zero .f32 hst
  | n + 1, h, hB => by
    rw [Nat.add_mul, Nat.one_mul] at hB
    have hd : (2 : Nat) ^ dgn .f32 = 16777216 := by decide
    have ih := dotN_dy hst n (fun j hj => h j (by omega)) (by omega)
    obtain ⟨h1, h2, h3⟩ := h n (by omega)
    have hs := isum_le (f := fun j => p j * q j) (n := n) (B := B) fun j hj => (h j (by omega)).2.2
    have e : dotN f g (n + 1) = fop .add .f32 (dotN f g n) (fop .mul .f32 (f n) (g n)) := by
      unfold dotN
      rw [run_last, Nat.zero_add]; rfl
    rw [e]
    exact ih.add (h1.mul h2 hst (by omega)) (by rw [hd]; show (isum (fun j => p j * q j) n + p n * q n).natAbs < _; omega)
theorem mul_bound {x y : Int} (hx : x.natAbs ≤ 16) (hy : y.natAbs ≤ 16) : (x * y).natAbs ≤ 256 := by
  rw [Int.natAbs_mul]
  exact Nat.mul_le_mul hx hy
theorem mulE_dy {A B C : Nat} {L M : List F} (hL : QM A B L) (hM : QM B C M) {i k : Nat} (hi : i < A) (hk : k < C) : Dy .f32 4 (isum (fun j => qv (gm none L B i j) * qv (gm none M C j k)) B) (mulE B C L M i k) :=
  dotN_dy (s := 2) (t := 2) (B := 256) (by decide) B (fun j hj => ⟨qd_dy (hL.at hi hj), qd_dy (hM.at hj hk), mul_bound (qv_le _) (qv_le _)⟩) (by have := hL.m.C1; omega)
theorem mem_gm {A C : Nat} {L : List F} (h : Mat A C L) {x : F} (hx : x ∈ L) : ∃ i k, i < A ∧ k < C ∧ x = gm none L C i k := by
  obtain ⟨q, hq, rfl⟩ := List.mem_iff_getElem.1 hx
  have hq' : q < A * C := by rw [← h.len]; exact hq
  have hC : 0 < C := by
    rcases Nat.eq_zero_or_pos C with h0 | h0
    · subst h0; simp at hq'
    · exact h0
  have h3 : q / C * C + q % C = q := by rw [Nat.mul_comm]; exact Nat.div_add_mod q C
  refine ⟨q / C, q % C, (Nat.div_lt_iff_lt_mul hC).2 hq', Nat.mod_lt _ hC, ?_⟩
  unfold gm
  rw [h3]
  simp [List.getD, hq]
theorem tab_fin {A C : Nat} {f : Nat → Nat → F} (hA : A ≤ 12) (hC : C ≤ 12) (hf : ∀ i k, i < A → k < C → fin32 (f i k) = true) : (tabM A C f).all fin32 = true := by
  refine List.all_eq_true.2 fun x hx => ?_
  obtain ⟨i, k, hi, hk, rfl⟩ := mem_gm (tabM_mat hA hC) hx
  rw [tabM_gm hA hC hi hk]; exact hf i k hi hk
theorem mul_quart {A B C : Nat} {L M : List F} (hL : QM A B L) (hM : QM B C M) (hA : 0 < A) (hB : 0 < B) (hC : 0 < C) : i_MulMatrices (A : Int) (B : Int) L (B : Int) (C : Int) M = some ((A : Int), (C : Int), true, tabM A C (mulE B C L M)) := by
  rw [i_MulMatrices_eq hL.m hM.m hL.oks hM.oks hA hB hC]
  unfold mulQ
  rw [hL.fin, hM.fin, tab_fin hL.m.A1 hM.m.C1 fun i k hi hk => (mulE_dy hL hM hi hk).fin]; rfl
theorem valid_q {A C : Nat} {L : List F} (m : Mat A C L) (g : FOks L) (hf : L.all fin32 = true) (hA : 0 < A) (hC : 0 < C) : i_Matrix_valid_02o (A : Int) (C : Int) L = some (.inl ((A : Int), (C : Int), true, L)) := by
  unfold i_Matrix_valid_02o
  rw [i_ValidMatrix_eq _ _ g m.le, mat_valid m hA hC, hf, obind_eq, bsel_true]
theorem same_refl {x y : Int} {L : List F} (g : FOks L) (h : L.length ≤ 1048576) : i_SameMatrix x y L x y L = some true := by
  unfold i_SameMatrix i_sameNumbers
  rw [decide_eq_true rfl, bsel_true, decide_eq_true rfl, bsel_true, x_slices_EqualFunc_float32_float32_float32_float32_2Fi_SameNumber_eq g g h, decide_eq_true rfl, obind_eq, obind_eq]
theorem unit_dy (i k : Nat) : Dy .f32 0 (if i = k then 1 else 0) (unitF i k) := by
  unfold unitF
  by_cases h : i = k
  · rw [if_pos h, decide_eq_true h]
    have e : fint .f32 1 = some 1065353216 := by decide +kernel
    show Dy .f32 0 1 (some 1065353216)
    rw [← e]; exact Dy.int (by decide)
  · rw [if_neg h, decide_eq_false h]; exact Dy.zero .f32 (by decide)
theorem unitM_q {n : Nat} (h1 : 1 ≤ n) (h2 : n ≤ 12) : i_UnitMatrix (n : Int) = some ((n : Int), (n : Int), true, tabM n n unitF) := by
  unfold i_UnitMatrix
  rw [i_isSide_eq, obind_eq, show side (n : Int) = true from by unfold side; rw [decide_eq_true (by omega), decide_eq_true (by omega)]; rfl, bsel_true, i_unit_eq h2, obind3_eq]
theorem gm_flat {A C v : Nat} {L : List F} (hC : 0 < C) (h : v < A * C) : L.getD v none = gm none L C (v / C) (v % C) ∧ v / C < A ∧ v % C < C := by
  refine ⟨?_, (Nat.div_lt_iff_lt_mul hC).2 h, Nat.mod_lt _ hC⟩
  unfold gm
  rw [show v / C * C + v % C = v from by rw [Nat.mul_comm]; exact Nat.div_add_mod v C]
theorem loop_all {n : Nat} {step : Int → Option (LR Int Unit Bool)} (hn : n ≤ 1000000) (hs : ∀ i : Nat, i < n → step (i : Int) = some (.next ((i + 1 : Nat) : Int))) (he : step (n : Int) = some (.out ())) : loopM step 0 = some (.inl ()) :=
  (loop_run (step := step) (fun (i : Nat) (_ : Unit) => (i : Int)) (fun _ u => u) (fun _ => ()) (fun _ _ => True) (lo := 0) (n := n) (Nat.zero_le _) (s0 := ()) trivial (fun i _ _ hi _ => ⟨hs i hi, trivial⟩) (fun _ _ => he)).1
def fyStep (L : List Int) (i k : Nat) : List Int := ((L ++ [(i : Int)]).set k ((L ++ [(i : Int)]).getD i 0)).set i ((L ++ [(i : Int)]).getD k 0)
def ords : Nat → List (List Int)
  | 0 => [[]]
  | n + 1 => (ords n).flatMap fun L => (List.range (n + 1)).map fun k => fyStep L n k
def sgIn (e : Int) : List Int → Int → Int
  | [], s => s
  | x :: r, s => sgIn e r (if x < e then -s else s)
def signP : List Int → Int → Int
  | [], s => s
  | x :: r, s => signP r (sgIn x r s)
def bkR : List Int → Nat → List Int → List Int
  | [], _, L => L
  | x :: r, i, L => bkR r (i + 1) (L.set x.toNat (i : Int))
def backP (l : List Int) : List Int := bkR l 0 (List.replicate l.length 0)
def ordG (n : Nat) (l : List Int) : Bool :=
  decide (l.length = n) && decide ((backP l).length = n) && ordB l && ordB (backP l) && decide (signP l 1 = signP (backP l) 1) && (decide (signP l 1 = 1) || decide (signP l 1 = -1)) &&
  l.all (fun x => decide (0 ≤ x) && decide (x < (n : Int))) && (backP l).all (fun x => decide (0 ≤ x) && decide (x < (n : Int))) &&
  (List.range n).all fun i => decide ((backP l).getD (l.getD i 0).toNat 0 = (i : Int)) && decide (l.getD ((backP l).getD i 0).toNat 0 = (i : Int))
theorem good_ords : ∀ n, n < 6 → 1 ≤ n → (ords n).all (ordG n) = true
  | 0, _, h => absurd h (by decide)
  | 1, _, _ => by decide +kernel
  | 2, _, _ => by decide +kernel
  | 3, _, _ => by decide +kernel
  | 4, _, _ => by decide +kernel
  | 5, _, _ => by decide +kernel
  | n + 6, h, _ => absurd h (by omega)
theorem ords_len : ∀ {n : Nat} {L : List Int}, L ∈ ords n → L.length = n
  | 0, L, h => by simp [ords] at h; rw [h]; rfl
  | n + 1, L, h => by
    simp only [ords, List.mem_flatMap, List.mem_map] at h
    obtain ⟨L', h1, k, _, rfl⟩ := h
    have := ords_len h1
    simp [fyStep, this]
theorem order_loop {a : List Int} (ha : Byt a) {n : Nat} (hn : n ≤ 5) : ∀ (m i t : Nat) (L : List Int) (s : Int), i + m = n → t + 2 * m ≤ 900000 → L ∈ ords i →
    ∃ L', L' ∈ ords n ∧ loopM (s_R8Order_s1 (n : Int) a) (L, (t : Int), s, (i : Int)) = some (.inl L')
  | 0, i, t, L, s, hi, ht, hL => by
    have e : i = n := by omega
    subst e
    refine ⟨L, hL, ?_⟩
    rw [loopM_out (e := L)]
    show s_R8Order_b1 (i : Int) a L (t : Int) s (i : Int) = _
    unfold s_R8Order_b1
    rw [dnlt, bsel_false]
  | m + 1, i, t, L, s, hi, ht, hL => by
    have hl := ords_len hL
    obtain ⟨k, t1, s1, hk, ht1, e⟩ := src_pick ha (n := i + 1) (t := t) (by omega) (by omega) (by omega) s
    have l1 : (L ++ [(i : Int)]).length = i + 1 := by simp [hl]
    obtain ⟨L', h1, h2⟩ := order_loop ha hn m (i + 1) t1 (fyStep L i k) s1 (by omega) (by omega) (by
      show fyStep L i k ∈ (ords i).flatMap _
      rw [List.mem_flatMap]
      exact ⟨L, hL, List.mem_map.2 ⟨k, List.mem_range.2 hk, rfl⟩⟩)
    refine ⟨L', h1, ?_⟩
    have st : s_R8Order_s1 (n : Int) a (L, (t : Int), s, (i : Int)) = some (.next (fyStep L i k, (t1 : Int), s1, ((i + 1 : Nat) : Int))) := by
      show s_R8Order_b1 (n : Int) a L (t : Int) s (i : Int) = _
      unfold s_R8Order_b1
      rw [dlt (show i < n by omega), bsel_true, wsucc (by omega), olet_eq, e, obind3_eq, show apok 8 L.length 1 = true from by simp [apok]; omega, need_true, at?_n (i := k) 0 (by omega), obind_eq, at?_n (i := i) 0 (by omega), obind_eq, setAt?_n (i := k) _ (by omega), obind_eq, setAt?_n (i := i) _ (by rw [List.length_set]; omega), obind_eq, olet_eq]
      rfl
    rw [loopM_next st]; exact h2
theorem r8order {a : List Int} (ha : Byt a) {n : Nat} (h1 : 1 ≤ n) (hn : n ≤ 5) : ∃ l, ordG n l = true ∧ s_R8Order a (n : Int) = some l := by
  obtain ⟨L, h2, h3⟩ := order_loop ha hn n 0 0 [] 0 (by omega) (by omega) (by simp [ords])
  refine ⟨L, List.all_eq_true.1 (good_ords n (by omega) h1) L h2, ?_⟩
  unfold s_R8Order s_l00From
  have h3 : loopM (s_R8Order_s1 (n : Int) a) ([], 0, 0, 0) = some (.inl L) := h3
  rw [obind3_eq, h3]; rfl
structure OrdG (n : Nat) (l : List Int) : Prop where
  olen : l.length = n
  blen : (backP l).length = n
  oord : ordB l = true
  bord : ordB (backP l) = true
  osg : signP l 1 = signP (backP l) 1
  osgn : signP l 1 = 1 ∨ signP l 1 = -1
  orng : ∀ i, i < n → ∃ j : Nat, j < n ∧ l.getD i 0 = (j : Int)
  brng : ∀ i, i < n → ∃ j : Nat, j < n ∧ (backP l).getD i 0 = (j : Int)
  obk : ∀ i, i < n → (backP l).getD (l.getD i 0).toNat 0 = (i : Int)
  bbk : ∀ i, i < n → l.getD ((backP l).getD i 0).toNat 0 = (i : Int)
theorem ord_good {n : Nat} {l : List Int} (h : ordG n l = true) : OrdG n l := by
  unfold ordG at h
  simp only [Bool.and_eq_true, Bool.or_eq_true, decide_eq_true_eq, List.all_eq_true, List.mem_range] at h
  obtain ⟨⟨⟨⟨⟨⟨⟨⟨h1, h2⟩, h3⟩, h4⟩, h5⟩, h6⟩, h7⟩, h8⟩, h9⟩ := h
  have inr : ∀ {m : List Int}, m.length = n → (∀ x ∈ m, 0 ≤ x ∧ x < (n : Int)) → ∀ i, i < n → ∃ j : Nat, j < n ∧ m.getD i 0 = (j : Int) := by
    intro m hm hx i hi
    have := hx (m.getD i 0) (List.mem_of_getElem? (getD_of_lt 0 (by omega)))
    exact ⟨(m.getD i 0).toNat, by omega, by omega⟩
  exact ⟨h1, h2, h3, h4, h5, h6, inr h1 h7, inr h2 h8, fun i hi => (h9 i hi).1, fun i hi => (h9 i hi).2⟩
theorem sgIn_ok (e : Int) : ∀ (r : List Int) (s : Int), s = 1 ∨ s = -1 → sgIn e r s = 1 ∨ sgIn e r s = -1
  | [], s, h => h
  | x :: r, s, h => by
    unfold sgIn
    refine sgIn_ok e r _ ?_
    split <;> omega
theorem sign_in {e : Int} {l : List Int} (hl : l.length ≤ 100) : ∀ (k j : Nat) (s : Int), j + k = l.length → s = 1 ∨ s = -1 → loopM (i_orderSign_s6 e l) (s, (j : Int)) = some (.inl (sgIn e (l.drop j) s))
  | 0, j, s, hj, _ => by
    rw [List.drop_eq_nil_of_le (by omega), loopM_out (e := s)]
    · rfl
    · show i_orderSign_b6 e l s (j : Int) = _
      unfold i_orderSign_b6
      rw [decide_eq_false (by omega), bsel_false]
  | k + 1, j, s, hj, hs => by
    obtain ⟨x, hx⟩ : ∃ x, l[j]? = some x := ⟨_, List.getElem?_eq_getElem (by omega)⟩
    have st : i_orderSign_s6 e l (s, (j : Int)) = some (.next (if x < e then -s else s, ((j + 1 : Nat) : Int))) := by
      show i_orderSign_b6 e l s (j : Int) = _
      unfold i_orderSign_b6 i_orderSign_k5
      rw [decide_eq_true (by omega), bsel_true, at?_of (by omega) (by rw [show (j : Int).toNat = j from by omega]; exact hx), obind_eq]
      simp only [olet_eq]
      rw [wsucc (by omega)]
      by_cases h : x < e
      · rw [decide_eq_true h, bsel_true, if_pos h, wi64 (by omega) (by omega), Int.zero_sub]
      · rw [decide_eq_false h, bsel_false, if_neg h]
    rw [loopM_next st, sign_in hl k (j + 1) _ (by omega) (by split <;> omega), drop_at hx]
    rfl
theorem sign_out {l : List Int} (hl : l.length ≤ 100) : ∀ (k j : Nat) (s : Int), j + k = l.length → s = 1 ∨ s = -1 → loopM (i_orderSign_s7 l) (s, (j : Int)) = some (.inl (signP (l.drop j) s))
  | 0, j, s, hj, _ => by
    rw [List.drop_eq_nil_of_le (by omega), loopM_out (e := s)]
    · rfl
    · show i_orderSign_b7 l s (j : Int) = _
      unfold i_orderSign_b7
      rw [decide_eq_false (by omega), bsel_false]
  | k + 1, j, s, hj, hs => by
    obtain ⟨x, hx⟩ : ∃ x, l[j]? = some x := ⟨_, List.getElem?_eq_getElem (by omega)⟩
    have hi : loopM (i_orderSign_s6 x (l.drop (j + 1))) (s, 0) = some (.inl (sgIn x ((l.drop (j + 1)).drop 0) s)) := sign_in (e := x) (l := l.drop (j + 1)) (by simp; omega) (l.drop (j + 1)).length 0 s (by omega) hs
    rw [List.drop_zero] at hi
    have st : i_orderSign_s7 l (s, (j : Int)) = some (.next (sgIn x (l.drop (j + 1)) s, ((j + 1 : Nat) : Int))) := by
      show i_orderSign_b7 l s (j : Int) = _
      unfold i_orderSign_b7
      rw [decide_eq_true (by omega), bsel_true, at?_of (by omega) (by rw [show (j : Int).toNat = j from by omega]; exact hx), obind_eq]
      simp only [olet_eq]
      rw [wsucc (by omega), sub?_n (by omega) (Nat.le_refl _), obind_eq, List.take_length, hi]
      simp only [obind_eq, osum]
      unfold i_orderSign_k6
      rw [wsucc (by omega), olet_eq]
    rw [loopM_next st, sign_out hl k (j + 1) _ (by omega) (sgIn_ok x _ _ hs), drop_at hx]
    rfl
theorem sign_eq {l : List Int} (ho : ordB l = true) (hl : l.length ≤ 100) : i_OrderSign l = some (signP l 1, true) := by
  have e : loopM (i_orderSign_s7 l) (1, 0) = some (.inl (signP (l.drop 0) 1)) := sign_out hl l.length 0 1 (by omega) (.inl rfl)
  rw [List.drop_zero] at e
  unfold i_OrderSign i_orderSign
  rw [i_IsOrder_eq, ho, obind_eq, bsel_true, e]; rfl
theorem back_loop {l : List Int} {n : Nat} (hn : n ≤ 100) (hl : l.length = n) (hr : ∀ i, i < n → ∃ j : Nat, j < n ∧ l.getD i 0 = (j : Int)) : ∀ (k j : Nat) (L : List Int), j + k = n → L.length = n → loopM (i_BackOrder_s1 l) (L, (j : Int)) = some (.inl (bkR (l.drop j) j L))
  | 0, j, L, hj, _ => by
    rw [List.drop_eq_nil_of_le (by omega), loopM_out (e := L)]
    · rfl
    · show i_BackOrder_b1 l L (j : Int) = _
      unfold i_BackOrder_b1
      rw [decide_eq_false (by omega), bsel_false]
  | k + 1, j, L, hj, hL => by
    obtain ⟨x, hx⟩ : ∃ x, l[j]? = some x := ⟨_, List.getElem?_eq_getElem (by omega)⟩
    obtain ⟨q, hq, eq⟩ := hr j (by omega)
    have ex : x = (q : Int) := by
      rw [← eq]
      simp [List.getD, hx]
    have st : i_BackOrder_s1 l (L, (j : Int)) = some (.next (L.set x.toNat (j : Int), ((j + 1 : Nat) : Int))) := by
      show i_BackOrder_b1 l L (j : Int) = _
      unfold i_BackOrder_b1
      rw [decide_eq_true (by omega), bsel_true, at?_of (by omega) (by rw [show (j : Int).toNat = j from by omega]; exact hx), obind_eq, ex, setAt?_n _ (by omega), obind_eq, olet_eq, wsucc (by omega)]
      rfl
    rw [loopM_next st, back_loop hn hl hr k (j + 1) _ (by omega) (by simp [hL]), drop_at hx]
    rfl
theorem back_eq {n : Nat} {l : List Int} (h : OrdG n l) (hn : n ≤ 12) : i_BackOrder l = some (true, backP l) := by
  have e : loopM (i_BackOrder_s1 l) (List.replicate l.length 0, 0) = some (.inl (bkR (l.drop 0) 0 (List.replicate l.length 0))) := back_loop (n := n) (by omega) h.olen h.orng n 0 _ (by omega) (by simp [h.olen])
  rw [List.drop_zero] at e
  unfold i_BackOrder
  have hl := h.olen
  rw [i_IsOrder_eq, h.oord, obind_eq, bsel_true, show mkok 8 (l.length : Int) = true from by simp only [mkok, Bool.and_eq_true, decide_eq_true_eq]; omega, need_true, show ((l.length : Nat) : Int).toNat = l.length from by omega, e]
  rfl
theorem i_made_2Fi_OrderRows_1_mk {A C : Nat} (hA : A ≤ 12) (hC : C ≤ 12) (a2 a3 : Int) (a4 : List F) (a5 : List Int) {K : Nat → Nat → F} (hK : ∀ i k : Nat, i < A → k < C → i_OrderRows_1 (i : Int) (k : Int) a2 a3 a4 a5 = some (K i k)) : i_made_2Fi_OrderRows_1 (A : Int) (C : Int) a2 a3 a4 a5 = some ((A : Int), (C : Int), tabM A C K) := by
  have inner : ∀ (i : Nat) (L L0 : List F), i < A → Mat A C L → Mat A C L0 → loopM (i_made_2Fi_OrderRows_1_s2 (C : Int) a2 a3 a4 a5 (A : Int) (C : Int) L0 (i : Int)) (L, 0) = some (.inl (fillR K C i L)) := by
    intro i L L0 hi hL hL0
    exact (loop_run (step := i_made_2Fi_OrderRows_1_s2 (C : Int) a2 a3 a4 a5 (A : Int) (C : Int) L0 (i : Int)) (fun (k : Nat) (L : List F) => (L, (k : Int))) (fun k L => sm L C i k (K i k)) (fun L => L) (fun _ L => Mat A C L) (lo := 0) (n := C) (Nat.zero_le _) (s0 := L) hL
      (fun k L2 _ hk h3 => by
        refine ⟨?_, h3.set _ _ _⟩
        show i_made_2Fi_OrderRows_1_b2 (C : Int) a2 a3 a4 a5 (A : Int) (C : Int) L0 (i : Int) L2 (k : Int) = _
        unfold i_made_2Fi_OrderRows_1_b2
        have l1 : decide ((sm L2 C i k (K i k)).length = L0.length) = true := by simp [h3.len, hL0.len]
        rw [dlt hk, bsel_true, hK i k hi hk, obind_eq, i_Matrix_set_02o_eq _ h3 hi hk, obind_eq, l1, need_true, wsucc (by omega)]
        rfl)
      (fun L2 _ => by
        show i_made_2Fi_OrderRows_1_b2 (C : Int) a2 a3 a4 a5 (A : Int) (C : Int) L0 (i : Int) L2 (C : Int) = _
        unfold i_made_2Fi_OrderRows_1_b2
        rw [dnlt, bsel_false])).1
  have e := (loop_run (step := i_made_2Fi_OrderRows_1_s3 (A : Int) (C : Int) a2 a3 a4 a5 (A : Int) (C : Int) (List.replicate (A * C) (some 0))) (fun (i : Nat) (L : List F) => (L, (i : Int))) (fillR K C) (fun L => L) (fun _ L => Mat A C L) (lo := 0) (n := A) (Nat.zero_le _) (s0 := List.replicate (A * C) (some 0)) (zmat hA hC)
    (fun i L2 _ hi h3 => by
      refine ⟨?_, (fillR_spec h3 hi).1⟩
      show i_made_2Fi_OrderRows_1_b3 (A : Int) (C : Int) a2 a3 a4 a5 (A : Int) (C : Int) (List.replicate (A * C) (some 0)) L2 (i : Int) = _
      unfold i_made_2Fi_OrderRows_1_b3
      rw [dlt hi, bsel_true, inner i L2 _ hi h3 (zmat hA hC), obind_eq, osum_inl]
      unfold i_made_2Fi_OrderRows_1_k2
      rw [wsucc (by omega)]
      rfl)
    (fun L2 _ => by
      show i_made_2Fi_OrderRows_1_b3 (A : Int) (C : Int) a2 a3 a4 a5 (A : Int) (C : Int) (List.replicate (A * C) (some 0)) L2 (A : Int) = _
      unfold i_made_2Fi_OrderRows_1_b3
      rw [dnlt, bsel_false])).1
  unfold i_made_2Fi_OrderRows_1
  replace e : loopM (i_made_2Fi_OrderRows_1_s3 (A : Int) (C : Int) a2 a3 a4 a5 (A : Int) (C : Int) (List.replicate (A * C) (some 0))) (List.replicate (A * C) (some 0), 0) = some (.inl (tabM A C K)) := e
  rw [i_newMatrix_eq hA hC, obind3_eq, e]; rfl
theorem i_made_2Fi_OuterMatrix_1_mk {A C : Nat} (hA : A ≤ 12) (hC : C ≤ 12) (a2 a3 : List F) {K : Nat → Nat → F} (hK : ∀ i k : Nat, i < A → k < C → i_OuterMatrix_1 (i : Int) (k : Int) a2 a3 = some (K i k)) : i_made_2Fi_OuterMatrix_1 (A : Int) (C : Int) a2 a3 = some ((A : Int), (C : Int), tabM A C K) := by
  have inner : ∀ (i : Nat) (L L0 : List F), i < A → Mat A C L → Mat A C L0 → loopM (i_made_2Fi_OuterMatrix_1_s2 (C : Int) a2 a3 (A : Int) (C : Int) L0 (i : Int)) (L, 0) = some (.inl (fillR K C i L)) := by
    intro i L L0 hi hL hL0
    exact (loop_run (step := i_made_2Fi_OuterMatrix_1_s2 (C : Int) a2 a3 (A : Int) (C : Int) L0 (i : Int)) (fun (k : Nat) (L : List F) => (L, (k : Int))) (fun k L => sm L C i k (K i k)) (fun L => L) (fun _ L => Mat A C L) (lo := 0) (n := C) (Nat.zero_le _) (s0 := L) hL
      (fun k L2 _ hk h3 => by
        refine ⟨?_, h3.set _ _ _⟩
        show i_made_2Fi_OuterMatrix_1_b2 (C : Int) a2 a3 (A : Int) (C : Int) L0 (i : Int) L2 (k : Int) = _
        unfold i_made_2Fi_OuterMatrix_1_b2
        have l1 : decide ((sm L2 C i k (K i k)).length = L0.length) = true := by simp [h3.len, hL0.len]
        rw [dlt hk, bsel_true, hK i k hi hk, obind_eq, i_Matrix_set_02o_eq _ h3 hi hk, obind_eq, l1, need_true, wsucc (by omega)]
        rfl)
      (fun L2 _ => by
        show i_made_2Fi_OuterMatrix_1_b2 (C : Int) a2 a3 (A : Int) (C : Int) L0 (i : Int) L2 (C : Int) = _
        unfold i_made_2Fi_OuterMatrix_1_b2
        rw [dnlt, bsel_false])).1
  have e := (loop_run (step := i_made_2Fi_OuterMatrix_1_s3 (A : Int) (C : Int) a2 a3 (A : Int) (C : Int) (List.replicate (A * C) (some 0))) (fun (i : Nat) (L : List F) => (L, (i : Int))) (fillR K C) (fun L => L) (fun _ L => Mat A C L) (lo := 0) (n := A) (Nat.zero_le _) (s0 := List.replicate (A * C) (some 0)) (zmat hA hC)
    (fun i L2 _ hi h3 => by
      refine ⟨?_, (fillR_spec h3 hi).1⟩
      show i_made_2Fi_OuterMatrix_1_b3 (A : Int) (C : Int) a2 a3 (A : Int) (C : Int) (List.replicate (A * C) (some 0)) L2 (i : Int) = _
      unfold i_made_2Fi_OuterMatrix_1_b3
      rw [dlt hi, bsel_true, inner i L2 _ hi h3 (zmat hA hC), obind_eq, osum_inl]
      unfold i_made_2Fi_OuterMatrix_1_k2
      rw [wsucc (by omega)]
      rfl)
    (fun L2 _ => by
      show i_made_2Fi_OuterMatrix_1_b3 (A : Int) (C : Int) a2 a3 (A : Int) (C : Int) (List.replicate (A * C) (some 0)) L2 (A : Int) = _
      unfold i_made_2Fi_OuterMatrix_1_b3
      rw [dnlt, bsel_false])).1
  unfold i_made_2Fi_OuterMatrix_1
  replace e : loopM (i_made_2Fi_OuterMatrix_1_s3 (A : Int) (C : Int) a2 a3 (A : Int) (C : Int) (List.replicate (A * C) (some 0))) (List.replicate (A * C) (some 0), 0) = some (.inl (tabM A C K)) := e
  rw [i_newMatrix_eq hA hC, obind3_eq, e]; rfl
theorem i_made_2Fi_KroneckerMatrix_1_mk {A C : Nat} (hA : A ≤ 12) (hC : C ≤ 12) (a2 a3 : Int) (a4 : List F) (a5 a6 : Int) (a7 : List F) {K : Nat → Nat → F} (hK : ∀ i k : Nat, i < A → k < C → i_KroneckerMatrix_1 (i : Int) (k : Int) a2 a3 a4 a5 a6 a7 = some (K i k)) : i_made_2Fi_KroneckerMatrix_1 (A : Int) (C : Int) a2 a3 a4 a5 a6 a7 = some ((A : Int), (C : Int), tabM A C K) := by
  have inner : ∀ (i : Nat) (L L0 : List F), i < A → Mat A C L → Mat A C L0 → loopM (i_made_2Fi_KroneckerMatrix_1_s2 (C : Int) a2 a3 a4 a5 a6 a7 (A : Int) (C : Int) L0 (i : Int)) (L, 0) = some (.inl (fillR K C i L)) := by
    intro i L L0 hi hL hL0
    exact (loop_run (step := i_made_2Fi_KroneckerMatrix_1_s2 (C : Int) a2 a3 a4 a5 a6 a7 (A : Int) (C : Int) L0 (i : Int)) (fun (k : Nat) (L : List F) => (L, (k : Int))) (fun k L => sm L C i k (K i k)) (fun L => L) (fun _ L => Mat A C L) (lo := 0) (n := C) (Nat.zero_le _) (s0 := L) hL
      (fun k L2 _ hk h3 => by
        refine ⟨?_, h3.set _ _ _⟩
        show i_made_2Fi_KroneckerMatrix_1_b2 (C : Int) a2 a3 a4 a5 a6 a7 (A : Int) (C : Int) L0 (i : Int) L2 (k : Int) = _
        unfold i_made_2Fi_KroneckerMatrix_1_b2
        have l1 : decide ((sm L2 C i k (K i k)).length = L0.length) = true := by simp [h3.len, hL0.len]
        rw [dlt hk, bsel_true, hK i k hi hk, obind_eq, i_Matrix_set_02o_eq _ h3 hi hk, obind_eq, l1, need_true, wsucc (by omega)]
        rfl)
      (fun L2 _ => by
        show i_made_2Fi_KroneckerMatrix_1_b2 (C : Int) a2 a3 a4 a5 a6 a7 (A : Int) (C : Int) L0 (i : Int) L2 (C : Int) = _
        unfold i_made_2Fi_KroneckerMatrix_1_b2
        rw [dnlt, bsel_false])).1
  have e := (loop_run (step := i_made_2Fi_KroneckerMatrix_1_s3 (A : Int) (C : Int) a2 a3 a4 a5 a6 a7 (A : Int) (C : Int) (List.replicate (A * C) (some 0))) (fun (i : Nat) (L : List F) => (L, (i : Int))) (fillR K C) (fun L => L) (fun _ L => Mat A C L) (lo := 0) (n := A) (Nat.zero_le _) (s0 := List.replicate (A * C) (some 0)) (zmat hA hC)
    (fun i L2 _ hi h3 => by
      refine ⟨?_, (fillR_spec h3 hi).1⟩
      show i_made_2Fi_KroneckerMatrix_1_b3 (A : Int) (C : Int) a2 a3 a4 a5 a6 a7 (A : Int) (C : Int) (List.replicate (A * C) (some 0)) L2 (i : Int) = _
      unfold i_made_2Fi_KroneckerMatrix_1_b3
      rw [dlt hi, bsel_true, inner i L2 _ hi h3 (zmat hA hC), obind_eq, osum_inl]
      unfold i_made_2Fi_KroneckerMatrix_1_k2
      rw [wsucc (by omega)]
      rfl)
    (fun L2 _ => by
      show i_made_2Fi_KroneckerMatrix_1_b3 (A : Int) (C : Int) a2 a3 a4 a5 a6 a7 (A : Int) (C : Int) (List.replicate (A * C) (some 0)) L2 (A : Int) = _
      unfold i_made_2Fi_KroneckerMatrix_1_b3
      rw [dnlt, bsel_false])).1
  unfold i_made_2Fi_KroneckerMatrix_1
  replace e : loopM (i_made_2Fi_KroneckerMatrix_1_s3 (A : Int) (C : Int) a2 a3 a4 a5 a6 a7 (A : Int) (C : Int) (List.replicate (A * C) (some 0))) (List.replicate (A * C) (some 0), 0) = some (.inl (tabM A C K)) := e
  rw [i_newMatrix_eq hA hC, obind3_eq, e]; rfl
theorem orderRows_q {n : Nat} {L : List F} {l : List Int} (h : QM n n L) (h0 : 0 < n) (ho : ordB l = true) (hl : l.length = n) (hr : ∀ i, i < n → ∃ j : Nat, j < n ∧ l.getD i 0 = (j : Int)) :
    i_OrderRows (n : Int) (n : Int) L l = some ((n : Int), (n : Int), true, tabM n n (fun i k => gm none L n (l.getD i 0).toNat k)) := by
  have hn := h.m.A1
  unfold i_OrderRows i_length_int64
  rw [i_ValidMatrix_eq _ _ h.oks h.m.le, mat_valid h.m h0 h0, h.fin, obind_eq, bsel_true, i_IsOrder_eq, ho, obind_eq, bsel_true, obind_eq, hl, decide_eq_true rfl, Bool.not_true, bsel_false, i_made_2Fi_OrderRows_1_mk hn hn _ _ _ _ (K := fun i k => gm none L n (l.getD i 0).toNat k) (fun i k hi hk => by
    obtain ⟨j, hj, e⟩ := hr i hi
    unfold i_OrderRows_1
    rw [at?_n 0 (by omega), obind_eq, e, i_Matrix_at_eq _ h.m hj hk, obind_eq]
    rfl), obind3_eq]
theorem orderRows_QM {n : Nat} {L : List F} {l : List Int} (h : QM n n L) (hr : ∀ i, i < n → ∃ j : Nat, j < n ∧ l.getD i 0 = (j : Int)) : QM n n (tabM n n (fun i k => gm none L n (l.getD i 0).toNat k)) := by
  have hn := h.m.A1
  refine ⟨tabM_mat hn hn, fun x hx => ?_⟩
  obtain ⟨i, k, hi, hk, rfl⟩ := mem_gm (tabM_mat hn hn) hx
  rw [tabM_gm hn hn hi hk]
  obtain ⟨j, hj, e⟩ := hr i hi
  rw [e]; exact h.at (by omega) hk
theorem isum_deltaL (f : Nat → Int) (i n : Nat) : isum (fun j => (if i = j then 1 else 0) * f j) n = if i < n then f i else 0 := by
  rw [← isum_delta f i n]
  exact isum_congr fun j _ => by
    by_cases h : i = j
    · subst h; simp
    · rw [if_neg h, if_neg (fun e => h e.symm)]; simp
theorem square_q {n : Nat} {L : List F} (h : QM n n L) (h0 : 0 < n) :
    ∃ K : Nat → Nat → F, (∀ i k, i < n → k < n → Dy .f32 4 (isum (fun j => qv (gm none L n i j) * qv (gm none L n j k)) n) (K i k)) ∧ i_PowerMatrix (n : Int) (n : Int) L 2 = some (.inr ((n : Int), (n : Int), tabM n n K, true)) := by
  have hn := h.m.A1
  have hA := mul_quart h h h0 h0 h0
  have mA : Mat n n (tabM n n (mulE n n L L)) := tabM_mat hn hn
  have gA : FOks (tabM n n (mulE n n L L)) := tabM_oks hn hn (mulE_ok n n L L)
  have fA : (tabM n n (mulE n n L L)).all fin32 = true := tab_fin hn hn fun i k hi hk => (mulE_dy h h hi hk).fin
  have mU : Mat n n (tabM n n unitF) := tabM_mat hn hn
  have gU : FOks (tabM n n unitF) := tabM_oks hn hn unitF_ok
  have d : ∀ i k, i < n → k < n → Dy .f32 4 (isum (fun j => qv (gm none L n i j) * qv (gm none L n j k)) n) (mulE n n (tabM n n unitF) (tabM n n (mulE n n L L)) i k) := by
    intro i k hi hk
    have := dotN_dy (f := fun j => gm none (tabM n n unitF) n i j) (g := fun j => gm none (tabM n n (mulE n n L L)) n j k) (p := fun j => if i = j then 1 else 0) (q := fun j => isum (fun r => qv (gm none L n j r) * qv (gm none L n r k)) n) (s := 0) (t := 4) (B := 3072) (by decide) n (fun j hj => by
      refine ⟨by rw [tabM_gm hn hn hi hj]; exact unit_dy i j, by rw [tabM_gm hn hn hj hk]; exact mulE_dy h h hj hk, ?_⟩
      have := isum_le (f := fun r => qv (gm none L n j r) * qv (gm none L n r k)) (n := n) (B := 256) fun r _ => mul_bound (qv_le _) (qv_le _)
      have h2 : n * 256 ≤ 12 * 256 := Nat.mul_le_mul hn (Nat.le_refl _)
      by_cases e : i = j
      · rw [if_pos e]; omega
      · rw [if_neg e]; omega) (by omega)
    rw [isum_deltaL (fun j => isum (fun r => qv (gm none L n j r) * qv (gm none L n r k)) n) i n, if_pos hi] at this
    exact this
  have hU : i_MulMatrices (n : Int) (n : Int) (tabM n n unitF) (n : Int) (n : Int) (tabM n n (mulE n n L L)) = some ((n : Int), (n : Int), true, tabM n n (mulE n n (tabM n n unitF) (tabM n n (mulE n n L L)))) := by
    rw [i_MulMatrices_eq mU mA gU gA h0 h0 h0]
    unfold mulQ
    rw [tab_fin hn hn (fun i k _ _ => (unit_dy i k).fin), fA, tab_fin hn hn fun i k hi hk => (d i k hi hk).fin]; rfl
  refine ⟨_, d, ?_⟩
  have sq : i_isSquare (n : Int) (n : Int) L = some true := by
    rw [i_isSquare_eq _ _ h.oks h.m.le, mat_valid h.m h0 h0, h.fin, decide_eq_true rfl]; rfl
  have s1 : i_PowerMatrix_s3 ((n : Int), (n : Int), tabM n n unitF, (n : Int), (n : Int), L, 2) = some (.next ((n : Int), (n : Int), tabM n n unitF, (n : Int), (n : Int), tabM n n (mulE n n L L), 1)) := by
    show i_PowerMatrix_b3 (n : Int) (n : Int) (tabM n n unitF) (n : Int) (n : Int) L 2 = _
    unfold i_PowerMatrix_b3 i_PowerMatrix_k2
    rw [hA]; rfl
  have s2 : i_PowerMatrix_s3 ((n : Int), (n : Int), tabM n n unitF, (n : Int), (n : Int), tabM n n (mulE n n L L), 1) = some (.next ((n : Int), (n : Int), tabM n n (mulE n n (tabM n n unitF) (tabM n n (mulE n n L L))), (n : Int), (n : Int), tabM n n (mulE n n L L), 0)) := by
    show i_PowerMatrix_b3 (n : Int) (n : Int) (tabM n n unitF) (n : Int) (n : Int) (tabM n n (mulE n n L L)) 1 = _
    unfold i_PowerMatrix_b3 i_PowerMatrix_k2
    rw [hU]; rfl
  have s3 : i_PowerMatrix_s3 ((n : Int), (n : Int), tabM n n (mulE n n (tabM n n unitF) (tabM n n (mulE n n L L))), (n : Int), (n : Int), tabM n n (mulE n n L L), 0) = some (.out ((n : Int), (n : Int), tabM n n (mulE n n (tabM n n unitF) (tabM n n (mulE n n L L))))) := by
    show i_PowerMatrix_b3 _ _ _ _ _ _ 0 = _
    unfold i_PowerMatrix_b3
    rfl
  unfold i_PowerMatrix
  rw [sq, obind_eq, bsel_true, i_inRange_eq, show (decide ((0 : Int) ≤ 2) && decide ((2 : Int) ≤ 64)) = true from by decide, obind_eq, bsel_true, i_unit_eq hn, obind3_eq, loopM_next s1, loopM_next s2, loopM_out s3]
  rfl
theorem power0_q {n : Nat} {L : List F} (h : QM n n L) (h0 : 0 < n) : i_PowerMatrix (n : Int) (n : Int) L 0 = some (.inr ((n : Int), (n : Int), tabM n n unitF, true)) := by
  have hn := h.m.A1
  have sq : i_isSquare (n : Int) (n : Int) L = some true := by
    rw [i_isSquare_eq _ _ h.oks h.m.le, mat_valid h.m h0 h0, h.fin, decide_eq_true rfl]; rfl
  have s3 : i_PowerMatrix_s3 ((n : Int), (n : Int), tabM n n unitF, (n : Int), (n : Int), L, 0) = some (.out ((n : Int), (n : Int), tabM n n unitF)) := by
    show i_PowerMatrix_b3 _ _ _ _ _ _ 0 = _
    unfold i_PowerMatrix_b3
    rfl
  unfold i_PowerMatrix
  rw [sq, obind_eq, bsel_true, i_inRange_eq, show (decide ((0 : Int) ≤ 0) && decide ((0 : Int) ≤ 64)) = true from by decide, obind_eq, bsel_true, i_unit_eq hn, obind3_eq, loopM_out s3]
  rfl
theorem trace_q {n : Nat} {L : List F} {s B : Nat} {d : Nat → Int} (m : Mat n n L) (g : FOks L) (hf : L.all fin32 = true) (h0 : 0 < n) (hs : s ≤ 149) (hd : ∀ i, i < n → Dy .f32 s (d i) (gm none L n i i) ∧ (d i).natAbs ≤ B) (hB : n * B < 16777216) :
    ∃ z, i_TraceOf (n : Int) (n : Int) L = some (z, true) ∧ Dy .f32 s (isum d n) z := by
  have hp : (2 : Nat) ^ dgn .f32 = 16777216 := by decide
  have key : ∀ j, j ≤ n → Dy .f32 s (isum d j) (run (trE n L) 0 j (some 0)) := by
    intro j
    induction j with
    | zero => intro _; exact Dy.zero .f32 hs
    | succ j ih =>
      intro hj
      rw [run_last, Nat.zero_add]
      have hb := isum_le (f := d) (n := j) (B := B) fun i hi => (hd i (by omega)).2
      have hjB : (j + 1) * B ≤ n * B := Nat.mul_le_mul_right B hj
      rw [Nat.add_mul, Nat.one_mul] at hjB
      have h2 := hd j (by omega)
      exact (ih (by omega)).add h2.1 (by rw [hp]; have := h2.2; omega)
  refine ⟨trN n L, ?_, key n (Nat.le_refl _)⟩
  rw [i_TraceOf_eq m g h0]
  unfold trQ
  have fTb : fin32 (trN n L) = true := (key n (Nat.le_refl _)).fin
  rw [hf]
  simp [fTb]
theorem vec_loop {a : List Int} (ha : Byt a) : ∀ (m t : Nat) (L : List F) (s : Int), t + m ≤ 800000 → L.length + m ≤ 1000 →
    ∃ (L' : List F) (t' : Nat) (s' : Int), L'.length = m ∧ t' ≤ t + m ∧ (∀ x ∈ L', Qd x) ∧ loopM (s_l08DrawVector_0p0_C0_s1 a) (L, (t : Int), s, (m : Int)) = some (.inl (L ++ L', (t' : Int), s'))
  | 0, t, L, s, ht, hL => by
    refine ⟨[], t, s, rfl, by omega, fun x hx => by simp at hx, ?_⟩
    rw [loopM_out (e := (L, (t : Int), s))]
    · simp
    · show s_l08DrawVector_0p0_C0_b1 a L (t : Int) s ((0 : Nat) : Int) = _
      unfold s_l08DrawVector_0p0_C0_b1
      rw [decide_eq_false (by omega), bsel_false]
  | m + 1, t, L, s, ht, hL => by
    obtain ⟨v, t1, s1, hv, ht1, e⟩ := src_pick ha (n := 33) (t := t) (by decide) (by decide) (by omega) s
    have e : s_l00Src_pick_0p0_C0 33 a (t : Int) s = _ := e
    have st : s_l08DrawVector_0p0_C0_s1 a (L, (t : Int), s, ((m + 1 : Nat) : Int)) = some (.next (L ++ [fop .quo .f32 (fint .f32 ((v : Int) - 16)) (some 1082130432)], (t1 : Int), s1, (m : Int))) := by
      show s_l08DrawVector_0p0_C0_b1 a L (t : Int) s ((m + 1 : Nat) : Int) = _
      unfold s_l08DrawVector_0p0_C0_b1
      rw [decide_eq_true (by omega), bsel_true, e, obind3_eq]
      simp only [olet_eq]
      rw [wi64 (by omega) (by omega), show apok 4 L.length 1 = true from by simp only [apok, Bool.and_eq_true, decide_eq_true_eq]; omega, need_true, wi64 (by omega) (by omega), show ((m + 1 : Nat) : Int) - 1 = (m : Int) from by omega]
    obtain ⟨L', t', s', h1, h2, h3, h4⟩ := vec_loop ha m t1 (L ++ [fop .quo .f32 (fint .f32 ((v : Int) - 16)) (some 1082130432)]) s1 (by omega) (by simp; omega)
    refine ⟨fop .quo .f32 (fint .f32 ((v : Int) - 16)) (some 1082130432) :: L', t', s', by simp [h1], by omega, ?_, ?_⟩
    · intro x hx
      rcases List.mem_cons.1 hx with rfl | hx
      · exact quarter (by omega)
      · exact h3 x hx
    · rw [loopM_next st, h4]; simp
structure QV (n : Nat) (L : List F) : Prop where
  vlen : L.length = n
  vq : ∀ x ∈ L, Qd x
theorem r8vector {a : List Int} (ha : Byt a) {n : Nat} (hn : n ≤ 100) : ∃ L, QV n L ∧ s_R8Vector a (n : Int) = some L := by
  obtain ⟨L, t', s', h1, _, h3, h4⟩ := vec_loop ha n 0 [] 0 (by omega) (by simp; omega)
  refine ⟨L, ⟨h1, h3⟩, ?_⟩
  have h4 : loopM (s_l08DrawVector_0p0_C0_s1 a) ([], 0, 0, (n : Int)) = some (.inl ([] ++ L, (t' : Int), s')) := h4
  unfold s_R8Vector s_l00From s_l08DrawVector_0p0_C0
  rw [obind3_eq, h4]
  simp only [obind_eq, osum]
  unfold s_l08DrawVector_0p0_C0_k1
  rw [obind3_eq, List.nil_append]
theorem qv_at {n i : Nat} {L : List F} (h : QV n L) (hi : i < n) : Qd (L.getD i none) := h.vq _ (List.mem_of_getElem? (getD_of_lt none (by rw [h.vlen]; exact hi)))
theorem qv_isv {n : Nat} {L : List F} (h : QV n L) (h0 : 0 < n) (hn : n ≤ 12) : i_IsVector L = some true ∧ FOks L ∧ L.length ≤ 1048576 := by
  have g : FOks L := fun x hx => (qd_dy (h.vq x hx)).fok
  have f : L.all fin32 = true := List.all_eq_true.2 fun x hx => (qd_dy (h.vq x hx)).fin
  have hl := h.vlen
  refine ⟨?_, g, by omega⟩
  rw [i_IsVector_eq g (by omega)]
  unfold vecB
  rw [hl, decide_eq_true (by omega), decide_eq_true (by omega), f]; rfl
theorem qv_are {n : Nat} {L : List F} (h : QV n L) (h0 : 0 < n) (hn : n ≤ 12) : i_areVectors L L = some true := by
  unfold i_areVectors
  rw [(qv_isv h h0 hn).1, obind_eq, bsel_true, obind_eq, bsel_true, decide_eq_true rfl]
theorem outer_q {n : Nat} {L : List F} (h : QV n L) (h0 : 0 < n) (hn : n ≤ 12) :
    i_OuterMatrix L L = some ((n : Int), (n : Int), true, tabM n n (fun i k => fop .mul .f32 (L.getD i none) (L.getD k none))) ∧ ∀ i k, i < n → k < n → Dy .f32 4 (qv (L.getD i none) * qv (L.getD k none)) (fop .mul .f32 (L.getD i none) (L.getD k none)) := by
  have hp : (2 : Nat) ^ dgn .f32 = 16777216 := by decide
  have hl := h.vlen
  have d : ∀ i k, i < n → k < n → Dy .f32 4 (qv (L.getD i none) * qv (L.getD k none)) (fop .mul .f32 (L.getD i none) (L.getD k none)) := fun i k hi hk =>
    Dy.mul (s := 2) (t := 2) (qd_dy (qv_at h hi)) (qd_dy (qv_at h hk)) (by decide) (by have := mul_bound (qv_le (L.getD i none)) (qv_le (L.getD k none)); omega)
  refine ⟨?_, d⟩
  have mTb : Mat n n (tabM n n (fun i k => fop .mul .f32 (L.getD i none) (L.getD k none))) := tabM_mat hn hn
  have gTb : FOks (tabM n n (fun i k => fop .mul .f32 (L.getD i none) (L.getD k none))) := tabM_oks hn hn fun i k => fop_fok _ _ _
  have fTb := tab_fin (f := fun i k => fop .mul .f32 (L.getD i none) (L.getD k none)) hn hn fun i k hi hk => (d i k hi hk).fin
  unfold i_OuterMatrix i_length_float32
  rw [(qv_isv h h0 hn).1, obind_eq, bsel_true, obind_eq, bsel_true, obind_eq, hl, i_isSide_eq, show side (n : Int) = true from by unfold side; rw [decide_eq_true (by omega), decide_eq_true (by omega)]; rfl, obind_eq, bsel_true, obind_eq, i_isSide_eq, show side (n : Int) = true from by unfold side; rw [decide_eq_true (by omega), decide_eq_true (by omega)]; rfl, obind_eq, bsel_true, obind_eq, obind_eq, i_made_2Fi_OuterMatrix_1_mk hn hn _ _ (K := fun i k => fop .mul .f32 (L.getD i none) (L.getD k none)) (fun i k hi hk => by
    unfold i_OuterMatrix_1
    rw [at?_n none (by omega), obind_eq, at?_n none (by omega), obind_eq, i_mul_eq, obind_eq]), obind3_eq, valid_q mTb gTb fTb h0 h0, obind_eq]
  simp [osum, obind4_eq, need_true]
theorem kron_q {n : Nat} (h0 : 0 < n) (hn : n ≤ 5) : ∃ K, i_KroneckerMatrix (n : Int) (n : Int) (tabM n n unitF) 2 1 [some 1065353216, some 1073741824] = some (((2 * n : Nat) : Int), (n : Int), true, K) := by
  have hp : (2 : Nat) ^ dgn .f32 = 16777216 := by decide
  have one : Dy .f32 0 1 (some 1065353216) := by
    have e : fint .f32 1 = some 1065353216 := by decide +kernel
    rw [← e]; exact Dy.int (by decide)
  have two : Dy .f32 0 2 (some 1073741824) := by
    have e : fint .f32 2 = some 1073741824 := by decide +kernel
    rw [← e]; exact Dy.int (by decide)
  have mB : Mat 2 1 [some 1065353216, some 1073741824] := ⟨by decide, by decide, rfl⟩
  have gB : FOks [some 1065353216, some 1073741824] := by
    intro c hc
    rcases List.mem_cons.1 hc with rfl | hc
    · exact one.fok
    · rcases List.mem_cons.1 hc with rfl | hc
      · exact two.fok
      · simp at hc
  have fB : ([some 1065353216, some 1073741824] : List F).all fin32 = true := by simp [one.fin, two.fin]
  have mU : Mat n n (tabM n n unitF) := tabM_mat (by omega) (by omega)
  have gU : FOks (tabM n n unitF) := tabM_oks (by omega) (by omega) unitF_ok
  have fU : (tabM n n unitF).all fin32 = true := tab_fin (by omega) (by omega) fun i k _ _ => (unit_dy i k).fin
  let K : Nat → Nat → F := fun i k => fop .mul .f32 (gm none (tabM n n unitF) n (i / 2) (k / 1)) (gm none [some 1065353216, some 1073741824] 1 (i % 2) (k % 1))
  have d : ∀ i k, i < 2 * n → k < n → fin32 (K i k) = true ∧ FOk .f32 (K i k) := by
    intro i k hi hk
    have hu : Dy .f32 0 (if i / 2 = k / 1 then 1 else 0) (gm none (tabM n n unitF) n (i / 2) (k / 1)) := by
      rw [tabM_gm (by omega) (by omega) (by omega) (by omega)]; exact unit_dy _ _
    have hm : i % 2 = 0 ∨ i % 2 = 1 := by omega
    have hk1 : k % 1 = 0 := Nat.mod_one k
    rcases hm with hm | hm
    · have hb : gm none [some 1065353216, some 1073741824] 1 (i % 2) (k % 1) = some 1065353216 := by rw [hm, hk1]; rfl
      have := Dy.mul (s := 0) (t := 0) hu one (by decide) (by split <;> omega)
      show fin32 (fop .mul .f32 _ _) = true ∧ FOk .f32 (fop .mul .f32 _ _)
      rw [hb]
      exact ⟨this.fin, this.fok⟩
    · have hb : gm none [some 1065353216, some 1073741824] 1 (i % 2) (k % 1) = some 1073741824 := by rw [hm, hk1]; rfl
      have := Dy.mul (s := 0) (t := 0) hu two (by decide) (by split <;> omega)
      show fin32 (fop .mul .f32 _ _) = true ∧ FOk .f32 (fop .mul .f32 _ _)
      rw [hb]
      exact ⟨this.fin, this.fok⟩
  have mTb : Mat (2 * n) n (tabM (2 * n) n K) := tabM_mat (by omega) (by omega)
  have gTb : FOks (tabM (2 * n) n K) := oks_of_gm mTb fun i k hi hk => by rw [tabM_gm (by omega) (by omega) hi hk]; exact (d i k hi hk).2
  have fTb : (tabM (2 * n) n K).all fin32 = true := tab_fin (by omega) (by omega) fun i k hi hk => (d i k hi hk).1
  have vB : i_ValidMatrix 2 1 [some 1065353216, some 1073741824] = some true := by
    have := mat_valid mB (by decide) (by decide)
    rw [show (2 : Int) = ((2 : Nat) : Int) from rfl, show (1 : Int) = ((1 : Nat) : Int) from rfl, i_ValidMatrix_eq _ _ gB (by decide), this, fB]
  refine ⟨tabM (2 * n) n K, ?_⟩
  unfold i_KroneckerMatrix
  rw [i_ValidMatrix_eq _ _ gU mU.le, mat_valid mU h0 h0, fU, obind_eq, bsel_true, vB, obind_eq, bsel_true]
  simp only [olet_eq]
  rw [show (n : Int) * 2 = ((2 * n : Nat) : Int) from by omega, show (n : Int) * 1 = (n : Int) from by omega, wi64 (by omega) (by omega), wi64 (by omega) (by omega), i_isSide_eq, show side ((2 * n : Nat) : Int) = true from by unfold side; rw [decide_eq_true (by omega), decide_eq_true (by omega)]; rfl, obind_eq, bsel_true, i_isSide_eq, show side (n : Int) = true from by unfold side; rw [decide_eq_true (by omega), decide_eq_true (by omega)]; rfl, obind_eq, bsel_true, i_made_2Fi_KroneckerMatrix_1_mk (A := 2 * n) (C := n) (by omega) (by omega) _ _ _ _ _ _ (K := K) (fun i k hi hk => by
    unfold i_KroneckerMatrix_1
    have e1 : ((i : Nat) : Int).tdiv 2 = ((i / 2 : Nat) : Int) := by rw [Int.tdiv_eq_ediv_of_nonneg (by omega)]; omega
    have e2 : ((k : Nat) : Int).tdiv 1 = ((k / 1 : Nat) : Int) := by rw [Int.tdiv_eq_ediv_of_nonneg (by omega)]; omega
    have e3 : ((i : Nat) : Int).tmod 2 = ((i % 2 : Nat) : Int) := by rw [Int.tmod_eq_emod_of_nonneg (by omega)]; omega
    have e4 : ((k : Nat) : Int).tmod 1 = ((k % 1 : Nat) : Int) := by rw [Int.tmod_eq_emod_of_nonneg (by omega)]; omega
    simp only [olet_eq]
    have a1 := i_Matrix_at_eq (A := 2) (C := 1) (i := i % 2) (k := k % 1) 2 mB (by omega) (by omega)
    have a1 : i_Matrix_at 2 1 [some 1065353216, some 1073741824] ((i % 2 : Nat) : Int) ((k % 1 : Nat) : Int) = _ := a1
    simp only [show (!decide ((2 : Int) = 0)) = true from rfl, show (!decide ((1 : Int) = 0)) = true from rfl, need_true]
    rw [e1, e2, e3, e4, wi64 (by omega) (by omega), wi64 (by omega) (by omega), i_Matrix_at_eq _ mU (by omega) (by omega), obind_eq, a1, obind_eq, i_mul_eq, obind_eq]), obind3_eq, valid_q mTb gTb fTb (by omega) h0, obind_eq]
  simp [osum, obind4_eq, need_true]
theorem dot_q {n : Nat} {L : List F} (h : QV n L) (h0 : 0 < n) (hn : n ≤ 12) : ∃ z, i_DotVectors L L = some (z, true) ∧ Dy .f32 4 (isum (fun j => qv (L.getD j none) * qv (L.getD j none)) n) z := by
  have hl := h.vlen
  have d := dotN_dy (f := fun j => L.getD j none) (g := fun j => L.getD j none) (p := fun j => qv (L.getD j none)) (q := fun j => qv (L.getD j none)) (s := 2) (t := 2) (B := 256) (by decide) n (fun j hj => ⟨qd_dy (qv_at h hj), qd_dy (qv_at h hj), mul_bound (qv_le _) (qv_le _)⟩) (by omega)
  refine ⟨_, ?_, d⟩
  unfold i_DotVectors i_finite
  rw [qv_are h h0 hn, obind_eq, bsel_true, i_dot_eq (Nat.le_refl _) (by omega), obind_eq, hl, i_IsFinite_eq d.fok, d.fin, obind_eq, bsel_true, obind2_eq]
theorem long_q {n : Nat} {L : List F} (h : QV n L) (h0 : 0 < n) (hn : n ≤ 12) : ∃ z, i_LongDot L L = some (z, true) ∧ Dy .f32 4 (isum (fun j => qv (L.getD j none) * qv (L.getD j none)) n) z := by
  have hl := h.vlen
  have hp : (2 : Nat) ^ dgn .f64 = 9007199254740992 := by decide
  have key : ∀ (m j : Nat) (y : F), j + m = n → Dy .f64 4 (isum (fun j => qv (L.getD j none) * qv (L.getD j none)) j) y →
      ∃ z, loopM (i_LongDot_s1 L L) (y, (j : Int)) = some (.inl z) ∧ Dy .f64 4 (isum (fun j => qv (L.getD j none) * qv (L.getD j none)) n) z := by
    intro m
    induction m with
    | zero =>
      intro j y hj hy
      have e : j = n := by omega
      subst e
      refine ⟨y, ?_, hy⟩
      rw [loopM_out (e := y)]
      show i_LongDot_b1 L L y (j : Int) = _
      unfold i_LongDot_b1
      rw [hl, dnlt, bsel_false]
    | succ m ih =>
      intro j y hj hy
      have q := (qd_dy (qv_at h (show j < n by omega))).widen
      have hb := isum_le (f := fun j => qv (L.getD j none) * qv (L.getD j none)) (n := j) (B := 256) fun i _ => mul_bound (qv_le _) (qv_le _)
      have hb2 := mul_bound (qv_le (L.getD j none)) (qv_le (L.getD j none))
      have ad := hy.add (Dy.mul (s := 2) (t := 2) q q (by decide) (by omega)) (by omega)
      obtain ⟨z, k1, k2⟩ := ih (j + 1) _ (by omega) ad
      refine ⟨z, ?_, k2⟩
      have st : i_LongDot_s1 L L (y, (j : Int)) = some (.next (fop .add .f64 y (fop .mul .f64 (fwiden (L.getD j none)) (fwiden (L.getD j none))), ((j + 1 : Nat) : Int))) := by
        show i_LongDot_b1 L L y (j : Int) = _
        unfold i_LongDot_b1 i_mul64
        rw [hl, dlt (show j < n by omega), bsel_true, at?_n none (by omega), obind_eq]
        simp only [olet_eq]
        rw [obind_eq, obind_eq, wsucc (by omega)]
      rw [loopM_next st]; exact k1
  obtain ⟨y, k1, k2⟩ := key n 0 (some 0) (by omega) (Dy.zero .f64 (by decide))
  have k1 : loopM (i_LongDot_s1 L L) (some 0, 0) = some (.inl y) := k1
  have hb := isum_le (f := fun j => qv (L.getD j none) * qv (L.getD j none)) (n := n) (B := 256) fun i _ => mul_bound (qv_le _) (qv_le _)
  obtain ⟨z, z1, z2⟩ := k2.narrow (by decide) (by omega)
  refine ⟨z, ?_, z2⟩
  unfold i_LongDot
  rw [qv_are h h0 hn, obind_eq, bsel_true, k1]
  simp only [obind_eq, osum]
  unfold i_LongDot_k1 i_finite
  rw [z1, obind_eq, i_IsFinite_eq z2.fok, z2.fin, obind_eq, bsel_true, obind2_eq]
theorem carry_q {n : Nat} {L : List F} (h : QV n L) (h0 : 0 < n) (hn : n ≤ 12) : ∃ s c, i_CarrySum L = some (s, c, true) ∧ Dy .f32 2 (isum (fun j => qv (L.getD j none)) n) s ∧ Dy .f32 2 0 c := by
  have hl := h.vlen
  have hp : (2 : Nat) ^ dgn .f32 = 16777216 := by decide
  have key : ∀ (m j : Nat) (y c : F), j + m = n → Dy .f32 2 (isum (fun j => qv (L.getD j none)) j) y → Dy .f32 2 0 c →
      ∃ z w, loopM (i_CarrySum_s1 L) (y, c, (j : Int)) = some (.inl (z, w)) ∧ Dy .f32 2 (isum (fun j => qv (L.getD j none)) n) z ∧ Dy .f32 2 0 w := by
    intro m
    induction m with
    | zero =>
      intro j y c hj hy hc
      have e : j = n := by omega
      subst e
      refine ⟨y, c, ?_, hy, hc⟩
      rw [loopM_out (e := (y, c))]
      show i_CarrySum_b1 L y c (j : Int) = _
      unfold i_CarrySum_b1
      rw [hl, dnlt, bsel_false]
    | succ m ih =>
      intro j y c hj hy hc
      have q := qd_dy (qv_at h (show j < n by omega))
      have hq := qv_le (L.getD j none)
      have hb := isum_le (f := fun j => qv (L.getD j none)) (n := j) (B := 16) fun i _ => qv_le _
      have d1 := q.sub hc (by omega)
      rw [Int.sub_zero] at d1
      have d2 := hy.add d1 (by omega)
      have d3 := d2.sub hy (by omega)
      rw [show isum (fun j => qv (L.getD j none)) j + qv (L.getD j none) - isum (fun j => qv (L.getD j none)) j = qv (L.getD j none) from by omega] at d3
      have d4 := d3.sub d1 (by omega)
      rw [Int.sub_self] at d4
      obtain ⟨z, w, k1, k2, k3⟩ := ih (j + 1) _ _ (by omega) d2 d4
      refine ⟨z, w, ?_, k2, k3⟩
      have st : i_CarrySum_s1 L (y, c, (j : Int)) = some (.next (fop .add .f32 y (fop .sub .f32 (L.getD j none) c), fop .sub .f32 (fop .sub .f32 (fop .add .f32 y (fop .sub .f32 (L.getD j none) c)) y) (fop .sub .f32 (L.getD j none) c), ((j + 1 : Nat) : Int))) := by
        show i_CarrySum_b1 L y c (j : Int) = _
        unfold i_CarrySum_b1
        rw [hl, dlt (show j < n by omega), bsel_true, at?_n none (by omega), obind_eq]
        simp only [olet_eq]
        rw [wsucc (by omega)]
      rw [loopM_next st]; exact k1
  obtain ⟨s, c, k1, k2, k3⟩ := key n 0 (some 0) (some 0) (by omega) (Dy.zero .f32 (by decide)) (Dy.zero .f32 (by decide))
  have k1 : loopM (i_CarrySum_s1 L) (some 0, some 0, 0) = some (.inl (s, c)) := k1
  refine ⟨s, c, ?_, k2, k3⟩
  have ar : i_areFinite ([s, c] : List F) = some true := by
    rw [i_areFinite_eq (by
      intro x hx
      rcases List.mem_cons.1 hx with rfl | hx
      · exact k2.fok
      · rcases List.mem_cons.1 hx with rfl | hx
        · exact k3.fok
        · simp at hx) (by simp)]
    simp [k2.fin, k3.fin]
  unfold i_CarrySum
  rw [(qv_isv h h0 hn).1, obind_eq, bsel_true, k1]
  simp only [obind_eq, osum]
  unfold i_CarrySum_k1
  rw [ar, obind_eq, bsel_true]
theorem plain_q {n : Nat} {L : List F} (h : QV n L) (hn : n ≤ 12) : ∃ z, loopM (w_FnOrders_s19 (n : Int) L) (some 0, 0) = some (.inl z) ∧ Dy .f32 2 (isum (fun j => qv (L.getD j none)) n) z := by
  have hl := h.vlen
  have hp : (2 : Nat) ^ dgn .f32 = 16777216 := by decide
  have key : ∀ (m j : Nat) (y : F), j + m = n → Dy .f32 2 (isum (fun j => qv (L.getD j none)) j) y →
      ∃ z, loopM (w_FnOrders_s19 (n : Int) L) (y, (j : Int)) = some (.inl z) ∧ Dy .f32 2 (isum (fun j => qv (L.getD j none)) n) z := by
    intro m
    induction m with
    | zero =>
      intro j y hj hy
      have e : j = n := by omega
      subst e
      refine ⟨y, ?_, hy⟩
      rw [loopM_out (e := y)]
      show w_FnOrders_b19 (j : Int) L y (j : Int) = _
      unfold w_FnOrders_b19
      rw [dnlt, bsel_false]
    | succ m ih =>
      intro j y hj hy
      have q := qd_dy (qv_at h (show j < n by omega))
      have hq := qv_le (L.getD j none)
      have hb := isum_le (f := fun j => qv (L.getD j none)) (n := j) (B := 16) fun i _ => qv_le _
      have ad := hy.add q (by omega)
      obtain ⟨z, k1, k2⟩ := ih (j + 1) _ (by omega) ad
      refine ⟨z, ?_, k2⟩
      have st : w_FnOrders_s19 (n : Int) L (y, (j : Int)) = some (.next (fop .add .f32 y (L.getD j none), ((j + 1 : Nat) : Int))) := by
        show w_FnOrders_b19 (n : Int) L y (j : Int) = _
        unfold w_FnOrders_b19
        rw [dlt (show j < n by omega), bsel_true, at?_n none (by omega), obind_eq, olet_eq, olet_eq, wsucc (by omega)]
      rw [loopM_next st]; exact k1
  obtain ⟨z, k1, k2⟩ := key n 0 (some 0) (by omega) (Dy.zero .f32 (by decide))
  exact ⟨z, k1, k2⟩
theorem isum_one : ∀ n : Nat, isum (fun _ => (1 : Int)) n = (n : Int)
  | 0 => rfl
  | n + 1 => by
    show isum (fun _ => (1 : Int)) n + 1 = _
    rw [isum_one n]; omega
theorem ord_k18 {n : Nat} {L : List F} (h : QV n L) (h0 : 0 < n) (hn : n ≤ 12) : w_FnOrders_k18 (n : Int) L = some true := by
  obtain ⟨s, c, e1, e2, e3⟩ := carry_q h h0 hn
  obtain ⟨z, p1, p2⟩ := plain_q h hn
  unfold w_FnOrders_k18
  rw [e1, obind3_eq, p1]
  simp only [obind_eq, osum]
  unfold w_FnOrders_k19 w_FnOrders_k23
  rw [bsel_true, e2.feq p2, decide_eq_true rfl, bsel_true, e3.feq (Dy.zero .f32 (by decide)), decide_eq_true rfl]
theorem ord_k14 {a : List Int} (ha : Byt a) {n : Nat} (h0 : 0 < n) (hn : n ≤ 5) : w_FnOrders_k14 a (n : Int) (n : Int) (n : Int) (tabM n n unitF) = some true := by
  obtain ⟨v, hv, ev⟩ := r8vector ha (n := n) (by omega)
  obtain ⟨eo, dO⟩ := outer_q hv h0 (by omega)
  obtain ⟨K, ek⟩ := kron_q h0 hn
  obtain ⟨z, ez, dz⟩ := dot_q hv h0 (by omega)
  obtain ⟨y, ey, dy⟩ := long_q hv h0 (by omega)
  have hn2 : n ≤ 12 := by omega
  have mT : Mat n n (tabM n n (fun i k => fop .mul .f32 (v.getD i none) (v.getD k none))) := tabM_mat hn2 hn2
  have gT : FOks (tabM n n (fun i k => fop .mul .f32 (v.getD i none) (v.getD k none))) := tabM_oks hn2 hn2 fun i k => fop_fok _ _ _
  have fT := tab_fin (f := fun i k => fop .mul .f32 (v.getD i none) (v.getD k none)) hn2 hn2 fun i k hi hk => (dO i k hi hk).fin
  obtain ⟨w, ew, dw⟩ := trace_q (s := 4) (B := 256) (d := fun i => qv (v.getD i none) * qv (v.getD i none)) mT gT fT h0 (by decide) (fun i hi => by
    rw [tabM_gm hn2 hn2 hi hi]
    exact ⟨dO i i hi hi, mul_bound (qv_le _) (qv_le _)⟩) (by omega)
  unfold w_FnOrders_k14
  rw [ev, obind_eq, eo, obind4_eq, ek, obind4_eq, ez, obind2_eq, ey, obind2_eq, ew, obind2_eq]
  simp only [bsel_true, decide_true, Bool.not_true, bsel_false]
  rw [olet_eq, wi64 (by omega) (by omega), decide_eq_true (show ((2 * n : Nat) : Int) = 2 * (n : Int) from by omega), Bool.not_true, bsel_false, dz.feq dy, decide_eq_true rfl, Bool.not_true, bsel_false, dw.feq dz, decide_eq_true rfl, Bool.not_true, bsel_false]
  exact ord_k18 hv h0 hn2
theorem ord_k9 {a : List Int} (ha : Byt a) {n : Nat} {L : List F} (h : QM n n L) (h0 : 0 < n) (hn : n ≤ 5) {K : Nat → Nat → F} (hK : ∀ i k, i < n → k < n → Dy .f32 4 (isum (fun j => qv (gm none L n i j) * qv (gm none L n j k)) n) (K i k)) (x y : Int) :
    w_FnOrders_k9 a (n : Int) (n : Int) (n : Int) L (n : Int) (n : Int) (tabM n n unitF) true (n : Int) (n : Int) true (tabM n n unitF) x y (tabM n n K) true = some true := by
  have hn2 : n ≤ 12 := by omega
  have mU : Mat n n (tabM n n unitF) := tabM_mat hn2 hn2
  have gU : FOks (tabM n n unitF) := tabM_oks hn2 hn2 unitF_ok
  have fU : (tabM n n unitF).all fin32 = true := tab_fin hn2 hn2 fun i k _ _ => (unit_dy i k).fin
  obtain ⟨z, ez, dz⟩ := trace_q (s := 0) (B := 1) (d := fun _ => (1 : Int)) mU gU fU h0 (by decide) (fun i hi => by
    have := unit_dy i i
    rw [if_pos rfl] at this
    rw [tabM_gm hn2 hn2 hi hi]
    exact ⟨this, by decide⟩) (by omega)
  rw [isum_one] at dz
  have lK : (tabM n n K).length = n * n := (tabM_mat hn2 hn2).len
  have lM : (tabM n n (mulE n n L L)).length = n * n := (tabM_mat hn2 hn2).len
  have hnn := small_mul hn2 hn2
  have hp : (2 : Nat) ^ dgn .f32 = 16777216 := by decide
  unfold w_FnOrders_k9
  rw [mul_quart h h h0 h0 h0, obind4_eq, ez, obind2_eq]
  simp only [bsel_true]
  rw [same_refl gU mU.le, obind_eq, bsel_true, lK, lM, decide_eq_true rfl, Bool.not_true, bsel_false, olet_eq, dz.feq (Dy.int (by omega)), decide_eq_true rfl, Bool.not_true, bsel_false]
  have st : loopM (w_FnOrders_s14 (tabM n n K) (tabM n n (mulE n n L L))) 0 = some (.inl ()) := by
    refine loop_all (n := n * n) (by omega) (fun i hi => ?_) ?_
    · obtain ⟨f1, i1, i2⟩ := gm_flat (L := tabM n n (mulE n n L L)) h0 hi
      obtain ⟨f2, _, _⟩ := gm_flat (L := tabM n n K) h0 hi
      rw [tabM_gm hn2 hn2 i1 i2] at f1 f2
      have d1 := mulE_dy h h i1 i2
      have d2 := hK _ _ i1 i2
      rw [← f1] at d1
      rw [← f2] at d2
      show w_FnOrders_b14 _ _ (i : Int) = _
      unfold w_FnOrders_b14
      rw [lM, dlt hi, bsel_true, at?_n none (by omega), obind_eq, at?_n none (by omega), obind_eq, d2.feq d1, decide_eq_true rfl, Bool.not_true, bsel_false, olet_eq, wsucc (by omega)]
    · show w_FnOrders_b14 _ _ ((n * n : Nat) : Int) = _
      unfold w_FnOrders_b14
      rw [lM, dnlt, bsel_false]
  unfold w_FnOrders_k13
  rw [st]
  simp only [obind_eq, osum]
  exact ord_k14 ha h0 hn
theorem ord_k4 {a : List Int} (ha : Byt a) {n : Nat} {L : List F} {l : List Int} (h : QM n n L) (h0 : 0 < n) (hn : n ≤ 5) (g : OrdG n l) :
    w_FnOrders_k4 a (n : Int) (n : Int) (n : Int) L l (backP l) (tabM n n (fun i k => gm none L n (l.getD i 0).toNat k)) = some true := by
  have hn2 : n ≤ 12 := by omega
  have hR : QM n n (tabM n n (fun i k => gm none L n (l.getD i 0).toNat k)) := orderRows_QM h g.orng
  have st : loopM (w_FnOrders_s5 (n : Int) L l (backP l) (tabM n n (fun i k => gm none L n (l.getD i 0).toNat k))) 0 = some (.inl ()) := by
    refine loop_all (n := n) (by omega) (fun i hi => ?_) ?_
    · obtain ⟨j, hj, ej⟩ := g.orng i hi
      have eb := g.obk i hi
      rw [ej, Int.toNat_natCast] at eb
      have hlt1 := hR.m.lt hi h0
      have hlt2 := h.m.lt hj h0
      have e1 : (tabM n n (fun i k => gm none L n (l.getD i 0).toNat k)).getD (i * n) none = gm none (tabM n n (fun i k => gm none L n (l.getD i 0).toNat k)) n i 0 := rfl
      have e2 : L.getD (j * n) none = gm none L n j 0 := rfl
      have b1 : i * n ≤ 144 := Nat.le_trans (Nat.mul_le_mul (show i ≤ 12 by omega) hn2) (by decide)
      have b2 : j * n ≤ 144 := Nat.le_trans (Nat.mul_le_mul (show j ≤ 12 by omega) hn2) (by decide)
      have d := qd_dy (h.at hj h0)
      show w_FnOrders_b5 _ _ _ _ _ (i : Int) = _
      unfold w_FnOrders_b5
      have hlen := g.olen
      have hblen := g.blen
      rw [dlt hi, bsel_true, at?_n 0 (by omega), obind_eq, ej, at?_n 0 (by omega), obind_eq, eb, decide_eq_true rfl, Bool.not_true, bsel_false, olet_eq, ← Int.natCast_mul, wn (by omega), at?_n none (by omega), obind_eq, obind_eq, olet_eq, ← Int.natCast_mul, wn (by omega), at?_n none (by omega), obind_eq, e1, e2, tabM_gm hn2 hn2 hi h0, ej, Int.toNat_natCast, d.feq d, decide_eq_true rfl, Bool.not_true, bsel_false, olet_eq, wsucc (by omega)]
    · show w_FnOrders_b5 _ _ _ _ _ (n : Int) = _
      unfold w_FnOrders_b5
      rw [dnlt, bsel_false]
  obtain ⟨K, hK, eK⟩ := square_q h h0
  unfold w_FnOrders_k4
  rw [st]
  simp only [obind_eq, osum]
  unfold w_FnOrders_k5
  rw [power0_q h h0]
  simp only [obind_eq, osum, obind4_eq]
  unfold w_FnOrders_k7
  rw [unitM_q (by omega) hn2, obind4_eq, eK]
  simp only [obind_eq, osum, obind4_eq]
  exact ord_k9 ha h h0 hn hK _ _
theorem w_FnOrders_true (a0 a1 : List Int) (t0 : Small a0) (t1 : Small a1) (g0 : ∀ z ∈ a0, (Lit.int .u8 z).wf = true) (g1 : ∀ z ∈ a1, (Lit.int .u8 z).wf = true) : w_FnOrders a0 a1 = some true := by
  have b0 := byt_of g0
  have b1 := byt_of g1
  unfold w_FnOrders
  cases hlong : w_r8Long a0 a1 with
  | none =>
    unfold w_r8Long at hlong
    cases hd : decide (48 < (a0.length : Int)) <;> rw [hd] at hlong <;> cases hlong
  | some r =>
    rw [obind_eq]
    cases r with
    | true => rw [bsel_true]
    | false =>
      rw [bsel_false]
      obtain ⟨v, hv, ev⟩ := r8at b1 (k := 40) (n := 5) (by decide)
      have ev : w_r8At a1 40 5 = some (v : Int) := ev
      rw [ev, obind_eq, olet_eq, wi64 (by omega) (by omega), show (1 : Int) + (v : Int) = ((1 + v : Nat) : Int) from by omega]
      generalize hC : 1 + v = n
      have h0 : 0 < n := by omega
      have h5 : n ≤ 5 := by omega
      have hn2 : n ≤ 12 := by omega
      obtain ⟨L, hL, e1⟩ := r8sides b0 (R := n) (C := n) (by omega) (by omega)
      obtain ⟨l, gl, e2⟩ := r8order b1 (n := n) (by omega) h5
      have g := ord_good gl
      have hR : QM n n (tabM n n (fun i k => gm none L n (l.getD i 0).toNat k)) := orderRows_QM hL g.orng
      have o1 := orderRows_q hL h0 g.oord g.olen g.orng
      have o2 := orderRows_q hR h0 g.bord g.blen g.brng
      have ebk : tabM n n (fun i k => gm none (tabM n n (fun i k => gm none L n (l.getD i 0).toNat k)) n ((backP l).getD i 0).toNat k) = L := by
        refine mat_ext (tabM_mat hn2 hn2) hL.m fun i k hi hk => ?_
        obtain ⟨j, hj, ej⟩ := g.brng i hi
        have eb := g.bbk i hi
        rw [ej, Int.toNat_natCast] at eb
        rw [tabM_gm hn2 hn2 hi hk, ej, Int.toNat_natCast, tabM_gm hn2 hn2 hj hk, eb, Int.toNat_natCast]
      rw [ebk] at o2
      rw [e1, obind3_eq, e2, obind_eq, back_eq g hn2, obind2_eq, o1, obind4_eq, o2, obind4_eq, sign_eq g.oord (by have := g.olen; omega), obind2_eq, sign_eq g.bord (by have := g.blen; omega), obind2_eq]
      simp only [bsel_true]
      rw [same_refl hL.oks hL.m.le, obind_eq, bsel_true, decide_eq_true g.osg, Bool.not_true, bsel_false]
      simp only [i_IsOrder_eq, g.oord, g.bord, obind_eq, bsel_true]
      have k := ord_k4 b1 hL h0 h5 g
      rcases g.osgn with s | s
      · rw [s, decide_eq_true rfl, Bool.not_true, bsel_false]; exact k
      · rw [s, show decide ((-1 : Int) = 1) = false from rfl, Bool.not_false, bsel_true, decide_eq_true rfl, Bool.not_true, bsel_false]; exact k


end Go.Proofs.Ytcjbfpoaidjpaaa
